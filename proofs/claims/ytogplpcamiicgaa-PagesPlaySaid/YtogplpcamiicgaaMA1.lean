/- MA1: PgP, Pg1, Pg2, Pg3, Pg4, Pg5, Pg6, Pg7, Pg8. -/
import Derived.Test.YtogplpcamiicgaaLA4
import Derived.Test.YtogplpcamiicgaaIc
section
/- Pages: what a pager holds; plain laws of maps by lists. -/
set_option linter.unusedSimpArgs false
set_option linter.unusedVariables false
namespace Go.Proofs.Ytogplpcamiicgaa
open Go.RowKit Go.Bo Go.Ab

/-- Names, as entries. -/
def rowN (s : List UInt8) : List X := [X.str s, X.nils]
def rowsN (l : List (List UInt8)) : List (List X) := l.map rowN
theorem rowsN_len (l : List (List UInt8)) : (rowsN l).length = l.length := by simp [rowsN]
theorem rowsN_get (l : List (List UInt8)) (j : Nat) (h : j < l.length) : (rowsN l)[j]? = some [X.str l[j], X.nils] := by
  rw [rowsN, List.getElem?_map, List.getElem?_eq_getElem h]; rfl
theorem rowsN_take (l : List (List UInt8)) (k : Nat) : (rowsN l).take k = rowsN (l.take k) := by simp [rowsN, List.map_take]
theorem rowsN_drop (l : List (List UInt8)) (k : Nat) : (rowsN l).drop k = rowsN (l.drop k) := by simp [rowsN, List.map_drop]
theorem rowsN_all (l : List (List UInt8)) : ((rowsN l).all fun r => decide (r.length = 2)) = true := by
  rw [List.all_eq_true]; intro r hr; obtain ⟨s, _, rfl⟩ := List.mem_map.1 hr; rfl
abbrev Pg := List (Int × List (List UInt8))
abbrev vcP (l : List (List UInt8)) : List X := [X.sl (rowsN l)]
abbrev encP (L : Pg) : List Pr := encM kcI vcP L
theorem encP_len (L : Pg) : (encP L).length = L.length := encM_len ..
theorem encP_get (L : Pg) (c : Int) : mgetX (encP L) [.int .i64 c] = (mlook L c).map fun l => [D.x (X.sl (rowsN l))] := encM_get kcI vcP hkI L c
theorem encP_set (L : Pg) (c : Int) (l : List (List UInt8)) : msetX (encP L) [.int .i64 c] [D.x (X.sl (rowsN l))] = encP (mset L c l) := encM_set kcI vcP hkI L c l
theorem encP_del (L : Pg) (c : Int) : mdelX (encP L) [.int .i64 c] = encP (mdel L c) := encM_del kcI vcP hkI L c
def nodup (L : Pg) : Prop := (L.map (·.1)).Nodup
theorem perm_look {A B : Pg} (h : A.Perm B) (hn : nodup A) (c : Int) : mlook A c = mlook B c := by
  have hn' : nodup B := (h.map _).nodup_iff.1 hn
  have one : ∀ {A : Pg}, nodup A → ∀ v, mlook A c = some v ↔ (c, v) ∈ A := by
    intro A
    induction A with
    | nil => intro _ v; simp [mlook]
    | cons p A ih =>
      intro hn v
      unfold nodup at hn ih
      simp only [List.map_cons, List.nodup_cons] at hn
      by_cases e : c = p.1
      · have : mlook (p :: A) c = some p.2 := by simp [mlook, e]
        rw [this]
        constructor
        · intro hv; cases hv; rw [e]; exact List.mem_cons_self
        · intro hm
          rcases List.mem_cons.1 hm with hm | hm
          · rw [← hm]
          · exact absurd (List.mem_map.2 ⟨_, hm, rfl⟩) (e ▸ hn.1)
      · have : mlook (p :: A) c = mlook A c := by simp [mlook, e]
        rw [this, ih hn.2 v]
        constructor
        · exact fun hm => List.mem_cons_of_mem _ hm
        · intro hm
          rcases List.mem_cons.1 hm with hm | hm
          · exact absurd (by rw [← hm]) e
          · exact hm
  cases hA : mlook A c with
  | some v => exact ((one hn' v).2 (h.mem_iff.1 ((one hn v).1 hA))).symm
  | none =>
    cases hB : mlook B c with
    | none => rfl
    | some v => rw [(one hn v).2 (h.mem_iff.2 ((one hn' v).1 hB))] at hA; cases hA
theorem del_cons {A : Pg} {c : Int} {v : List (List UInt8)} (h : mlook A c = some v) : A.Perm ((c, v) :: mdel A c) := by
  induction A with
  | nil => simp [mlook] at h
  | cons p A ih =>
    by_cases e : c = p.1
    · have : mlook (p :: A) c = some p.2 := by simp [mlook, e]
      rw [this] at h; cases h
      have hd : mdel (p :: A) c = A := by simp [mdel, e]
      rw [hd, e]
    · have hl : mlook (p :: A) c = mlook A c := by simp [mlook, e]
      rw [hl] at h
      have hd : mdel (p :: A) c = p :: mdel A c := by simp [mdel, e]
      rw [hd]
      exact ((ih h).cons p).trans (List.Perm.swap _ _ _)
theorem del_none {A : Pg} {c : Int} (h : mlook A c = none) : mdel A c = A := by
  induction A with
  | nil => rfl
  | cons p A ih =>
    by_cases e : c = p.1
    · simp [mlook, e] at h
    · have hl : mlook (p :: A) c = mlook A c := by simp [mlook, e]
      rw [hl] at h
      simp [mdel, e, ih h]
theorem perm_del {A B : Pg} (h : A.Perm B) (hn : nodup A) (c : Int) : (mdel A c).Perm (mdel B c) := by
  have hl := perm_look h hn c
  cases hA : mlook A c with
  | none => rw [del_none hA, del_none (hl ▸ hA)]; exact h
  | some v => exact ((del_cons hA).symm.trans (h.trans (del_cons (hl ▸ hA)))).cons_inv
theorem set_some {A : Pg} {c : Int} {v w : List (List UInt8)} (h : mlook A c = some v) : (mset A c w).Perm (mdel A c ++ [(c, w)]) := by
  induction A with
  | nil => simp [mlook] at h
  | cons p A ih =>
    by_cases e : c = p.1
    · have h1 : mset (p :: A) c w = (c, w) :: A := by simp [mset, e]
      have h2 : mdel (p :: A) c = A := by simp [mdel, e]
      rw [h1, h2]
      exact (List.perm_append_singleton _ _).symm
    · have hl : mlook (p :: A) c = mlook A c := by simp [mlook, e]
      rw [hl] at h
      have h1 : mset (p :: A) c w = p :: mset A c w := by simp [mset, e]
      have h2 : mdel (p :: A) c = p :: mdel A c := by simp [mdel, e]
      rw [h1, h2]
      exact (ih h).cons p
theorem set_none {A : Pg} {c : Int} {w : List (List UInt8)} (h : mlook A c = none) : mset A c w = A ++ [(c, w)] := by
  induction A with
  | nil => rfl
  | cons p A ih =>
    by_cases e : c = p.1
    · simp [mlook, e] at h
    · have hl : mlook (p :: A) c = mlook A c := by simp [mlook, e]
      rw [hl] at h
      simp [mset, e, ih h]
theorem del_len {A : Pg} {c : Int} {v : List (List UInt8)} (h : mlook A c = some v) : A.length = (mdel A c).length + 1 := by
  have := (del_cons h).length_eq; simpa using this
end Go.Proofs.Ytogplpcamiicgaa
end
section
/- Pages: the pager's functions. -/
set_option linter.unusedSimpArgs false
set_option linter.unusedVariables false
namespace Go.Proofs.Ytogplpcamiicgaa
open Go.RowKit Go.Bo Go.Ab

theorem pclone_c (rs : List (List X)) (hl : rs.length ≤ 1099511627776) (hz : (rs.all fun r => decide (r.length = 2)) = true) : PCalls Try.prog 32 [.x (.sl rs)] (.x (.sl rs)) := by
  refine FCalls.pure (fcallsG (fz := true) G_ok (p := i32) rfl _ (Nat.le_of_ble_eq_true rfl) _ (fun c E0 => ?_)) rfl
  dsimp only [i32, argsφ]
  refine WI.seq ?_
  refine WI.regA noTabs_ok [0] (fun K hK => ?_)
  refine osS (by simp only [zC, stepOp, aval, opv, Ab.get, Ab.put, putO, Nat.reduceEqDiff, ↓reduceIte, D.val, D.cond, reduceCtorEq]; rfl) rfl ?_
  refine osN ?_
  simp only [keep, memN, Nat.reduceEqDiff, if_true, if_false, ↓reduceIte, Option.getD_none, Option.getD_some, List.append_nil, List.cons_append, List.nil_append, Bool.false_eq_true]
  refine hK _ _ ?_
  clear hK K
  refine thenQ_normal ?_
  refine WI.seq ?_
  refine WI.seq ?_
  refine WI.nilSplit 0 rfl (fun hn => ?_) ?_
  · simp only [put, Nat.reduceEqDiff, ↓reduceIte]
    refine WI.regA noTabs_ok [0, 4] (fun K hK => ?_)
    refine osS (by simp only [zC, stepOp, aval, opv, Ab.get, Ab.put, putO, Nat.reduceEqDiff, ↓reduceIte, D.val, D.cond, reduceCtorEq]; rfl) rfl ?_
    refine osS (by simp (disch := omega) only [zM, stepOp, aval, opv, Ab.get, Ab.put, putO, Nat.reduceEqDiff, ↓reduceIte, D.val, D.cond, reduceCtorEq, aact, actT, IE.isCall, D.cells?, Nat.reduceAdd, Nat.reduceLeDiff, Ob.slice?, Nat.reduceSub, Nat.reduceMul, Int.reduceToNat, Int.reduceLE, Int.reduceLT, Int.reduceAdd, Int.reduceSub, Int.reduceMul, Int.reduceNeg, Int.reduceEq, rowsOf, srcOf, okRef, intOf?, partsD, freezeL, freezeD, buildD, slcStrD, slcSlD, optV, zeroO, eqR, eqD, eqFs, eqX, nzD, binD, unD, lenD, evK, evC, Nat.reduceLT, zO, hz]; rfl) (by first | with_reducible rfl | omega | (simp; done) | (simp; omega) | rfl) ?_
    refine osN ?_
    simp only [keep, memN, Nat.reduceEqDiff, if_true, if_false, ↓reduceIte, Option.getD_none, Option.getD_some, List.append_nil, List.cons_append, List.nil_append, Bool.false_eq_true]
    refine hK _ _ ?_
    clear hK K
    refine thenQ_normal ?_
    refine WI.cond (b := _) rfl rfl (fun h0 => ?_) (fun h0 => ?_)
    · try simp only [zB] at h0
      refine WI.seq ?_
      refine WI.regA noTabs_ok [2] (fun K hK => ?_)
      refine osS (by simp only [zC, stepOp, aval, opv, Ab.get, Ab.put, putO, Nat.reduceEqDiff, ↓reduceIte, D.val, D.cond, reduceCtorEq]; rfl) rfl ?_
      refine osN ?_
      simp only [keep, memN, Nat.reduceEqDiff, if_true, if_false, ↓reduceIte, Option.getD_none, Option.getD_some, List.append_nil, List.cons_append, List.nil_append, Bool.false_eq_true]
      refine hK _ _ ?_
      clear hK K
      refine thenQ_normal ?_
      refine WI.nn ?_
      simp only [zV, zO, Ob.mpb, frzL, nrmφ, nrmO, onF, Ob.onI, mpP, renP, Option.map_some, Option.map_none, D.vw, vwL, D.on, D.inP, inL, memB, D.ren, renL, inv, fpO, Ob.mp, Ob.ren, D.nn, nnφ, Nat.reduceBEq, Nat.reduceEqDiff, Nat.reduceAdd, ↓reduceIte]
      refine WI.ret ?_
      refine thenQ_ret ?_
      refine ⟨.inr rfl, ?_⟩
      -- leaf 0
      simp (disch := omega) only [zF, retD, resD, finD, plainD, freezeD, freezeL, aval, opv, Ab.get, Nat.reduceEqDiff, ↓reduceIte, D.val, D.cond, Nat.reduceAdd, Nat.reduceLeDiff, Ob.slice?, hz]
      refine ⟨_, _, rfl, ?_⟩
      simp only [mkR]
      rw [hn]
    · exfalso
      simp at h0
  · simp only [put, Nat.reduceEqDiff, ↓reduceIte]
    refine WI.regA noTabs_ok [0, 4] (fun K hK => ?_)
    refine osS (by simp only [zC, stepOp, aval, opv, Ab.get, Ab.put, putO, Nat.reduceEqDiff, ↓reduceIte, D.val, D.cond, reduceCtorEq]; rfl) rfl ?_
    refine osS (by simp (disch := omega) only [zM, stepOp, aval, opv, Ab.get, Ab.put, putO, Nat.reduceEqDiff, ↓reduceIte, D.val, D.cond, reduceCtorEq, aact, actT, IE.isCall, D.cells?, Nat.reduceAdd, Nat.reduceLeDiff, Ob.slice?, Nat.reduceSub, Nat.reduceMul, Int.reduceToNat, Int.reduceLE, Int.reduceLT, Int.reduceAdd, Int.reduceSub, Int.reduceMul, Int.reduceNeg, Int.reduceEq, rowsOf, srcOf, okRef, intOf?, partsD, freezeL, freezeD, buildD, slcStrD, slcSlD, optV, zeroO, eqR, eqD, eqFs, eqX, nzD, binD, unD, lenD, evK, evC, Nat.reduceLT, zO, hz]; rfl) (by first | with_reducible rfl | omega | (simp; done) | (simp; omega) | rfl) ?_
    refine osN ?_
    simp only [keep, memN, Nat.reduceEqDiff, if_true, if_false, ↓reduceIte, Option.getD_none, Option.getD_some, List.append_nil, List.cons_append, List.nil_append, Bool.false_eq_true]
    refine hK _ _ ?_
    clear hK K
    refine thenQ_normal ?_
    refine WI.cond (b := _) rfl rfl (fun h0 => ?_) (fun h0 => ?_)
    · exfalso
      simp at h0
    · try simp only [zB] at h0
      refine WI.skip ?_
      refine thenQ_normal ?_
      refine WI.seq ?_
      refine WI.unNz 0 rfl ?_
      simp only [put, Nat.reduceEqDiff, ↓reduceIte]
      refine WI.regA noTabs_ok [2] (fun K hK => ?_)
      refine osS (by simp (disch := omega) only [zM, stepOp, aval, opv, Ab.get, Ab.put, putO, Nat.reduceEqDiff, ↓reduceIte, D.val, D.cond, reduceCtorEq, aact, actT, IE.isCall, D.cells?, Nat.reduceAdd, Nat.reduceLeDiff, Ob.slice?, Nat.reduceSub, Nat.reduceMul, Int.reduceToNat, Int.reduceLE, Int.reduceLT, Int.reduceAdd, Int.reduceSub, Int.reduceMul, Int.reduceNeg, Int.reduceEq, rowsOf, srcOf, okRef, intOf?, partsD, freezeL, freezeD, buildD, slcStrD, slcSlD, optV, zeroO, eqR, eqD, eqFs, eqX, nzD, binD, unD, lenD, evK, evC, Nat.reduceLT, zO, hz]; rfl) (by first | with_reducible rfl | omega | (simp; done) | (simp; omega) | rfl) ?_
      refine osS (by simp only [zC, stepOp, aval, opv, Ab.get, Ab.put, putO, Nat.reduceEqDiff, ↓reduceIte, D.val, D.cond, reduceCtorEq]; rfl) rfl ?_
      refine osS (by simp (disch := omega) only [zM, stepOp, aval, opv, Ab.get, Ab.put, putO, Nat.reduceEqDiff, ↓reduceIte, D.val, D.cond, reduceCtorEq, aact, actT, IE.isCall, D.cells?, Nat.reduceAdd, Nat.reduceLeDiff, Ob.slice?, Nat.reduceSub, Nat.reduceMul, Int.reduceToNat, Int.reduceLE, Int.reduceLT, Int.reduceAdd, Int.reduceSub, Int.reduceMul, Int.reduceNeg, Int.reduceEq, rowsOf, srcOf, okRef, intOf?, partsD, freezeL, freezeD, buildD, slcStrD, slcSlD, optV, zeroO, eqR, eqD, eqFs, eqX, nzD, binD, unD, lenD, evK, evC, Nat.reduceLT, zO, hz]; rfl) (by first | with_reducible rfl | omega | (simp; done) | (simp; omega) | rfl) ?_
      refine osS (by simp only [zC, stepOp, aval, opv, Ab.get, Ab.put, putO, Nat.reduceEqDiff, ↓reduceIte, D.val, D.cond, reduceCtorEq]; rfl) rfl ?_
      refine osN ?_
      simp only [keep, memN, Nat.reduceEqDiff, if_true, if_false, ↓reduceIte, Option.getD_none, Option.getD_some, List.append_nil, List.cons_append, List.nil_append, Bool.false_eq_true]
      refine hK _ _ ?_
      clear hK K
      refine thenQ_normal ?_
      refine WI.ret ?_
      refine ⟨.inr rfl, ?_⟩
      -- leaf 1
      simp (disch := omega) only [zF, retD, resD, finD, plainD, freezeD, freezeL, aval, opv, Ab.get, Nat.reduceEqDiff, ↓reduceIte, D.val, D.cond, Nat.reduceAdd, Nat.reduceLeDiff, Ob.slice?, hz]
      refine ⟨_, _, rfl, ?_⟩
      simp only [mkR]
      all_goals first | exact ⟨rfl, rfl⟩ | exact ⟨trivial, trivial⟩ | rfl | trivial
def pcloneG : List D → Option (Bool × D)
  | [.x (.sl rs)] => some (decide (rs.length ≤ 1099511627776) && rs.all fun r => decide (r.length = 2), .x (.sl rs))
  | _ => none
theorem pcloneG_ok : ∀ args r, pcloneG args = some (true, r) → PCalls Try.prog 32 args r := by
  intro args r h
  unfold pcloneG at h
  split at h
  · simp only [Option.some.injEq, Prod.mk.injEq, Bool.and_eq_true, decide_eq_true_eq] at h
    obtain ⟨⟨h1, h2⟩, rfl⟩ := h
    exact pclone_c _ h1 h2
  · cases h
/-- A pager. -/
abbrev pgB (m k : Int) : Ob := .box [.mref 1, .x (.int .i64 m), .x (.int .i64 k)]
abbrev pgM (L : Pg) : Ob := .mpo (.int .i64) false (encP L)
theorem new38_ok (m : Int) (h : 1 ≤ m ∧ m ≤ 1024) : MCalls Try.prog 13 [.x (.int .i64 m)] [] (.tup [.ptr 1 0, .x (.int .i64 0)]) [.mpo (.int .i64) false [], .box [.mref 0, .x (.int .i64 m), .x (.int .i64 0)]] := by
  refine FCalls.mcalls (fcallsG (fz := false) G_ok (p := i13) rfl _ (Nat.le_of_ble_eq_true rfl) _ (fun c E0 => ?_))
  dsimp only [i13, argsφ]
  have uu := trivial
  refine WI.seq ?_
  refine WI.regB noTabs_ok [0] ?_
  iterate 2 refine oS ?_
  refine oN ?_
  refine thenQ_normal ?_
  refine WI.seq ?_
  refine WI.seq ?_
  refine WI.regB noTabs_ok [0, 9] ?_
  refine oS ?_
  refine oG ?_
  refine oS ?_
  iterate 3 refine oG ?_
  refine oN ?_
  refine thenQ_normal ?_
  refine WI.cond (b := _) rfl rfl (fun h0 => ?_) (fun h0 => ?_)
  · exfalso
    simp only [zB] at h0; omega
  · try simp only [zB] at h0
    refine WI.skip ?_
    refine thenQ_normal ?_
    refine WI.seq ?_
    refine WI.regB noTabs_ok [2, 3] ?_
    refine oG ?_
    refine oS ?_
    iterate 2 refine oG ?_
    iterate 2 refine oS ?_
    refine oN ?_
    refine thenQ_normal ?_
    refine WI.ret ?_
    first | refine lfR ?_ | refine lfR2 ?_
    first | rfl | exact ⟨rfl, rfl⟩ | trivial -- leaf 0
theorem new38_bad (m : Int) (h : ¬ (1 ≤ m ∧ m ≤ 1024)) : MCalls Try.prog 13 [.x (.int .i64 m)] [] (.tup [.x .nilp, .x (.int .i64 1)]) [] := by
  refine FCalls.mcalls (fcallsG (fz := false) G_ok (p := i13) rfl _ (Nat.le_of_ble_eq_true rfl) _ (fun c E0 => ?_))
  dsimp only [i13, argsφ]
  have uu := trivial
  refine WI.seq ?_
  refine WI.regB noTabs_ok [0] ?_
  iterate 2 refine oS ?_
  refine oN ?_
  refine thenQ_normal ?_
  refine WI.seq ?_
  refine WI.seq ?_
  refine WI.regB noTabs_ok [0, 9] ?_
  refine oS ?_
  refine oG ?_
  refine oS ?_
  iterate 3 refine oG ?_
  refine oN ?_
  refine thenQ_normal ?_
  refine WI.cond (b := _) rfl rfl (fun h0 => ?_) (fun h0 => ?_)
  · try simp only [zB] at h0
    refine WI.seq ?_
    refine WI.regB noTabs_ok [2, 3] ?_
    iterate 2 refine oS ?_
    refine oN ?_
    refine thenQ_normal ?_
    refine WI.ret ?_
    refine thenQ_ret ?_
    first | refine lfR ?_ | refine lfR2 ?_
    first | rfl | exact ⟨rfl, rfl⟩ | trivial -- leaf 0
  · exfalso
    simp only [zB] at h0; omega
theorem plen_c (m k : Int) (L : Pg) : MCalls Try.prog 20 [.ptr 0 0] [pgB m k, pgM L] (.x (.int .i64 L.length)) [pgB m k, pgM L] := by
  refine FCalls.mcalls (fcallsG (fz := false) G_ok (p := i20) rfl _ (Nat.le_of_ble_eq_true rfl) _ (fun c E0 => ?_))
  dsimp only [i20, argsφ]
  have uu := @encP_len
  refine WI.seq ?_
  refine WI.regB noTabs_ok [0] ?_
  refine oS ?_
  refine oN ?_
  refine thenQ_normal ?_
  refine WI.seq ?_
  refine WI.seq ?_
  refine WI.regB noTabs_ok [0, 4] ?_
  refine oS ?_
  refine oG ?_
  refine oN ?_
  refine thenQ_normal ?_
  refine WI.cond (b := _) rfl rfl (fun h0 => ?_) (fun h0 => ?_)
  · exfalso
    simp at h0
  · try simp only [zB] at h0
    refine WI.skip ?_
    refine thenQ_normal ?_
    refine WI.seq ?_
    refine WI.regB noTabs_ok [2] ?_
    iterate 3 refine oS ?_
    iterate 2 refine oG ?_
    refine oS ?_
    refine oN ?_
    refine thenQ_normal ?_
    refine WI.ret ?_
    first | refine lfR ?_ | refine lfR2 ?_
    first | rfl | exact ⟨rfl, rfl⟩ | trivial -- leaf 0
theorem pdrop_c (m k c : Int) (L : Pg) : MCalls Try.prog 18 [.ptr 0 0, .x (.int .i64 c)] [pgB m k, pgM L] (.x (.bool (mlook L c).isSome)) [pgB m k, pgM (mdel L c)] := by
  cases hL : mlook L c with
  | none =>
    have hm : mgetX (encP L) [.int .i64 c] = none := by rw [encP_get, hL]; rfl
    have hd := encP_del L c
    refine FCalls.mcalls (fcallsG (fz := false) G_ok (p := i18) rfl _ (Nat.le_of_ble_eq_true rfl) _ (fun c E0 => ?_))
    dsimp only [i18, argsφ]
    have uu := And.intro hm (hd)
    refine WI.seq ?_
    refine WI.regB noTabs_ok [0, 1] ?_
    refine oS ?_
    refine oN ?_
    refine thenQ_normal ?_
    refine WI.seq ?_
    refine WI.seq ?_
    refine WI.regB noTabs_ok [0, 1, 8] ?_
    refine oS ?_
    refine oG ?_
    refine oN ?_
    refine thenQ_normal ?_
    refine WI.cond (b := _) rfl rfl (fun h0 => ?_) (fun h0 => ?_)
    · exfalso
      simp at h0
    · try simp only [zB] at h0
      refine WI.skip ?_
      refine thenQ_normal ?_
      refine WI.seq ?_
      refine WI.regB noTabs_ok [0, 1, 6] ?_
      iterate 3 refine oS ?_
      refine oG ?_
      refine oS ?_
      refine oG ?_
      refine oS ?_
      iterate 2 refine oG ?_
      iterate 2 refine oS ?_
      refine oN ?_
      refine thenQ_normal ?_
      refine WI.seq ?_
      refine WI.regB noTabs_ok [6] ?_
      iterate 3 refine oS ?_
      refine oG ?_
      refine oS ?_
      refine oG ?_
      refine oN ?_
      refine thenQ_normal ?_
      refine WI.seq ?_
      refine WI.regB noTabs_ok [4] ?_
      iterate 2 refine oS ?_
      refine oN ?_
      refine thenQ_normal ?_
      refine WI.ret ?_
      first | refine lfR ?_ | refine lfR2 ?_
      first | rfl | exact ⟨rfl, rfl⟩ | trivial -- leaf 0
  | some l =>
    have hm : mgetX (encP L) [.int .i64 c] = some [D.x (X.sl (rowsN l))] := by rw [encP_get, hL]; rfl
    have hd := encP_del L c
    refine FCalls.mcalls (fcallsG (fz := false) G_ok (p := i18) rfl _ (Nat.le_of_ble_eq_true rfl) _ (fun c E0 => ?_))
    dsimp only [i18, argsφ]
    have uu := And.intro hm (hd)
    refine WI.seq ?_
    refine WI.regB noTabs_ok [0, 1] ?_
    refine oS ?_
    refine oN ?_
    refine thenQ_normal ?_
    refine WI.seq ?_
    refine WI.seq ?_
    refine WI.regB noTabs_ok [0, 1, 8] ?_
    refine oS ?_
    refine oG ?_
    refine oN ?_
    refine thenQ_normal ?_
    refine WI.cond (b := _) rfl rfl (fun h0 => ?_) (fun h0 => ?_)
    · exfalso
      simp at h0
    · try simp only [zB] at h0
      refine WI.skip ?_
      refine thenQ_normal ?_
      refine WI.seq ?_
      refine WI.regB noTabs_ok [0, 1, 6] ?_
      iterate 3 refine oS ?_
      refine oG ?_
      refine oS ?_
      refine oG ?_
      refine oS ?_
      iterate 2 refine oG ?_
      iterate 2 refine oS ?_
      refine oN ?_
      refine thenQ_normal ?_
      refine WI.seq ?_
      refine WI.regB noTabs_ok [6] ?_
      iterate 3 refine oS ?_
      refine oG ?_
      refine oS ?_
      refine oG ?_
      refine oN ?_
      refine thenQ_normal ?_
      refine WI.seq ?_
      refine WI.regB noTabs_ok [4] ?_
      iterate 2 refine oS ?_
      refine oN ?_
      refine thenQ_normal ?_
      refine WI.ret ?_
      first | refine lfR ?_ | refine lfR2 ?_
      first | rfl | exact ⟨rfl, rfl⟩ | trivial -- leaf 0
end Go.Proofs.Ytogplpcamiicgaa
end
section
/- Pages: Begin, Next. -/
set_option linter.unusedSimpArgs false
set_option linter.unusedVariables false
namespace Go.Proofs.Ytogplpcamiicgaa
open Go.RowKit Go.Bo Go.Ab

def tabPg1 : Tabs := addQ (noTabs) 32 pcloneG
theorem tabPg1_ok : SsOk Try.prog tabPg1 := addQ_ok (noTabs_ok) (G_enters G_ok (p := i32) rfl) pcloneG_ok
theorem tabPg1_q32 (a : List D) : tabPg1.q 32 a = pcloneG a := rfl
theorem tabPg1_r (f : FuncId) (a : List D) (o : List Ob) : tabPg1.r f a o = none := rfl
theorem tabPg1_k (f : FuncId) (a : List D) (o : List Ob) : tabPg1.k f a o = none := rfl
def okBegin (m : Int) (L : Pg) (l : List (List UInt8)) : Prop := l ≠ [] ∧ (L.length : Int) < m
theorem begin_ok (m k : Int) (L : Pg) (l : List (List UInt8)) (h : okBegin m L l) (hk : 0 ≤ k ∧ k ≤ 1000000) (hl : l.length ≤ 1000000) : MCalls Try.prog 15 [.ptr 0 0, .x (.sl (rowsN l))] [pgB m k, pgM L] (.tup [.x (.int .i64 (k + 1)), .x (.bool true)]) [pgB m (k + 1), pgM (mset L (k + 1) l)] := by
  have h1 := h.1
  have h2 := h.2
  have h3 : 0 < l.length := List.length_pos_iff.2 h1
  have hs := encP_set L (k + 1) l
  have ha := rowsN_all l
  refine FCalls.mcalls (fcallsG (fz := false) G_ok (p := i15) rfl _ (Nat.le_of_ble_eq_true rfl) _ (fun c E0 => ?_))
  dsimp only [i15, argsφ]
  have uu := And.intro @encP_len (And.intro @rowsN_len (And.intro hs (And.intro ha (And.intro @pcloneG.eq_1 (And.intro @pcloneG.eq_2 (And.intro @tabPg1_r (And.intro @tabPg1_k (@tabPg1_q32))))))))
  refine WI.seq ?_
  refine WI.regB tabPg1_ok [0, 1] ?_
  iterate 2 refine oS ?_
  refine oN ?_
  refine thenQ_normal ?_
  refine WI.seq ?_
  refine WI.seq ?_
  refine WI.dregB tabPg1_ok [0, 1, 24] ?_
  refine dFS ?_
  refine dFG ?_
  refine dFS ?_
  refine dFG ?_
  refine dQG ?_
  iterate 2 refine dFG ?_
  refine dFS ?_
  iterate 3 refine dFG ?_
  iterate 2 refine dQG ?_
  iterate 3 refine dFG ?_
  refine dQG ?_
  iterate 2 refine dFG ?_
  refine dN ?_
  refine thenQ_normal ?_
  refine WI.cond (b := _) rfl rfl (fun h0 => ?_) (fun h0 => ?_)
  · exfalso
    simp only [zB] at h0; omega
  · try simp only [zB] at h0
    refine WI.skip ?_
    refine thenQ_normal ?_
    refine WI.seq ?_
    refine WI.regB tabPg1_ok [0, 1] ?_
    iterate 3 refine oS ?_
    iterate 2 refine oG ?_
    iterate 2 refine oS ?_
    refine oG ?_
    refine oN ?_
    refine thenQ_normal ?_
    refine WI.seq ?_
    refine WI.dregB tabPg1_ok [0] ?_
    iterate 3 refine dFS ?_
    refine dQG ?_
    iterate 3 refine dFS ?_
    refine dQG ?_
    refine dFS ?_
    refine dQC ?_
    refine dAG ?_
    refine dN ?_
    refine thenQ_normal ?_
    refine WI.seq ?_
    refine WI.regB tabPg1_ok [4, 5] ?_
    iterate 3 refine oS ?_
    refine oG ?_
    iterate 2 refine oS ?_
    refine oN ?_
    refine thenQ_normal ?_
    refine WI.ret ?_
    first | refine lfR ?_ | refine lfR2 ?_
    first | rfl | exact ⟨rfl, rfl⟩ | trivial -- leaf 0
theorem begin_no (m k : Int) (L : Pg) (l : List (List UInt8)) (h : ¬ okBegin m L l) : MCalls Try.prog 15 [.ptr 0 0, .x (.sl (rowsN l))] [pgB m k, pgM L] (.tup [.x (.int .i64 0), .x (.bool false)]) [pgB m k, pgM L] := by
  have h1 : ¬ (0 < l.length ∧ (L.length : Int) < m) := fun k => h ⟨List.length_pos_iff.1 k.1, k.2⟩
  refine FCalls.mcalls (fcallsG (fz := false) G_ok (p := i15) rfl _ (Nat.le_of_ble_eq_true rfl) _ (fun c E0 => ?_))
  dsimp only [i15, argsφ]
  have uu := And.intro @encP_len (And.intro @rowsN_len (And.intro @tabPg1_r (And.intro @tabPg1_k (And.intro @tabPg1_q32 (And.intro @pcloneG.eq_1 (@pcloneG.eq_2))))))
  refine WI.seq ?_
  refine WI.regB tabPg1_ok [0, 1] ?_
  iterate 2 refine oS ?_
  refine oN ?_
  refine thenQ_normal ?_
  refine WI.seq ?_
  refine WI.seq ?_
  refine WI.dregB tabPg1_ok [0, 1, 24] ?_
  refine dFS ?_
  refine dFG ?_
  refine dFS ?_
  refine dFG ?_
  refine dQG ?_
  iterate 2 refine dFG ?_
  refine dFS ?_
  iterate 3 refine dFG ?_
  iterate 2 refine dQG ?_
  iterate 3 refine dFG ?_
  refine dQG ?_
  iterate 2 refine dFG ?_
  refine dN ?_
  refine thenQ_normal ?_
  refine WI.cond (b := _) rfl rfl (fun h0 => ?_) (fun h0 => ?_)
  · try simp only [zB] at h0
    refine WI.seq ?_
    refine WI.regB tabPg1_ok [4, 5] ?_
    iterate 2 refine oS ?_
    refine oN ?_
    refine thenQ_normal ?_
    refine WI.ret ?_
    refine thenQ_ret ?_
    first | refine lfR ?_ | refine lfR2 ?_
    first | rfl | exact ⟨rfl, rfl⟩ | trivial -- leaf 0
  · exfalso
    simp only [zB] at h0; omega
theorem next_range (m k c n : Int) (L : Pg) (h : ¬ (1 ≤ n ∧ n ≤ 1024)) : MCalls Try.prog 21 [.ptr 0 0, .x (.int .i64 c), .x (.int .i64 n)] [pgB m k, pgM L] (.tup [.x .nils, .x (.int .i64 0), .x (.int .i64 2)]) [pgB m k, pgM L] := by
  refine FCalls.mcalls (fcallsG (fz := false) G_ok (p := i21) rfl _ (Nat.le_of_ble_eq_true rfl) _ (fun c E0 => ?_))
  dsimp only [i21, argsφ]
  have uu := And.intro @tabPg1_r (And.intro @tabPg1_k (And.intro @tabPg1_q32 (And.intro @pcloneG.eq_1 (@pcloneG.eq_2))))
  refine WI.seq ?_
  refine WI.regB tabPg1_ok [0, 1, 2] ?_
  iterate 3 refine oS ?_
  refine oN ?_
  refine thenQ_normal ?_
  refine WI.seq ?_
  refine WI.block ?_
  refine WI.seq ?_
  refine WI.regB tabPg1_ok [0, 1, 2, 11] ?_
  refine oS ?_
  refine oG ?_
  refine oS ?_
  refine oN ?_
  refine thenQ_normal ?_
  refine WI.cond (b := _) rfl rfl (fun h0 => ?_) (fun h0 => ?_)
  · exfalso
    simp at h0
  · try simp only [zB] at h0
    refine WI.seq ?_
    refine WI.regB tabPg1_ok [0, 1, 2, 14] ?_
    refine oS ?_
    refine oG ?_
    refine oS ?_
    iterate 3 refine oG ?_
    refine oS ?_
    refine oN ?_
    refine thenQ_normal ?_
    refine WI.cond (b := _) rfl rfl (fun h1 => ?_) (fun h1 => ?_)
    · try simp only [zB] at h1
      refine WI.seq ?_
      refine WI.regB tabPg1_ok [6, 7, 8] ?_
      iterate 3 refine oS ?_
      refine oN ?_
      refine thenQ_normal ?_
      refine WI.ret ?_
      refine blockQ_ret ?_
      refine thenQ_ret ?_
      first | refine lfR ?_ | refine lfR2 ?_
      first | rfl | exact ⟨rfl, rfl⟩ | trivial -- leaf 0
    · exfalso
      simp only [zB] at h1; omega
theorem next_none (m k c n : Int) (L : Pg) (h : 1 ≤ n ∧ n ≤ 1024) (hL : mlook L c = none) : MCalls Try.prog 21 [.ptr 0 0, .x (.int .i64 c), .x (.int .i64 n)] [pgB m k, pgM L] (.tup [.x .nils, .x (.int .i64 0), .x (.int .i64 8)]) [pgB m k, pgM L] := by
  have hm : mgetX (encP L) [.int .i64 c] = none := by rw [encP_get, hL]; rfl
  refine FCalls.mcalls (fcallsG (fz := false) G_ok (p := i21) rfl _ (Nat.le_of_ble_eq_true rfl) _ (fun c E0 => ?_))
  dsimp only [i21, argsφ]
  have uu := And.intro hm (And.intro @tabPg1_r (And.intro @tabPg1_k (And.intro @tabPg1_q32 (And.intro @pcloneG.eq_1 (@pcloneG.eq_2)))))
  refine WI.seq ?_
  refine WI.regB tabPg1_ok [0, 1, 2] ?_
  iterate 3 refine oS ?_
  refine oN ?_
  refine thenQ_normal ?_
  refine WI.seq ?_
  refine WI.block ?_
  refine WI.seq ?_
  refine WI.regB tabPg1_ok [0, 1, 2, 11] ?_
  refine oS ?_
  refine oG ?_
  refine oS ?_
  refine oN ?_
  refine thenQ_normal ?_
  refine WI.cond (b := _) rfl rfl (fun h0 => ?_) (fun h0 => ?_)
  · exfalso
    simp at h0
  · try simp only [zB] at h0
    refine WI.seq ?_
    refine WI.regB tabPg1_ok [0, 1, 2, 14] ?_
    refine oS ?_
    refine oG ?_
    refine oS ?_
    iterate 3 refine oG ?_
    refine oS ?_
    refine oN ?_
    refine thenQ_normal ?_
    refine WI.cond (b := _) rfl rfl (fun h1 => ?_) (fun h1 => ?_)
    · exfalso
      simp only [zB] at h1; omega
    · try simp only [zB] at h1
      refine WI.skip ?_
      refine blockQ_normal ?_
      refine thenQ_normal ?_
      refine WI.seq ?_
      refine WI.regB tabPg1_ok [0, 1, 2, 9, 10] ?_
      iterate 3 refine oS ?_
      refine oG ?_
      refine oS ?_
      refine oG ?_
      refine oS ?_
      iterate 2 refine oG ?_
      iterate 2 refine oS ?_
      refine oN ?_
      refine thenQ_normal ?_
      refine WI.seq ?_
      refine WI.seq ?_
      refine WI.regB tabPg1_ok [0, 1, 2, 9, 31] ?_
      refine oS ?_
      refine oG ?_
      refine oN ?_
      refine thenQ_normal ?_
      refine WI.cond (b := _) rfl rfl (fun h2 => ?_) (fun h2 => ?_)
      · try simp only [zB] at h2
        refine WI.seq ?_
        refine WI.regB tabPg1_ok [6, 7, 8] ?_
        iterate 3 refine oS ?_
        refine oN ?_
        refine thenQ_normal ?_
        refine WI.ret ?_
        refine thenQ_ret ?_
        first | refine lfR ?_ | refine lfR2 ?_
        first | rfl | exact ⟨rfl, rfl⟩ | trivial -- leaf 0
      · exfalso
        simp at h2
theorem next_all (m k c n : Int) (L : Pg) (l : List (List UInt8)) (h : 1 ≤ n ∧ n ≤ 1024) (hL : mlook L c = some l) (hn : (l.length : Int) ≤ n) : MCalls Try.prog 21 [.ptr 0 0, .x (.int .i64 c), .x (.int .i64 n)] [pgB m k, pgM L] (.tup [.x (.sl (rowsN l)), .x (.int .i64 0), .x (.int .i64 0)]) [pgB m k, pgM (mdel L c)] := by
  have hm : mgetX (encP L) [.int .i64 c] = some [D.x (X.sl (rowsN l))] := by rw [encP_get, hL]; rfl
  have hd := encP_del L c
  have e2 : (if (l.length : Int) < n then (l.length : Int) else n) = (l.length : Int) := by split <;> omega
  refine FCalls.mcalls (fcallsG (fz := false) G_ok (p := i21) rfl _ (Nat.le_of_ble_eq_true rfl) _ (fun c E0 => ?_))
  dsimp only [i21, argsφ]
  have uu := And.intro hm (And.intro hd (And.intro @e2 (And.intro @rowsN_len (And.intro @tabPg1_r (And.intro @tabPg1_k (And.intro @tabPg1_q32 (And.intro @pcloneG.eq_1 (@pcloneG.eq_2))))))))
  refine WI.seq ?_
  refine WI.regB tabPg1_ok [0, 1, 2] ?_
  iterate 3 refine oS ?_
  refine oN ?_
  refine thenQ_normal ?_
  refine WI.seq ?_
  refine WI.block ?_
  refine WI.seq ?_
  refine WI.regB tabPg1_ok [0, 1, 2, 11] ?_
  refine oS ?_
  refine oG ?_
  refine oS ?_
  refine oN ?_
  refine thenQ_normal ?_
  refine WI.cond (b := _) rfl rfl (fun h0 => ?_) (fun h0 => ?_)
  · exfalso
    simp at h0
  · try simp only [zB] at h0
    refine WI.seq ?_
    refine WI.regB tabPg1_ok [0, 1, 2, 14] ?_
    refine oS ?_
    refine oG ?_
    refine oS ?_
    iterate 3 refine oG ?_
    refine oS ?_
    refine oN ?_
    refine thenQ_normal ?_
    refine WI.cond (b := _) rfl rfl (fun h1 => ?_) (fun h1 => ?_)
    · exfalso
      simp only [zB] at h1; omega
    · try simp only [zB] at h1
      refine WI.skip ?_
      refine blockQ_normal ?_
      refine thenQ_normal ?_
      refine WI.seq ?_
      refine WI.regB tabPg1_ok [0, 1, 2, 9, 10] ?_
      iterate 3 refine oS ?_
      refine oG ?_
      refine oS ?_
      refine oG ?_
      refine oS ?_
      iterate 2 refine oG ?_
      iterate 2 refine oS ?_
      refine oN ?_
      refine thenQ_normal ?_
      refine WI.seq ?_
      refine WI.seq ?_
      refine WI.regB tabPg1_ok [0, 1, 2, 9, 31] ?_
      refine oS ?_
      refine oG ?_
      refine oN ?_
      refine thenQ_normal ?_
      refine WI.cond (b := _) rfl rfl (fun h2 => ?_) (fun h2 => ?_)
      · exfalso
        simp at h2
      · try simp only [zB] at h2
        refine WI.skip ?_
        refine thenQ_normal ?_
        refine WI.seq ?_
        refine WI.regB tabPg1_ok [0, 1, 2, 9] ?_
        iterate 2 refine oS ?_
        iterate 2 refine oG ?_
        refine oS ?_
        refine oN ?_
        refine thenQ_normal ?_
        refine WI.seq ?_
        refine WI.seq ?_
        refine WI.regB tabPg1_ok [0, 1, 2, 9, 39] ?_
        iterate 2 refine oS ?_
        iterate 2 refine oG ?_
        refine oN ?_
        refine thenQ_normal ?_
        refine WI.cond (b := _) rfl rfl (fun h3 => ?_) (fun h3 => ?_)
        · try simp only [zB] at h3
          refine WI.seq ?_
          refine WI.regB tabPg1_ok [9] ?_
          iterate 3 refine oS ?_
          refine oG ?_
          refine oS ?_
          refine oG ?_
          refine oN ?_
          refine thenQ_normal ?_
          refine WI.seq ?_
          refine WI.regB tabPg1_ok [6, 7, 8] ?_
          iterate 4 refine oS ?_
          refine oN ?_
          refine thenQ_normal ?_
          refine WI.ret ?_
          refine thenQ_ret ?_
          first | refine lfR ?_ | refine lfR2 ?_
          first | rfl | exact ⟨rfl, rfl⟩ | trivial -- leaf 0
        · exfalso
          simp at h3
theorem next_part (m k c : Int) (n : Nat) (L : Pg) (l : List (List UInt8)) (h : 1 ≤ n ∧ n ≤ 1024) (hL : mlook L c = some l) (hn : n < l.length) (hl : l.length ≤ 1000000) : MCalls Try.prog 21 [.ptr 0 0, .x (.int .i64 c), .x (.int .i64 n)] [pgB m k, pgM L] (.tup [.x (.sl (rowsN (l.take n))), .x (.int .i64 c), .x (.int .i64 0)]) [pgB m k, pgM (mset L c (l.drop n))] := by
  have hm : mgetX (encP L) [.int .i64 c] = some [D.x (X.sl (rowsN l))] := by rw [encP_get, hL]; rfl
  have hs := encP_set L c (l.drop n)
  have ha := rowsN_all (l.take n)
  have hb := rowsN_all l
  have e2 : (if (l.length : Int) < (n : Int) then (l.length : Int) else (n : Int)) = (n : Int) := by split <;> omega
  refine FCalls.mcalls (fcallsG (fz := false) G_ok (p := i21) rfl _ (Nat.le_of_ble_eq_true rfl) _ (fun c E0 => ?_))
  dsimp only [i21, argsφ]
  have uu := And.intro hm (And.intro hs (And.intro ha (And.intro hb (And.intro @e2 (And.intro @rowsN_len (And.intro @rowsN_take (And.intro @rowsN_drop (And.intro @pcloneG.eq_1 (And.intro @pcloneG.eq_2 (And.intro @tabPg1_r (And.intro @tabPg1_k (@tabPg1_q32))))))))))))
  refine WI.seq ?_
  refine WI.regB tabPg1_ok [0, 1, 2] ?_
  iterate 3 refine oS ?_
  refine oN ?_
  refine thenQ_normal ?_
  refine WI.seq ?_
  refine WI.block ?_
  refine WI.seq ?_
  refine WI.regB tabPg1_ok [0, 1, 2, 11] ?_
  refine oS ?_
  refine oG ?_
  refine oS ?_
  refine oN ?_
  refine thenQ_normal ?_
  refine WI.cond (b := _) rfl rfl (fun h0 => ?_) (fun h0 => ?_)
  · exfalso
    simp at h0
  · try simp only [zB] at h0
    refine WI.seq ?_
    refine WI.regB tabPg1_ok [0, 1, 2, 14] ?_
    refine oS ?_
    refine oG ?_
    refine oS ?_
    iterate 3 refine oG ?_
    refine oS ?_
    refine oN ?_
    refine thenQ_normal ?_
    refine WI.cond (b := _) rfl rfl (fun h1 => ?_) (fun h1 => ?_)
    · exfalso
      simp only [zB] at h1; omega
    · try simp only [zB] at h1
      refine WI.skip ?_
      refine blockQ_normal ?_
      refine thenQ_normal ?_
      refine WI.seq ?_
      refine WI.regB tabPg1_ok [0, 1, 2, 9, 10] ?_
      iterate 3 refine oS ?_
      refine oG ?_
      refine oS ?_
      refine oG ?_
      refine oS ?_
      iterate 2 refine oG ?_
      iterate 2 refine oS ?_
      refine oN ?_
      refine thenQ_normal ?_
      refine WI.seq ?_
      refine WI.seq ?_
      refine WI.regB tabPg1_ok [0, 1, 2, 9, 31] ?_
      refine oS ?_
      refine oG ?_
      refine oN ?_
      refine thenQ_normal ?_
      refine WI.cond (b := _) rfl rfl (fun h2 => ?_) (fun h2 => ?_)
      · exfalso
        simp at h2
      · try simp only [zB] at h2
        refine WI.skip ?_
        refine thenQ_normal ?_
        refine WI.seq ?_
        refine WI.regB tabPg1_ok [0, 1, 2, 9] ?_
        iterate 2 refine oS ?_
        iterate 2 refine oG ?_
        refine oS ?_
        refine oN ?_
        refine thenQ_normal ?_
        refine WI.seq ?_
        refine WI.seq ?_
        refine WI.regB tabPg1_ok [0, 1, 2, 9, 39] ?_
        iterate 2 refine oS ?_
        iterate 2 refine oG ?_
        refine oN ?_
        refine thenQ_normal ?_
        refine WI.cond (b := _) rfl rfl (fun h3 => ?_) (fun h3 => ?_)
        · exfalso
          simp only [zB] at h3; omega
        · try simp only [zB] at h3
          refine WI.skip ?_
          refine thenQ_normal ?_
          refine WI.seq ?_
          refine WI.dregB tabPg1_ok [1, 2, 9] ?_
          iterate 3 refine dFS ?_
          refine dQG ?_
          iterate 3 refine dFS ?_
          refine dQG ?_
          refine dAG ?_
          refine dN ?_
          refine thenQ_normal ?_
          refine WI.seq ?_
          refine WI.regB tabPg1_ok [6, 7, 8] ?_
          iterate 2 refine oS ?_
          refine oG ?_
          refine oC ?_
          iterate 4 refine oS ?_
          refine oN ?_
          refine thenQ_normal ?_
          refine WI.ret ?_
          first | refine lfR ?_ | refine lfR2 ?_
          first | rfl | exact ⟨rfl, rfl⟩ | trivial -- leaf 0
end Go.Proofs.Ytogplpcamiicgaa
end
section
/- Pages: contracts as tables; the law's entries. -/
set_option linter.unusedSimpArgs false
set_option linter.unusedVariables false
namespace Go.Proofs.Ytogplpcamiicgaa
open Go.RowKit Go.Bo Go.Ab

def unN : List (List X) → Option (List (List UInt8))
  | [] => some []
  | [.str s, .nils] :: l => (unN l).map fun r => s :: r
  | _ => none
theorem un_N : ∀ l : List (List UInt8), unN (rowsN l) = some l
  | [] => rfl
  | s :: l => by have := un_N l; simp only [rowsN, List.map_cons, rowN, unN] at this ⊢; rw [this]; rfl
theorem unN_inv : ∀ {R : List (List X)} {l : List (List UInt8)}, unN R = some l → R = rowsN l
  | [], l, h => by cases h; rfl
  | r :: R, l, h => by
    unfold unN at h
    split at h
    · rename_i e; cases e
    · rename_i s R' e
      cases e
      obtain ⟨l', h1, rfl⟩ := Option.map_eq_some_iff.1 h
      rw [unN_inv h1]; rfl
    · cases h
def unP : List Pr → Option Pg
  | [] => some []
  | ([.int .i64 k], [.x (.sl R)]) :: M => (unN R).bind fun l => (unP M).map fun L => (k, l) :: L
  | _ => none
theorem un_P : ∀ L : Pg, unP (encP L) = some L
  | [] => rfl
  | p :: L => by have := un_P L; simp only [encP, encM, List.map_cons, List.map_nil, unP, un_N, Option.bind_some] at this ⊢; rw [this]; rfl
theorem unP_inv : ∀ {M : List Pr} {L : Pg}, unP M = some L → M = encP L
  | [], L, h => by cases h; rfl
  | p :: M, L, h => by
    unfold unP at h
    split at h
    · rename_i e; cases e
    · rename_i k R M' e
      cases e
      obtain ⟨l, h1, h⟩ := Option.bind_eq_some_iff.1 h
      obtain ⟨L', h2, rfl⟩ := Option.map_eq_some_iff.1 h
      rw [unP_inv h2, unN_inv h1]; rfl
    · cases h
instance decOkB (m : Int) (L : Pg) (l : List (List UInt8)) : Decidable (okBegin m L l) := inferInstanceAs (Decidable (_ ∧ _))
def bgR (m k : Int) (L : Pg) (l : List (List UInt8)) : Int × Bool × Int × Pg := if okBegin m L l then (k + 1, true, k + 1, mset L (k + 1) l) else (0, false, k, L)
def nxR (L : Pg) (c n : Int) : List (List UInt8) × Int × Int × Pg :=
  if 1 ≤ n ∧ n ≤ 1024 then match mlook L c with
    | none => ([], 0, 8, L)
    | some l => if (l.length : Int) ≤ n then (l, 0, 0, mdel L c) else (l.take n.toNat, c, 0, mset L c (l.drop n.toNat))
  else ([], 0, 2, L)
theorem MCalls.nilR {f : FuncId} {args : List D} {os os' : List Ob} {a b : D} (h : MCalls Try.prog f args os (.tup [.x .nils, a, b]) os') : MCalls Try.prog f args os (.tup [.x (.sl []), a, b]) os' := by
  intro c E vs R hvl
  refine (h c E vs R hvl).mono ?_
  rintro e w' ⟨v, E', h1, h2, h3, h4, h5⟩
  refine ⟨v, E', h1, h2, h3, h4, ?_⟩
  cases h5 with
  | tup vs hl hv =>
    refine .tup vs (by simpa using hl) (fun j d u hd hu => ?_)
    match j with
    | 0 =>
      simp at hd; subst hd
      have := hv 0 (.x .nils) u rfl hu
      exact .x this.xx.nn
    | 1 => exact hv 1 d u (by simpa using hd) hu
    | 2 => exact hv 2 d u (by simpa using hd) hu
    | j + 3 => simp at hd
theorem begin_c (m k : Int) (L : Pg) (l : List (List UInt8)) (hk : 0 ≤ k ∧ k ≤ 1000000) (hl : l.length ≤ 1000000) : MCalls Try.prog 15 [.ptr 0 0, .x (.sl (rowsN l))] [pgB m k, pgM L] (.tup [.x (.int .i64 (bgR m k L l).1), .x (.bool (bgR m k L l).2.1)]) [pgB m (bgR m k L l).2.2.1, pgM (bgR m k L l).2.2.2] := by
  unfold bgR
  split
  · rename_i h; exact begin_ok m k L l h hk hl
  · rename_i h; exact begin_no m k L l h
theorem next_c (m k c n : Int) (L : Pg) (hl : ∀ p ∈ L, p.2.length ≤ 1000000) : MCalls Try.prog 21 [.ptr 0 0, .x (.int .i64 c), .x (.int .i64 n)] [pgB m k, pgM L] (.tup [.x (.sl (rowsN (nxR L c n).1)), .x (.int .i64 (nxR L c n).2.1), .x (.int .i64 (nxR L c n).2.2.1)]) [pgB m k, pgM (nxR L c n).2.2.2] := by
  unfold nxR
  split
  · rename_i h
    cases hL : mlook L c with
    | none => exact MCalls.nilR (next_none m k c n L h hL)
    | some l =>
      simp only
      split
      · rename_i h2; exact next_all m k c n L l h hL h2
      · rename_i h2
        have := next_part m k c n.toNat L l (by omega) hL (by omega) (hl _ (mlook_mem hL))
        rwa [Int.toNat_of_nonneg (by omega)] at this
  · rename_i h; exact MCalls.nilR (next_range m k c n L h)
theorem begin_nil (R : List (List X)) : MCalls Try.prog 15 [.x .nilp, .x (.sl R)] [] (.tup [.x (.int .i64 0), .x (.bool false)]) [] := by
  refine FCalls.mcalls (fcallsG (fz := false) G_ok (p := i15) rfl _ (Nat.le_of_ble_eq_true rfl) _ (fun c E0 => ?_))
  dsimp only [i15, argsφ]
  have uu := And.intro @tabPg1_r (And.intro @tabPg1_k (And.intro @tabPg1_q32 (And.intro @pcloneG.eq_1 (@pcloneG.eq_2))))
  refine WI.seq ?_
  refine WI.regB tabPg1_ok [0, 1] ?_
  iterate 2 refine oS ?_
  refine oN ?_
  refine thenQ_normal ?_
  refine WI.seq ?_
  refine WI.seq ?_
  refine WI.dregB tabPg1_ok [0, 1, 24] ?_
  refine dFS ?_
  refine dFG ?_
  refine dFS ?_
  refine dFG ?_
  refine dQG ?_
  iterate 2 refine dFG ?_
  refine dFS ?_
  iterate 3 refine dFG ?_
  iterate 2 refine dQG ?_
  iterate 3 refine dFG ?_
  refine dQG ?_
  iterate 2 refine dFG ?_
  refine dN ?_
  refine thenQ_normal ?_
  refine WI.cond (b := _) rfl rfl (fun h0 => ?_) (fun h0 => ?_)
  · try simp only [zB] at h0
    refine WI.seq ?_
    refine WI.regB tabPg1_ok [4, 5] ?_
    iterate 2 refine oS ?_
    refine oN ?_
    refine thenQ_normal ?_
    refine WI.ret ?_
    refine thenQ_ret ?_
    first | refine lfR ?_ | refine lfR2 ?_
    first | rfl | exact ⟨rfl, rfl⟩ | trivial -- leaf 0
  · exfalso
    simp at h0
theorem next_nil (c n : Int) : MCalls Try.prog 21 [.x .nilp, .x (.int .i64 c), .x (.int .i64 n)] [] (.tup [.x .nils, .x (.int .i64 0), .x (.int .i64 12)]) [] := by
  refine FCalls.mcalls (fcallsG (fz := false) G_ok (p := i21) rfl _ (Nat.le_of_ble_eq_true rfl) _ (fun c E0 => ?_))
  dsimp only [i21, argsφ]
  have uu := And.intro @tabPg1_r (And.intro @tabPg1_k (And.intro @tabPg1_q32 (And.intro @pcloneG.eq_1 (@pcloneG.eq_2))))
  refine WI.seq ?_
  refine WI.regB tabPg1_ok [0, 1, 2] ?_
  iterate 3 refine oS ?_
  refine oN ?_
  refine thenQ_normal ?_
  refine WI.seq ?_
  refine WI.block ?_
  refine WI.seq ?_
  refine WI.regB tabPg1_ok [0, 1, 2, 11] ?_
  refine oS ?_
  refine oG ?_
  refine oS ?_
  refine oN ?_
  refine thenQ_normal ?_
  refine WI.cond (b := _) rfl rfl (fun h0 => ?_) (fun h0 => ?_)
  · try simp only [zB] at h0
    refine WI.seq ?_
    refine WI.regB tabPg1_ok [6, 7, 8] ?_
    iterate 3 refine oS ?_
    refine oN ?_
    refine thenQ_normal ?_
    refine WI.ret ?_
    refine blockQ_ret ?_
    refine thenQ_ret ?_
    first | refine lfR ?_ | refine lfR2 ?_
    first | rfl | exact ⟨rfl, rfl⟩ | trivial -- leaf 0
  · exfalso
    simp at h0
theorem plen_nil : MCalls Try.prog 20 [.x .nilp] [] (.x (.int .i64 0)) [] := by
  refine FCalls.mcalls (fcallsG (fz := false) G_ok (p := i20) rfl _ (Nat.le_of_ble_eq_true rfl) _ (fun c E0 => ?_))
  dsimp only [i20, argsφ]
  have uu := trivial
  refine WI.seq ?_
  refine WI.regB noTabs_ok [0] ?_
  refine oS ?_
  refine oN ?_
  refine thenQ_normal ?_
  refine WI.seq ?_
  refine WI.seq ?_
  refine WI.regB noTabs_ok [0, 4] ?_
  refine oS ?_
  refine oG ?_
  refine oN ?_
  refine thenQ_normal ?_
  refine WI.cond (b := _) rfl rfl (fun h0 => ?_) (fun h0 => ?_)
  · try simp only [zB] at h0
    refine WI.seq ?_
    refine WI.regB noTabs_ok [2] ?_
    refine oS ?_
    refine oN ?_
    refine thenQ_normal ?_
    refine WI.ret ?_
    refine thenQ_ret ?_
    first | refine lfR ?_ | refine lfR2 ?_
    first | rfl | exact ⟨rfl, rfl⟩ | trivial -- leaf 0
  · exfalso
    simp at h0
theorem pdrop_nil (c : Int) : MCalls Try.prog 18 [.x .nilp, .x (.int .i64 c)] [] (.x (.bool false)) [] := by
  refine FCalls.mcalls (fcallsG (fz := false) G_ok (p := i18) rfl _ (Nat.le_of_ble_eq_true rfl) _ (fun c E0 => ?_))
  dsimp only [i18, argsφ]
  have uu := trivial
  refine WI.seq ?_
  refine WI.regB noTabs_ok [0, 1] ?_
  refine oS ?_
  refine oN ?_
  refine thenQ_normal ?_
  refine WI.seq ?_
  refine WI.seq ?_
  refine WI.regB noTabs_ok [0, 1, 8] ?_
  refine oS ?_
  refine oG ?_
  refine oN ?_
  refine thenQ_normal ?_
  refine WI.cond (b := _) rfl rfl (fun h0 => ?_) (fun h0 => ?_)
  · try simp only [zB] at h0
    refine WI.seq ?_
    refine WI.regB noTabs_ok [4] ?_
    refine oS ?_
    refine oN ?_
    refine thenQ_normal ?_
    refine WI.ret ?_
    refine thenQ_ret ?_
    first | refine lfR ?_ | refine lfR2 ?_
    first | rfl | exact ⟨rfl, rfl⟩ | trivial -- leaf 0
  · exfalso
    simp at h0
def newT38 : List D → List Ob → Option (Bool × D × List Ob)
  | [.x (.int .i64 m)], [] => if 1 ≤ m ∧ m ≤ 1024 then some (true, .tup [.ptr 1 0, .x (.int .i64 0)], [pgM [], .box [.mref 0, .x (.int .i64 m), .x (.int .i64 0)]]) else some (true, .tup [.x .nilp, .x (.int .i64 1)], [])
  | _, _ => none
theorem newT38_ok : ∀ args os r os', newT38 args os = some (true, r, os') → MCalls Try.prog 13 args os r os' := by
  intro args os r os' h
  unfold newT38 at h
  split at h
  · split at h
    · rename_i hm; cases h; exact new38_ok _ hm
    · rename_i hm; cases h; exact new38_bad _ hm
  · cases h
def beginT : List D → List Ob → Option (Bool × D × List Ob)
  | [.ptr 0 0, .x (.sl R)], [.box [.mref 1, .x (.int .i64 m), .x (.int .i64 k)], .mpo (.int .i64) false M] => (unN R).bind fun l => (unP M).map fun L =>
      (decide (0 ≤ k ∧ k ≤ 1000000 ∧ l.length ≤ 1000000), .tup [.x (.int .i64 (bgR m k L l).1), .x (.bool (bgR m k L l).2.1)], [pgB m (bgR m k L l).2.2.1, pgM (bgR m k L l).2.2.2])
  | [.x .nilp, .x (.sl R)], [] => some (true, .tup [.x (.int .i64 0), .x (.bool false)], [])
  | _, _ => none
theorem beginT_ok : ∀ args os r os', beginT args os = some (true, r, os') → MCalls Try.prog 15 args os r os' := by
  intro args os r os' h
  unfold beginT at h
  split at h
  · obtain ⟨l, h1, h⟩ := Option.bind_eq_some_iff.1 h
    obtain ⟨L, h2, h⟩ := Option.map_eq_some_iff.1 h
    simp only [Prod.mk.injEq, decide_eq_true_eq] at h
    obtain ⟨⟨h3, h4, h5⟩, rfl, rfl⟩ := h
    rw [unN_inv h1, unP_inv h2]
    exact begin_c _ _ _ _ ⟨h3, h4⟩ h5
  · cases h; exact begin_nil _
  · cases h
def nextT : List D → List Ob → Option (Bool × D × List Ob)
  | [.ptr 0 0, .x (.int .i64 c), .x (.int .i64 n)], [.box [.mref 1, .x (.int .i64 m), .x (.int .i64 k)], .mpo (.int .i64) false M] => (unP M).map fun L =>
      (decide (∀ p ∈ L, p.2.length ≤ 1000000), .tup [.x (.sl (rowsN (nxR L c n).1)), .x (.int .i64 (nxR L c n).2.1), .x (.int .i64 (nxR L c n).2.2.1)], [pgB m k, pgM (nxR L c n).2.2.2])
  | [.x .nilp, .x (.int .i64 c), .x (.int .i64 n)], [] => some (true, .tup [.x .nils, .x (.int .i64 0), .x (.int .i64 12)], [])
  | _, _ => none
theorem nextT_ok : ∀ args os r os', nextT args os = some (true, r, os') → MCalls Try.prog 21 args os r os' := by
  intro args os r os' h
  unfold nextT at h
  split at h
  · obtain ⟨L, h2, h⟩ := Option.map_eq_some_iff.1 h
    simp only [Prod.mk.injEq, decide_eq_true_eq] at h
    obtain ⟨h3, rfl, rfl⟩ := h
    rw [unP_inv h2]
    exact next_c _ _ _ _ _ h3
  · cases h; exact next_nil _ _
  · cases h
def plenT : List D → List Ob → Option (Bool × D × List Ob)
  | [.ptr 0 0], [.box [.mref 1, .x (.int .i64 m), .x (.int .i64 k)], .mpo (.int .i64) false M] => (unP M).map fun L => (true, .x (.int .i64 L.length), [pgB m k, pgM L])
  | [.x .nilp], [] => some (true, .x (.int .i64 0), [])
  | _, _ => none
theorem plenT_ok : ∀ args os r os', plenT args os = some (true, r, os') → MCalls Try.prog 20 args os r os' := by
  intro args os r os' h
  unfold plenT at h
  split at h
  · obtain ⟨L, h2, h⟩ := Option.map_eq_some_iff.1 h
    cases h
    rw [unP_inv h2]
    exact plen_c _ _ _
  · cases h; exact plen_nil
  · cases h
def pdropT : List D → List Ob → Option (Bool × D × List Ob)
  | [.ptr 0 0, .x (.int .i64 c)], [.box [.mref 1, .x (.int .i64 m), .x (.int .i64 k)], .mpo (.int .i64) false M] => (unP M).map fun L => (true, .x (.bool (mlook L c).isSome), [pgB m k, pgM (mdel L c)])
  | [.x .nilp, .x (.int .i64 c)], [] => some (true, .x (.bool false), [])
  | _, _ => none
theorem pdropT_ok : ∀ args os r os', pdropT args os = some (true, r, os') → MCalls Try.prog 18 args os r os' := by
  intro args os r os' h
  unfold pdropT at h
  split at h
  · obtain ⟨L, h2, h⟩ := Option.map_eq_some_iff.1 h
    cases h
    rw [unP_inv h2]
    exact pdrop_c _ _ _ _
  · cases h; exact pdrop_nil _
  · cases h
/-- The law's names. -/
def nm (i : Nat) : List UInt8 := [UInt8.ofNat (97 + i % 26)]
def nms (n : Nat) : List (List UInt8) := (List.range n).map nm
theorem nms_len (n : Nat) : (nms n).length = n := by simp [nms]
theorem nms_succ (n : Nat) : nms (n + 1) = nms n ++ [nm n] := by simp [nms, List.range_succ]
theorem nms_get (n i : Nat) (h : i < (nms n).length) : (nms n)[i] = nm i := by simp [nms]
theorem wrap_let (x : Nat) : IntKind.u8.wrap (97 + ((x % 26 : Nat) : Int)) = ((UInt8.ofNat (97 + x % 26)).toNat : Int) := by
  have h : x % 26 < 26 := Nat.mod_lt _ (by omega)
  rw [IntWalk.u8_in _ (by omega), UInt8.toNat_ofNat']
  omega
theorem some_c (n : Int) (h : n ≤ 100000) : PCalls Try.prog 14 [.x (.int .i64 n)] (.x (.sl (rowsN (nms n.toNat)))) := by
  refine FCalls.pure (fcallsG (fz := true) G_ok (p := i14) rfl _ (Nat.le_of_ble_eq_true rfl) _ (fun C0 E0 => ?_)) rfl
  dsimp only [i14, argsφ]
  have uu := trivial
  refine WI.seq ?_
  refine WI.regB noTabs_ok [0] ?_
  refine oS ?_
  refine oN ?_
  refine thenQ_normal ?_
  refine WI.seq ?_
  refine WI.regB noTabs_ok [0, 3] ?_
  refine oS ?_
  refine oN ?_
  refine thenQ_normal ?_
  refine WI.seq ?_
  refine WI.seq ?_
  refine WI.regB noTabs_ok [0, 3, 4] ?_
  refine oS ?_
  refine oN ?_
  refine thenQ_normal ?_
  refine WI.block ?_
  refine WI.ownA 3 38 2 ?_
  refine WI.loop (fun φ os => ∃ (j : Nat) (rs : List (List X)), φ = [(0, .x (.int .i64 n)), (3, .ref 0 rs.length 0 rs.length), (4, .x (.int .i64 j))] ∧ os = [.rows false 38 2 rs] ∧ rs = rowsN (nms j) ∧ rs.length = j ∧ (j : Int) ≤ max n 0) (down n.toNat 4) ?_ (fun φ os hI => ?_)
  · exact ⟨0, [], rfl, rfl, rfl, rfl, by omega⟩
  · obtain ⟨j, rs, rfl, rfl, hrs, hrl, hj⟩ := hI
    refine WI.seq ?_
    refine WI.seq ?_
    refine WI.regB noTabs_ok [0, 3, 4, 7] ?_
    iterate 2 refine oS ?_
    refine oG ?_
    refine oN ?_
    refine thenQ_normal ?_
    refine WI.cond (b := _) rfl rfl (fun h0 => ?_) (fun h0 => ?_)
    · try simp only [zB] at h0
      refine WI.skip ?_
      refine thenQ_normal ?_
      refine WI.seq ?_
      refine WI.block ?_
      have e2 : (j : Int).tmod 26 = ((j % 26 : Nat) : Int) := (Int.ofNat_tmod j 26).symm
      have e3 := wrap_let j
      have uu := And.intro e2 e3
      have e4 : rowN (nm j) = [X.str [rowByte [X.int .u8 ((UInt8.ofNat (97 + j % 26)).toNat : Int)]], X.nils] := by rw [show rowByte [X.int .u8 ((UInt8.ofNat (97 + j % 26)).toNat : Int)] = _ from br_of _]; rfl
      refine WI.regB noTabs_ok [0, 3, 4] ?_
      iterate 2 refine oS ?_
      iterate 8 refine oG ?_
      refine oS ?_
      refine oN ?_
      refine blockQ_normal ?_
      refine thenQ_normal ?_
      refine WI.post ?_
      refine WI.regB noTabs_ok [0, 3, 4] ?_
      refine oS ?_
      refine oG ?_
      refine oS ?_
      refine oP ?_
      refine pPick [0] ?_
      refine pEnd ?_
      refine thenQ_normal ?_
      exact ⟨⟨j + 1, rs ++ [rowN (nm j)], by simp, by rw [e4], by rw [hrs, nms_succ]; simp [rowsN], by simp [hrl], by omega⟩, by simp [down, Ab.get, D.val, intOf?]; omega⟩
    · try simp only [zB] at h0
      refine WI.exit ?_
      refine thenQ_exit ?_
      refine thenQ_exit ?_
      refine blockQ_hit ?_
      refine thenQ_normal ?_
      refine WI.seq ?_
      refine WI.regB noTabs_ok [2] ?_
      iterate 2 refine oS ?_
      refine oN ?_
      refine thenQ_normal ?_
      refine WI.nnA ?_
      refine WI.ret ?_
      first | refine lfR ?_ | refine lfR2 ?_
      rw [hrs, show j = n.toNat by omega] -- leaf 0
def someG : List D → Option (Bool × D)
  | [.x (.int .i64 n)] => some (decide (n ≤ 100000), .x (.sl (rowsN (nms n.toNat))))
  | _ => none
theorem someG_ok : ∀ args r, someG args = some (true, r) → PCalls Try.prog 14 args r := by
  intro args r h
  unfold someG at h
  split at h
  · rename_i n
    simp only [Option.some.injEq, Prod.mk.injEq, Bool.and_eq_true, decide_eq_true_eq, true_and] at h
    obtain ⟨h1, rfl⟩ := h
    exact some_c n h1
  · cases h
end Go.Proofs.Ytogplpcamiicgaa
end
section
/- Pages: the example; a pager that is none; all parts. -/
set_option linter.unusedSimpArgs false
set_option linter.unusedVariables false
namespace Go.Proofs.Ytogplpcamiicgaa
open Go.RowKit Go.Bo Go.Ab

def tabPg4 : Tabs := addQ (addT (addT (addT (addT (addT (noTabs) 13 newT38) 15 beginT) 21 nextT) 20 plenT) 18 pdropT) 14 someG
theorem tabPg4_ok : SsOk Try.prog tabPg4 := addQ_ok (addT_ok (addT_ok (addT_ok (addT_ok (addT_ok (noTabs_ok) (G_enters G_ok (p := i13) rfl) newT38_ok) (G_enters G_ok (p := i15) rfl) beginT_ok) (G_enters G_ok (p := i21) rfl) nextT_ok) (G_enters G_ok (p := i20) rfl) plenT_ok) (G_enters G_ok (p := i18) rfl) pdropT_ok) (G_enters G_ok (p := i14) rfl) someG_ok
theorem tabPg4_q13 (a : List D) : tabPg4.q 13 a = none := rfl
theorem tabPg4_t13 (a : List D) (o : List Ob) : tabPg4.t 13 a o = liftT newT38 a o := rfl
theorem tabPg4_q15 (a : List D) : tabPg4.q 15 a = none := rfl
theorem tabPg4_t15 (a : List D) (o : List Ob) : tabPg4.t 15 a o = liftT beginT a o := rfl
theorem tabPg4_q21 (a : List D) : tabPg4.q 21 a = none := rfl
theorem tabPg4_t21 (a : List D) (o : List Ob) : tabPg4.t 21 a o = liftT nextT a o := rfl
theorem tabPg4_q20 (a : List D) : tabPg4.q 20 a = none := rfl
theorem tabPg4_t20 (a : List D) (o : List Ob) : tabPg4.t 20 a o = liftT plenT a o := rfl
theorem tabPg4_q18 (a : List D) : tabPg4.q 18 a = none := rfl
theorem tabPg4_t18 (a : List D) (o : List Ob) : tabPg4.t 18 a o = liftT pdropT a o := rfl
theorem tabPg4_q14 (a : List D) : tabPg4.q 14 a = someG a := rfl
theorem tabPg4_r (f : FuncId) (a : List D) (o : List Ob) : tabPg4.r f a o = none := rfl
theorem tabPg4_k (f : FuncId) (a : List D) (o : List Ob) : tabPg4.k f a o = none := rfl
theorem s38a : bgR 1 0 [] (nms 3) = (1, true, 1, [(1, [[97], [98], [99]])]) := by kernel_rfl
theorem s38b : bgR 1 1 [(1, [[97], [98], [99]])] (nms 1) = (0, false, 1, [(1, [[97], [98], [99]])]) := by kernel_rfl
theorem s38c : nxR [(1, [[97], [98], [99]])] 1 2 = ([[97], [98]], 1, 0, [(1, [[99]])]) := by kernel_rfl
theorem s38d : nxR [(1, [[99]])] 1 2 = ([[99]], 0, 0, []) := by kernel_rfl
theorem s38e : nxR [] 1 2 = ([], 0, 8, []) := by kernel_rfl
theorem awake38_c : PCalls Try.prog 12 [] (.x (.bool true)) := by
  have l3 : (nms 3).length ≤ 1000000 := by rw [nms_len]; omega
  have l1 : (nms 1).length ≤ 1000000 := by rw [nms_len]; omega
  refine FCalls.pure (fcallsG (fz := true) G_ok (p := i12) rfl _ (Nat.le_of_ble_eq_true rfl) _ (fun C0 E0 => ?_)) rfl
  dsimp only [i12, argsφ]
  have uu := And.intro @newT38.eq_1 (And.intro @newT38.eq_2 (And.intro @beginT.eq_1 (And.intro @nextT.eq_1 (And.intro @nextT.eq_2 (And.intro @plenT.eq_1 (And.intro @plenT.eq_2 (And.intro @plenT.eq_3 (And.intro @pdropT.eq_1 (And.intro @pdropT.eq_2 (And.intro @pdropT.eq_3 (And.intro @someG.eq_1 (And.intro @someG.eq_2 (And.intro @un_N (And.intro @un_P (And.intro @rowsN_len (And.intro @s38a (And.intro @s38b (And.intro @s38c (And.intro @s38d (And.intro @s38e (And.intro @tabPg4_r (And.intro @tabPg4_k (And.intro @tabPg4_q13 (And.intro @tabPg4_q14 (And.intro @tabPg4_q15 (And.intro @tabPg4_q18 (And.intro @tabPg4_q20 (And.intro @tabPg4_q21 (And.intro @tabPg4_t13 (And.intro @tabPg4_t15 (And.intro @tabPg4_t21 (And.intro @tabPg4_t20 (@tabPg4_t18)))))))))))))))))))))))))))))))))
  refine WI.seq ?_
  refine WI.regB tabPg4_ok [] ?_
  refine oS ?_
  refine oN ?_
  refine thenQ_normal ?_
  refine WI.seq ?_
  refine WI.regB tabPg4_ok [1, 2] ?_
  refine oC (hok := by first | with_reducible rfl | omega | (simp [nms_len]; done) | (simp [nms_len]; omega) | (exact decide_eq_true (by simp)) | (simp; done) | (simp; omega) | rfl) ?_
  refine oS ?_
  iterate 2 refine oG (hok := by first | with_reducible rfl | omega | (simp [nms_len]; done) | (simp [nms_len]; omega) | (exact decide_eq_true (by simp)) | (simp; done) | (simp; omega) | rfl) ?_
  iterate 2 refine oS ?_
  refine oN ?_
  refine thenQ_normal ?_
  refine WI.seq ?_
  refine WI.regB tabPg4_ok [1, 2, 4] ?_
  refine oC (hok := by first | with_reducible rfl | omega | (simp [nms_len]; done) | (simp [nms_len]; omega) | (exact decide_eq_true (by simp)) | (simp; done) | (simp; omega) | rfl) ?_
  refine oS ?_
  iterate 2 refine oG (hok := by first | with_reducible rfl | omega | (simp [nms_len]; done) | (simp [nms_len]; omega) | (exact decide_eq_true (by simp)) | (simp; done) | (simp; omega) | rfl) ?_
  iterate 2 refine oS ?_
  refine oN ?_
  refine thenQ_normal ?_
  refine WI.seq ?_
  refine WI.seq ?_
  refine WI.regB tabPg4_ok [1, 2, 4, 27] ?_
  refine oS ?_
  refine oG (hok := by first | with_reducible rfl | omega | (simp [nms_len]; done) | (simp [nms_len]; omega) | (exact decide_eq_true (by simp)) | (simp; done) | (simp; omega) | rfl) ?_
  refine oN ?_
  refine thenQ_normal ?_
  refine WI.cond (b := _) rfl rfl (fun h0 => ?_) (fun h0 => ?_)
  · try simp only [zB] at h0
    refine WI.seq ?_
    refine WI.regB tabPg4_ok [0] ?_
    refine oS ?_
    refine oN ?_
    refine thenQ_normal ?_
    refine WI.ret ?_
    refine thenQ_ret ?_
    first | refine lfR ?_ | refine lfR2 ?_
    first | rfl | exact ⟨rfl, rfl⟩ | trivial -- leaf 0
  · try simp only [zB] at h0
    refine WI.skip ?_
    refine thenQ_normal ?_
    refine WI.seq ?_
    refine WI.regB tabPg4_ok [1, 2, 4, 5, 6] ?_
    refine oS ?_
    iterate 2 refine oC (hok := by first | with_reducible rfl | omega | (simp [nms_len]; done) | (simp [nms_len]; omega) | (exact decide_eq_true (by simp)) | (simp; done) | (simp; omega) | rfl) ?_
    refine oS ?_
    iterate 2 refine oG (hok := by first | with_reducible rfl | omega | (simp [nms_len]; done) | (simp [nms_len]; omega) | (exact decide_eq_true (by simp)) | (simp; done) | (simp; omega) | rfl) ?_
    iterate 2 refine oS ?_
    refine oN ?_
    refine thenQ_normal ?_
    refine WI.seq ?_
    refine WI.regB tabPg4_ok [1, 2, 4, 5, 6, 8] ?_
    refine oS ?_
    iterate 2 refine oC (hok := by first | with_reducible rfl | omega | (simp [nms_len]; done) | (simp [nms_len]; omega) | (exact decide_eq_true (by simp)) | (simp; done) | (simp; omega) | rfl) ?_
    refine oS ?_
    iterate 2 refine oG (hok := by first | with_reducible rfl | omega | (simp [nms_len]; done) | (simp [nms_len]; omega) | (exact decide_eq_true (by simp)) | (simp; done) | (simp; omega) | rfl) ?_
    iterate 2 refine oS ?_
    refine oN ?_
    refine thenQ_normal ?_
    refine WI.seq ?_
    refine WI.regB tabPg4_ok [1, 2, 4, 5, 6, 8, 9, 10, 11] ?_
    iterate 2 refine oS ?_
    refine oC (hok := by first | with_reducible rfl | omega | (simp [nms_len]; done) | (simp [nms_len]; omega) | (exact decide_eq_true (by simp)) | (simp; done) | (simp; omega) | rfl) ?_
    refine oS ?_
    iterate 3 refine oG (hok := by first | with_reducible rfl | omega | (simp [nms_len]; done) | (simp [nms_len]; omega) | (exact decide_eq_true (by simp)) | (simp; done) | (simp; omega) | rfl) ?_
    iterate 3 refine oS ?_
    refine oN ?_
    refine thenQ_normal ?_
    refine WI.seq ?_
    refine WI.regB tabPg4_ok [1, 2, 4, 5, 6, 8, 9, 10, 11, 12, 13, 14] ?_
    iterate 2 refine oS ?_
    refine oC (hok := by first | with_reducible rfl | omega | (simp [nms_len]; done) | (simp [nms_len]; omega) | (exact decide_eq_true (by simp)) | (simp; done) | (simp; omega) | rfl) ?_
    refine oS ?_
    iterate 3 refine oG (hok := by first | with_reducible rfl | omega | (simp [nms_len]; done) | (simp [nms_len]; omega) | (exact decide_eq_true (by simp)) | (simp; done) | (simp; omega) | rfl) ?_
    iterate 3 refine oS ?_
    refine oN ?_
    refine thenQ_normal ?_
    refine WI.seq ?_
    refine WI.regB tabPg4_ok [1, 2, 4, 5, 6, 8, 9, 10, 11, 12, 13, 14, 17] ?_
    iterate 2 refine oS ?_
    refine oC (hok := by first | with_reducible rfl | omega | (simp [nms_len]; done) | (simp [nms_len]; omega) | (exact decide_eq_true (by simp)) | (simp; done) | (simp; omega) | rfl) ?_
    refine oS ?_
    iterate 3 refine oG (hok := by first | with_reducible rfl | omega | (simp [nms_len]; done) | (simp [nms_len]; omega) | (exact decide_eq_true (by simp)) | (simp; done) | (simp; omega) | rfl) ?_
    iterate 3 refine oS ?_
    refine oN ?_
    refine thenQ_normal ?_
    refine WI.seq ?_
    refine WI.regB tabPg4_ok [0] ?_
    refine oS ?_
    refine oG (hok := by first | with_reducible rfl | omega | (simp [nms_len]; done) | (simp [nms_len]; omega) | (exact decide_eq_true (by simp)) | (simp; done) | (simp; omega) | rfl) ?_
    refine oS ?_
    iterate 3 refine oG (hok := by first | with_reducible rfl | omega | (simp [nms_len]; done) | (simp [nms_len]; omega) | (exact decide_eq_true (by simp)) | (simp; done) | (simp; omega) | rfl) ?_
    refine oS ?_
    iterate 3 refine oG (hok := by first | with_reducible rfl | omega | (simp [nms_len]; done) | (simp [nms_len]; omega) | (exact decide_eq_true (by simp)) | (simp; done) | (simp; omega) | rfl) ?_
    refine oS ?_
    iterate 2 refine oG (hok := by first | with_reducible rfl | omega | (simp [nms_len]; done) | (simp [nms_len]; omega) | (exact decide_eq_true (by simp)) | (simp; done) | (simp; omega) | rfl) ?_
    refine oS ?_
    iterate 3 refine oG (hok := by first | with_reducible rfl | omega | (simp [nms_len]; done) | (simp [nms_len]; omega) | (exact decide_eq_true (by simp)) | (simp; done) | (simp; omega) | rfl) ?_
    refine oS ?_
    iterate 4 refine oG (hok := by first | with_reducible rfl | omega | (simp [nms_len]; done) | (simp [nms_len]; omega) | (exact decide_eq_true (by simp)) | (simp; done) | (simp; omega) | rfl) ?_
    refine oS ?_
    iterate 3 refine oG (hok := by first | with_reducible rfl | omega | (simp [nms_len]; done) | (simp [nms_len]; omega) | (exact decide_eq_true (by simp)) | (simp; done) | (simp; omega) | rfl) ?_
    refine oS ?_
    iterate 3 refine oG (hok := by first | with_reducible rfl | omega | (simp [nms_len]; done) | (simp [nms_len]; omega) | (exact decide_eq_true (by simp)) | (simp; done) | (simp; omega) | rfl) ?_
    refine oS ?_
    iterate 4 refine oG (hok := by first | with_reducible rfl | omega | (simp [nms_len]; done) | (simp [nms_len]; omega) | (exact decide_eq_true (by simp)) | (simp; done) | (simp; omega) | rfl) ?_
    refine oS ?_
    iterate 3 refine oG (hok := by first | with_reducible rfl | omega | (simp [nms_len]; done) | (simp [nms_len]; omega) | (exact decide_eq_true (by simp)) | (simp; done) | (simp; omega) | rfl) ?_
    refine oS ?_
    iterate 3 refine oG (hok := by first | with_reducible rfl | omega | (simp [nms_len]; done) | (simp [nms_len]; omega) | (exact decide_eq_true (by simp)) | (simp; done) | (simp; omega) | rfl) ?_
    refine oS ?_
    iterate 3 refine oG (hok := by first | with_reducible rfl | omega | (simp [nms_len]; done) | (simp [nms_len]; omega) | (exact decide_eq_true (by simp)) | (simp; done) | (simp; omega) | rfl) ?_
    refine oS ?_
    refine oG (hok := by first | with_reducible rfl | omega | (simp [nms_len]; done) | (simp [nms_len]; omega) | (exact decide_eq_true (by simp)) | (simp; done) | (simp; omega) | rfl) ?_
    refine oC (hok := by first | with_reducible rfl | omega | (simp [nms_len]; done) | (simp [nms_len]; omega) | (exact decide_eq_true (by simp)) | (simp; done) | (simp; omega) | rfl) ?_
    iterate 2 refine oG (hok := by first | with_reducible rfl | omega | (simp [nms_len]; done) | (simp [nms_len]; omega) | (exact decide_eq_true (by simp)) | (simp; done) | (simp; omega) | rfl) ?_
    refine oS ?_
    refine oG (hok := by first | with_reducible rfl | omega | (simp [nms_len]; done) | (simp [nms_len]; omega) | (exact decide_eq_true (by simp)) | (simp; done) | (simp; omega) | rfl) ?_
    refine oC (hok := by first | with_reducible rfl | omega | (simp [nms_len]; done) | (simp [nms_len]; omega) | (exact decide_eq_true (by simp)) | (simp; done) | (simp; omega) | rfl) ?_
    iterate 2 refine oG (hok := by first | with_reducible rfl | omega | (simp [nms_len]; done) | (simp [nms_len]; omega) | (exact decide_eq_true (by simp)) | (simp; done) | (simp; omega) | rfl) ?_
    refine oS ?_
    refine oN ?_
    refine thenQ_normal ?_
    refine WI.ret ?_
    first | refine lfR ?_ | refine lfR2 ?_
    first | rfl | exact ⟨rfl, rfl⟩ | trivial -- leaf 1
def awake38G : List D → Option (Bool × D)
  | [] => some (true, .x (.bool true))
  | _ => none
theorem awake38G_ok : ∀ args r, awake38G args = some (true, r) → PCalls Try.prog 12 args r := by
  intro args r h
  unfold awake38G at h
  split at h
  · simp only [Option.some.injEq, Prod.mk.injEq, Bool.and_eq_true, decide_eq_true_eq, true_and] at h
    obtain rfl := h
    exact awake38_c 
  · cases h
def tabPg5 : Tabs := addQ (addQ (addT (addT (addT (addT (addT (noTabs) 13 newT38) 15 beginT) 21 nextT) 20 plenT) 18 pdropT) 14 someG) 12 awake38G
theorem tabPg5_ok : SsOk Try.prog tabPg5 := addQ_ok (addQ_ok (addT_ok (addT_ok (addT_ok (addT_ok (addT_ok (noTabs_ok) (G_enters G_ok (p := i13) rfl) newT38_ok) (G_enters G_ok (p := i15) rfl) beginT_ok) (G_enters G_ok (p := i21) rfl) nextT_ok) (G_enters G_ok (p := i20) rfl) plenT_ok) (G_enters G_ok (p := i18) rfl) pdropT_ok) (G_enters G_ok (p := i14) rfl) someG_ok) (G_enters G_ok (p := i12) rfl) awake38G_ok
theorem tabPg5_q13 (a : List D) : tabPg5.q 13 a = none := rfl
theorem tabPg5_t13 (a : List D) (o : List Ob) : tabPg5.t 13 a o = liftT newT38 a o := rfl
theorem tabPg5_q15 (a : List D) : tabPg5.q 15 a = none := rfl
theorem tabPg5_t15 (a : List D) (o : List Ob) : tabPg5.t 15 a o = liftT beginT a o := rfl
theorem tabPg5_q21 (a : List D) : tabPg5.q 21 a = none := rfl
theorem tabPg5_t21 (a : List D) (o : List Ob) : tabPg5.t 21 a o = liftT nextT a o := rfl
theorem tabPg5_q20 (a : List D) : tabPg5.q 20 a = none := rfl
theorem tabPg5_t20 (a : List D) (o : List Ob) : tabPg5.t 20 a o = liftT plenT a o := rfl
theorem tabPg5_q18 (a : List D) : tabPg5.q 18 a = none := rfl
theorem tabPg5_t18 (a : List D) (o : List Ob) : tabPg5.t 18 a o = liftT pdropT a o := rfl
theorem tabPg5_q14 (a : List D) : tabPg5.q 14 a = someG a := rfl
theorem tabPg5_q12 (a : List D) : tabPg5.q 12 a = awake38G a := rfl
theorem tabPg5_r (f : FuncId) (a : List D) (o : List Ob) : tabPg5.r f a o = none := rfl
theorem tabPg5_k (f : FuncId) (a : List D) (o : List Ob) : tabPg5.k f a o = none := rfl
theorem pagesNone_c (d : Int × Int × Int × Unit) : PCalls Try.prog 4 [.agg [.x (.int .i64 d.1), .x (.int .i64 d.2.1), .x (.int .i64 d.2.2.1)]] (.x (.bool true)) := by
  refine FCalls.pure (fcallsG (fz := true) G_ok (p := i4) rfl _ (Nat.le_of_ble_eq_true rfl) _ (fun C0 E0 => ?_)) rfl
  dsimp only [i4, argsφ]
  have uu := And.intro @beginT.eq_1 (And.intro @nextT.eq_1 (And.intro @nextT.eq_2 (And.intro @plenT.eq_1 (And.intro @plenT.eq_2 (And.intro @plenT.eq_3 (And.intro @pdropT.eq_1 (And.intro @pdropT.eq_2 (And.intro @pdropT.eq_3 (And.intro @someG.eq_1 (And.intro @someG.eq_2 (And.intro @awake38G.eq_1 (And.intro @awake38G.eq_2 (And.intro @tabPg5_r (And.intro @tabPg5_k (And.intro @tabPg5_q12 (And.intro @tabPg5_q13 (And.intro @tabPg5_q14 (And.intro @tabPg5_q15 (And.intro @tabPg5_q18 (And.intro @tabPg5_q20 (And.intro @tabPg5_q21 (And.intro @tabPg5_t13 (And.intro @tabPg5_t15 (And.intro @tabPg5_t21 (And.intro @tabPg5_t20 (And.intro @tabPg5_t18 (And.intro @newT38.eq_1 (@newT38.eq_2))))))))))))))))))))))))))))
  refine WI.seq ?_
  refine WI.regB tabPg5_ok [1] ?_
  refine oG ?_
  refine oS ?_
  refine oN ?_
  refine thenQ_normal ?_
  refine WI.seq ?_
  refine WI.regB tabPg5_ok [1, 3] ?_
  refine oS ?_
  refine oN ?_
  refine thenQ_normal ?_
  refine WI.seq ?_
  refine WI.regB tabPg5_ok [1, 3, 4, 5] ?_
  refine oS ?_
  iterate 2 refine oC ?_
  refine oS ?_
  iterate 2 refine oG ?_
  iterate 2 refine oS ?_
  refine oN ?_
  refine thenQ_normal ?_
  refine WI.seq ?_
  refine WI.regB tabPg5_ok [1, 3, 4, 5, 6, 7, 8] ?_
  iterate 2 refine oS ?_
  refine oG ?_
  refine oS ?_
  refine oG ?_
  refine oC ?_
  refine oS ?_
  iterate 3 refine oG ?_
  iterate 3 refine oS ?_
  refine oN ?_
  refine thenQ_normal ?_
  refine WI.seq ?_
  refine WI.regB tabPg5_ok [2] ?_
  iterate 2 refine oS ?_
  refine oG ?_
  refine oS ?_
  iterate 2 refine oG ?_
  refine oS ?_
  refine oC ?_
  iterate 2 refine oG ?_
  refine oS ?_
  iterate 3 refine oG ?_
  refine oS ?_
  iterate 3 refine oG ?_
  refine oS ?_
  iterate 3 refine oG ?_
  refine oC ?_
  iterate 2 refine oG ?_
  refine oS ?_
  refine oC ?_
  refine oG ?_
  refine oS ?_
  refine oN ?_
  refine thenQ_normal ?_
  refine WI.ret ?_
  first | refine lfR ?_ | refine lfR2 ?_
  first | rfl | exact ⟨rfl, rfl⟩ | trivial -- leaf 0
/-- The next ones of what is left. -/
theorem nx_left (R : List (List UInt8)) (n : Int) (hn : 1 ≤ n ∧ n ≤ 1024) (hR : R ≠ []) : ∃ (m : List (List UInt8)) (d : Int) (L : Pg), nxR [(1, R)] 1 n = (m, d, 0, L) ∧ m = R.take m.length ∧ m.length ≤ R.length ∧ ((d = 0 ∧ m.length = R.length ∧ L = []) ∨ (d = 1 ∧ m.length < R.length ∧ L = [(1, R.drop m.length)])) := by
  have hl : mlook [((1 : Int), R)] 1 = some R := by simp [mlook]
  unfold nxR
  rw [if_pos hn, hl]
  simp only
  split
  · rename_i h
    exact ⟨R, 0, _, rfl, by simp, Nat.le_refl _, .inl ⟨rfl, rfl, by simp [mdel]⟩⟩
  · rename_i h
    have e : (R.take n.toNat).length = n.toNat := by rw [List.length_take]; omega
    exact ⟨R.take n.toNat, 1, _, rfl, by rw [e], by omega, .inr ⟨rfl, by omega, by rw [e]; simp [mset]⟩⟩
theorem bg_all (l : List (List UInt8)) (h : l ≠ []) : bgR 4 0 [] l = (1, true, 1, [(1, l)]) := by
  unfold bgR; rw [if_pos ⟨h, by simp⟩]; rfl
theorem toNat_add (a b : Nat) : ((a : Int) + (b : Int)).toNat = a + b := by omega
theorem bg_none : bgR 4 0 [] (nms 0) = (0, false, 0, []) := rfl
theorem pagesAll_c (n : Int) (hn : 0 ≤ n ∧ n ≤ 255) (st : List Int) (hs : ∀ z ∈ st, 0 ≤ z ∧ z ≤ 255) : PCalls Try.prog 5 [.x (.int .u8 n), .x (.sl (rows (rInt .u8) st))] (.x (.bool true)) := by
  by_cases h0 : n = 0
  · subst h0
    have hb := bg_none
    refine FCalls.pure (fcallsG (fz := true) G_ok (p := i5) rfl _ (Nat.le_of_ble_eq_true rfl) _ (fun C0 E0 => ?_)) rfl
    dsimp only [i5, argsφ]
    have uu := And.intro @newT38.eq_1 (And.intro @newT38.eq_2 (And.intro @beginT.eq_1 (And.intro @nextT.eq_1 (And.intro @nextT.eq_2 (And.intro @plenT.eq_1 (And.intro @plenT.eq_2 (And.intro @plenT.eq_3 (And.intro @pdropT.eq_1 (And.intro @pdropT.eq_2 (And.intro @pdropT.eq_3 (And.intro @someG.eq_1 (And.intro @someG.eq_2 (And.intro @awake38G.eq_1 (And.intro @awake38G.eq_2 (And.intro @un_N (And.intro @un_P (And.intro @rowsN_len (And.intro hb (And.intro @tabPg5_r (And.intro @tabPg5_k (And.intro @tabPg5_q12 (And.intro @tabPg5_q13 (And.intro @tabPg5_q14 (And.intro @tabPg5_q15 (And.intro @tabPg5_q18 (And.intro @tabPg5_q20 (And.intro @tabPg5_q21 (And.intro @tabPg5_t13 (And.intro @tabPg5_t15 (And.intro @tabPg5_t21 (And.intro @tabPg5_t20 (@tabPg5_t18))))))))))))))))))))))))))))))))
    refine WI.seq ?_
    refine WI.regB tabPg5_ok [0, 1] ?_
    refine oS ?_
    refine oN ?_
    refine thenQ_normal ?_
    refine WI.seq ?_
    refine WI.regB tabPg5_ok [0, 1, 5] ?_
    refine oC (hok := by first | with_reducible rfl | omega | (simp [nms_len]; done) | (simp [nms_len]; omega) | (simp; done) | (simp; omega) | rfl) ?_
    refine oS ?_
    iterate 2 refine oG (hok := by first | with_reducible rfl | omega | (simp [nms_len]; done) | (simp [nms_len]; omega) | (simp; done) | (simp; omega) | rfl) ?_
    iterate 2 refine oS ?_
    refine oN ?_
    refine thenQ_normal ?_
    refine WI.seq ?_
    refine WI.seq ?_
    refine WI.regB tabPg5_ok [0, 1, 5, 26] ?_
    refine oS ?_
    refine oG (hok := by first | with_reducible rfl | omega | (simp [nms_len]; done) | (simp [nms_len]; omega) | (simp; done) | (simp; omega) | rfl) ?_
    refine oS ?_
    iterate 4 refine oG (hok := by first | with_reducible rfl | omega | (simp [nms_len]; done) | (simp [nms_len]; omega) | (simp; done) | (simp; omega) | rfl) ?_
    refine oN ?_
    refine thenQ_normal ?_
    refine WI.cond (b := _) rfl rfl (fun h0 => ?_) (fun h0 => ?_)
    · try simp only [zB] at h0
      refine WI.seq ?_
      refine WI.regB tabPg5_ok [4] ?_
      refine oS ?_
      refine oG (hok := by first | with_reducible rfl | omega | (simp [nms_len]; done) | (simp [nms_len]; omega) | (simp; done) | (simp; omega) | rfl) ?_
      refine oS ?_
      refine oC (hok := by first | with_reducible rfl | omega | (simp [nms_len]; done) | (simp [nms_len]; omega) | (simp; done) | (simp; omega) | rfl) ?_
      refine oG (hok := by first | with_reducible rfl | omega | (simp [nms_len]; done) | (simp [nms_len]; omega) | (simp; done) | (simp; omega) | rfl) ?_
      refine oS ?_
      refine oN ?_
      refine thenQ_normal ?_
      refine WI.ret ?_
      refine thenQ_ret ?_
      first | refine lfR ?_ | refine lfR2 ?_
      first | rfl | exact ⟨rfl, rfl⟩ | trivial -- leaf 0
    · try simp only [zB] at h0
      refine WI.skip ?_
      refine thenQ_normal ?_
      refine WI.seq ?_
      refine WI.regB tabPg5_ok [0, 1, 5, 7] ?_
      refine oS ?_
      refine oG (hok := by first | with_reducible rfl | omega | (simp [nms_len]; done) | (simp [nms_len]; omega) | (simp; done) | (simp; omega) | rfl) ?_
      refine oC (hok := by first | with_reducible rfl | omega | (simp [nms_len]; done) | (simp [nms_len]; omega) | (simp; done) | (simp; omega) | rfl) ?_
      refine oS ?_
      refine oN ?_
      refine thenQ_normal ?_
      refine WI.seq ?_
      refine WI.regB tabPg5_ok [0, 1, 5, 7, 8, 9] ?_
      iterate 2 refine oS ?_
      refine oC (hok := by first | with_reducible rfl | omega | (simp [nms_len]; done) | (simp [nms_len]; omega) | (simp; done) | (simp; omega) | rfl) ?_
      refine oS ?_
      iterate 2 refine oG (hok := by first | with_reducible rfl | omega | (simp [nms_len]; done) | (simp [nms_len]; omega) | (simp; done) | (simp; omega) | rfl) ?_
      iterate 2 refine oS ?_
      refine oN ?_
      refine thenQ_normal ?_
      refine WI.seq ?_
      refine WI.seq ?_
      refine WI.regB tabPg5_ok [0, 1, 5, 7, 8, 42] ?_
      refine oS ?_
      refine oG (hok := by first | with_reducible rfl | omega | (simp [nms_len]; done) | (simp [nms_len]; omega) | (simp; done) | (simp; omega) | rfl) ?_
      refine oN ?_
      refine thenQ_normal ?_
      refine WI.cond (b := _) rfl rfl (fun h1 => ?_) (fun h1 => ?_)
      · try simp only [zB] at h1
        refine WI.seq ?_
        refine WI.regB tabPg5_ok [4] ?_
        refine oS ?_
        refine oG (hok := by first | with_reducible rfl | omega | (simp [nms_len]; done) | (simp [nms_len]; omega) | (simp; done) | (simp; omega) | rfl) ?_
        refine oS ?_
        refine oC (hok := by first | with_reducible rfl | omega | (simp [nms_len]; done) | (simp [nms_len]; omega) | (simp; done) | (simp; omega) | rfl) ?_
        refine oG (hok := by first | with_reducible rfl | omega | (simp [nms_len]; done) | (simp [nms_len]; omega) | (simp; done) | (simp; omega) | rfl) ?_
        refine oS ?_
        refine oN ?_
        refine thenQ_normal ?_
        refine WI.ret ?_
        refine thenQ_ret ?_
        first | refine lfR ?_ | refine lfR2 ?_
        first | rfl | exact ⟨rfl, rfl⟩ | trivial -- leaf 1
      · exfalso
        simp at h1
  · obtain ⟨k, rfl⟩ := Int.eq_ofNat_of_zero_le hn.1
    have hnz : nms k ≠ [] := by intro h; have := congrArg List.length h; rw [nms_len] at this; simp at this; omega
    have hb := bg_all (nms k) hnz
    have e1 : IntKind.i64.wrap (k : Int) = k := IntWalk.i64_in _ (by omega)
    refine FCalls.pure (fcallsG (fz := true) G_ok (p := i5) rfl _ (Nat.le_of_ble_eq_true rfl) _ (fun C0 E0 => ?_)) rfl
    dsimp only [i5, argsφ]
    have uu := And.intro @newT38.eq_1 (And.intro @newT38.eq_2 (And.intro @beginT.eq_1 (And.intro @nextT.eq_1 (And.intro @nextT.eq_2 (And.intro @plenT.eq_1 (And.intro @plenT.eq_2 (And.intro @plenT.eq_3 (And.intro @pdropT.eq_1 (And.intro @pdropT.eq_2 (And.intro @pdropT.eq_3 (And.intro @someG.eq_1 (And.intro @someG.eq_2 (And.intro @awake38G.eq_1 (And.intro @awake38G.eq_2 (And.intro @un_N (And.intro @un_P (And.intro @rowsN_len (And.intro @nms_len (And.intro hb (And.intro @e1 (And.intro @rowsN_get (And.intro @toNat_add (And.intro @tabPg5_r (And.intro @tabPg5_k (And.intro @tabPg5_q12 (And.intro @tabPg5_q13 (And.intro @tabPg5_q14 (And.intro @tabPg5_q15 (And.intro @tabPg5_q18 (And.intro @tabPg5_q20 (And.intro @tabPg5_q21 (And.intro @tabPg5_t13 (And.intro @tabPg5_t15 (And.intro @tabPg5_t21 (And.intro @tabPg5_t20 (@tabPg5_t18))))))))))))))))))))))))))))))))))))
    refine WI.seq ?_
    refine WI.regB tabPg5_ok [0, 1] ?_
    refine oS ?_
    refine oN ?_
    refine thenQ_normal ?_
    refine WI.seq ?_
    refine WI.regB tabPg5_ok [0, 1, 5] ?_
    refine oC (hok := by first | with_reducible rfl | omega | (simp [nms_len]; done) | (simp [nms_len]; omega) | (exact decide_eq_true (by simp [nms_len]; omega)) | (simp; done) | (simp; omega) | rfl) ?_
    refine oS ?_
    iterate 2 refine oG (hok := by first | with_reducible rfl | omega | (simp [nms_len]; done) | (simp [nms_len]; omega) | (exact decide_eq_true (by simp [nms_len]; omega)) | (simp; done) | (simp; omega) | rfl) ?_
    iterate 2 refine oS ?_
    refine oN ?_
    refine thenQ_normal ?_
    refine WI.seq ?_
    refine WI.seq ?_
    refine WI.regB tabPg5_ok [0, 1, 5, 26] ?_
    refine oS ?_
    refine oG (hok := by first | with_reducible rfl | omega | (simp [nms_len]; done) | (simp [nms_len]; omega) | (exact decide_eq_true (by simp [nms_len]; omega)) | (simp; done) | (simp; omega) | rfl) ?_
    refine oS ?_
    iterate 4 refine oG (hok := by first | with_reducible rfl | omega | (simp [nms_len]; done) | (simp [nms_len]; omega) | (exact decide_eq_true (by simp [nms_len]; omega)) | (simp; done) | (simp; omega) | rfl) ?_
    refine oN ?_
    refine thenQ_normal ?_
    refine WI.cond (b := _) rfl rfl (fun h0 => ?_) (fun h0 => ?_)
    · try simp only [zB] at h0
      refine WI.seq ?_
      refine WI.regB tabPg5_ok [4] ?_
      refine oS ?_
      refine oG (hok := by first | with_reducible rfl | omega | (simp [nms_len]; done) | (simp [nms_len]; omega) | (exact decide_eq_true (by simp [nms_len]; omega)) | (simp; done) | (simp; omega) | rfl) ?_
      refine oS ?_
      refine oC (hok := by first | with_reducible rfl | omega | (simp [nms_len]; done) | (simp [nms_len]; omega) | (exact decide_eq_true (by simp [nms_len]; omega)) | (simp; done) | (simp; omega) | rfl) ?_
      refine oG (hok := by first | with_reducible rfl | omega | (simp [nms_len]; done) | (simp [nms_len]; omega) | (exact decide_eq_true (by simp [nms_len]; omega)) | (simp; done) | (simp; omega) | rfl) ?_
      refine oS ?_
      refine oN ?_
      refine thenQ_normal ?_
      refine WI.ret ?_
      refine thenQ_ret ?_
      first | refine lfR ?_ | refine lfR2 ?_
      first | rfl | exact ⟨rfl, rfl⟩ | trivial -- leaf 0
    · try simp only [zB] at h0
      refine WI.skip ?_
      refine thenQ_normal ?_
      refine WI.seq ?_
      refine WI.regB tabPg5_ok [0, 1, 5, 7] ?_
      refine oS ?_
      refine oG (hok := by first | with_reducible rfl | omega | (simp [nms_len]; done) | (simp [nms_len]; omega) | (exact decide_eq_true (by simp [nms_len]; omega)) | (simp; done) | (simp; omega) | rfl) ?_
      refine oC (hok := by first | with_reducible rfl | omega | (simp [nms_len]; done) | (simp [nms_len]; omega) | (exact decide_eq_true (by simp [nms_len]; omega)) | (simp; done) | (simp; omega) | rfl) ?_
      refine oS ?_
      refine oN ?_
      refine thenQ_normal ?_
      refine WI.seq ?_
      refine WI.regB tabPg5_ok [0, 1, 5, 7, 8, 9] ?_
      iterate 2 refine oS ?_
      refine oC (hok := by first | with_reducible rfl | omega | (simp [nms_len]; done) | (simp [nms_len]; omega) | (exact decide_eq_true (by simp [nms_len]; omega)) | (simp; done) | (simp; omega) | rfl) ?_
      refine oS ?_
      iterate 2 refine oG (hok := by first | with_reducible rfl | omega | (simp [nms_len]; done) | (simp [nms_len]; omega) | (exact decide_eq_true (by simp [nms_len]; omega)) | (simp; done) | (simp; omega) | rfl) ?_
      iterate 2 refine oS ?_
      refine oN ?_
      refine thenQ_normal ?_
      refine WI.seq ?_
      refine WI.seq ?_
      refine WI.regB tabPg5_ok [0, 1, 5, 7, 8, 42] ?_
      refine oS ?_
      refine oG (hok := by first | with_reducible rfl | omega | (simp [nms_len]; done) | (simp [nms_len]; omega) | (exact decide_eq_true (by simp [nms_len]; omega)) | (simp; done) | (simp; omega) | rfl) ?_
      refine oN ?_
      refine thenQ_normal ?_
      refine WI.cond (b := _) rfl rfl (fun h1 => ?_) (fun h1 => ?_)
      · exfalso
        simp at h1
      · try simp only [zB] at h1
        refine WI.skip ?_
        refine thenQ_normal ?_
        refine WI.seq ?_
        refine WI.regB tabPg5_ok [1, 5, 7, 8, 10] ?_
        refine oS ?_
        refine oN ?_
        refine thenQ_normal ?_
        refine WI.seq ?_
        refine WI.seq ?_
        refine WI.regB tabPg5_ok [1, 5, 7, 8, 10, 11] ?_
        refine oS ?_
        refine oN ?_
        refine thenQ_normal ?_
        refine WI.block ?_
        refine WI.loop (fun φ os => ∃ (i q : Nat) (c : Int) (L : Pg), φ = [(1, .x (.sl (rows (rInt .u8) st))), (5, .ptr 1 0), (7, .x (.sl (rowsN (nms k)))), (8, .x (.int .i64 c)), (10, .x (.int .i64 q)), (11, .x (.int .i64 i))] ∧ os = [pgM L, .box [.mref 0, .x (.int .i64 4), .x (.int .i64 1)]] ∧ i ≤ st.length ∧ ((c = 0 ∧ q = k) ∨ (c = 1 ∧ q < k ∧ L = [(1, (nms k).drop q)]))) (down st.length 11) ?_ (fun φ os hI => ?_)
        · exact ⟨0, 0, 1, _, rfl, rfl, by omega, .inr ⟨rfl, by omega, rfl⟩⟩
        · obtain ⟨i, q, c, L, rfl, rfl, hi, hc⟩ := hI
          refine WI.seq ?_
          refine WI.seq ?_
          refine WI.regB tabPg5_ok [1, 5, 7, 8, 10, 11, 55] ?_
          iterate 2 refine oS ?_
          iterate 2 refine oG (hok := by first | with_reducible rfl | omega | (simp [nms_len]; done) | (simp [nms_len]; omega) | (exact decide_eq_true (by simp [nms_len]; omega)) | (simp; done) | (simp; omega) | rfl) ?_
          refine oS ?_
          iterate 3 refine oG (hok := by first | with_reducible rfl | omega | (simp [nms_len]; done) | (simp [nms_len]; omega) | (exact decide_eq_true (by simp [nms_len]; omega)) | (simp; done) | (simp; omega) | rfl) ?_
          refine oN ?_
          refine thenQ_normal ?_
          refine WI.cond (b := _) rfl rfl (fun h2 => ?_) (fun h2 => ?_)
          · try simp only [zB] at h2
            refine WI.skip ?_
            refine thenQ_normal ?_
            refine WI.seq ?_
            refine WI.block ?_
            refine WI.seq ?_
            obtain ⟨rfl, hq, rfl⟩ : c = 1 ∧ q < k ∧ L = [(1, (nms k).drop q)] := hc.resolve_left (fun h => h2.2 h.1)
            have hi4 : i < st.length := by omega
            have hz0 := hs _ (List.getElem_mem hi4)
            obtain ⟨z, hz⟩ := Int.eq_ofNat_of_zero_le hz0.1
            have e3 : (z : Int).tmod 20 = ((z % 20 : Nat) : Int) := (Int.ofNat_tmod z 20).symm
            have hnl := nms_len k
            have hdl : ((nms k).drop q).length = k - q := by rw [List.length_drop, hnl]
            obtain ⟨m, d, L', hnx, hm, hml, hd⟩ := nx_left ((nms k).drop q) (((z % 20 : Nat) : Int) + 1) ⟨by omega, by omega⟩ (by intro h; rw [h] at hdl; simp at hdl; omega)
            rw [hdl] at hml hd
            have uu := And.intro uu (And.intro hz (And.intro e3 hnx))
            refine WI.regB tabPg5_ok [1, 5, 7, 10, 11, 12, 13, 14] ?_
            iterate 4 refine oS ?_
            iterate 5 refine oG (hok := by first | with_reducible rfl | omega | (simp [nms_len]; done) | (simp [nms_len]; omega) | (exact decide_eq_true (by simp [nms_len]; omega)) | (simp; done) | (simp; omega) | rfl) ?_
            refine oC (hok := by first | with_reducible rfl | omega | (simp [nms_len]; done) | (simp [nms_len]; omega) | (exact decide_eq_true (by simp [nms_len]; omega)) | (simp; done) | (simp; omega) | rfl) ?_
            refine oS ?_
            iterate 3 refine oG (hok := by first | with_reducible rfl | omega | (simp [nms_len]; done) | (simp [nms_len]; omega) | (exact decide_eq_true (by simp [nms_len]; omega)) | (simp; done) | (simp; omega) | rfl) ?_
            iterate 3 refine oS ?_
            refine oN ?_
            refine thenQ_normal ?_
            refine WI.seq ?_
            refine WI.seq ?_
            refine WI.regB tabPg5_ok [1, 5, 7, 10, 11, 12, 13, 82] ?_
            refine oS ?_
            refine oG (hok := by first | with_reducible rfl | omega | (simp [nms_len]; done) | (simp [nms_len]; omega) | (exact decide_eq_true (by simp [nms_len]; omega)) | (simp; done) | (simp; omega) | rfl) ?_
            refine oS ?_
            iterate 8 refine oG (hok := by first | with_reducible rfl | omega | (simp [nms_len]; done) | (simp [nms_len]; omega) | (exact decide_eq_true (by simp [nms_len]; omega)) | (simp; done) | (simp; omega) | rfl) ?_
            refine oN ?_
            refine thenQ_normal ?_
            refine WI.cond (b := _) rfl rfl (fun h3 => ?_) (fun h3 => ?_)
            · exfalso
              simp only [zB] at h3; omega
            · try simp only [zB] at h3
              refine WI.skip ?_
              refine thenQ_normal ?_
              refine WI.seq ?_
              refine WI.seq ?_
              refine WI.regB tabPg5_ok [1, 5, 7, 10, 11, 12, 13, 15] ?_
              refine oS ?_
              refine oN ?_
              refine thenQ_normal ?_
              refine WI.block ?_
              refine WI.loop (fun φ os => ∃ (j : Nat), φ = [(1, .x (.sl (rows (rInt .u8) st))), (5, .ptr 1 0), (7, .x (.sl (rowsN (nms k)))), (10, .x (.int .i64 q)), (11, .x (.int .i64 i)), (12, .x (.sl (rowsN m))), (13, .x (.int .i64 d)), (15, .x (.int .i64 j))] ∧ os = [pgM L', .box [.mref 0, .x (.int .i64 4), .x (.int .i64 1)]] ∧ j ≤ m.length) (down m.length 15) ?_ (fun φ os hI => ?_)
              · exact ⟨0, rfl, rfl, by omega⟩
              · obtain ⟨j, rfl, rfl, hj⟩ := hI
                refine WI.seq ?_
                refine WI.seq ?_
                refine WI.regB tabPg5_ok [1, 5, 7, 10, 11, 12, 13, 15, 86] ?_
                iterate 2 refine oS ?_
                iterate 2 refine oG (hok := by first | with_reducible rfl | omega | (simp [nms_len]; done) | (simp [nms_len]; omega) | (exact decide_eq_true (by simp [nms_len]; omega)) | (simp; done) | (simp; omega) | rfl) ?_
                refine oN ?_
                refine thenQ_normal ?_
                refine WI.cond (b := _) rfl rfl (fun h4 => ?_) (fun h4 => ?_)
                · try simp only [zB] at h4
                  refine WI.skip ?_
                  refine thenQ_normal ?_
                  refine WI.seq ?_
                  refine WI.block ?_
                  refine WI.seq ?_
                  refine WI.dregB tabPg5_ok [1, 5, 7, 10, 11, 12, 13, 15, 101] ?_
                  iterate 2 refine dFS ?_
                  refine dQG (hok := by first | with_reducible rfl | omega | (simp [nms_len]; done) | (simp [nms_len]; omega) | (exact decide_eq_true (by simp [nms_len]; omega)) | (simp; done) | (simp; omega) | rfl) ?_
                  refine dFS ?_
                  refine dQG (hok := by first | with_reducible rfl | omega | (simp [nms_len]; done) | (simp [nms_len]; omega) | (exact decide_eq_true (by simp [nms_len]; omega)) | (simp; done) | (simp; omega) | rfl) ?_
                  iterate 3 refine dFS ?_
                  refine dFG (hok := by first | with_reducible rfl | omega | (simp [nms_len]; done) | (simp [nms_len]; omega) | (exact decide_eq_true (by simp [nms_len]; omega)) | (simp; done) | (simp; omega) | rfl) ?_
                  refine dQG (hok := by first | with_reducible rfl | omega | (simp [nms_len]; done) | (simp [nms_len]; omega) | (exact decide_eq_true (by simp [nms_len]; omega)) | (simp; done) | (simp; omega) | rfl) ?_
                  refine dFS ?_
                  refine dQG (hok := by first | with_reducible rfl | omega | (simp [nms_len]; done) | (simp [nms_len]; omega) | (exact decide_eq_true (by simp [nms_len]; omega)) | (simp; done) | (simp; omega) | rfl) ?_
                  refine dFG (hok := by first | with_reducible rfl | omega | (simp [nms_len]; done) | (simp [nms_len]; omega) | (exact decide_eq_true (by simp [nms_len]; omega)) | (simp; done) | (simp; omega) | rfl) ?_
                  refine dN ?_
                  refine thenQ_normal ?_
                  refine WI.cond (b := _) rfl rfl (fun h5 => ?_) (fun h5 => ?_)
                  · exfalso
                    simp only [zB] at h5
                    refine h5 ?_
                    have hj5 : j < (((nms k).drop q).take m.length).length := by rw [← hm]; omega
                    have e5 : m[j] = (((nms k).drop q).take m.length)[j] := by congr 1
                    rw [e5, List.getElem_take, List.getElem_drop]
                  · try simp only [zB] at h5
                    refine WI.skip ?_
                    refine blockQ_normal ?_
                    refine thenQ_normal ?_
                    refine WI.regB tabPg5_ok [1, 5, 7, 10, 11, 12, 13, 15] ?_
                    refine oS ?_
                    refine oG (hok := by first | with_reducible rfl | omega | (simp [nms_len]; done) | (simp [nms_len]; omega) | (exact decide_eq_true (by simp [nms_len]; omega)) | (simp; done) | (simp; omega) | rfl) ?_
                    refine oS ?_
                    refine oN ?_
                    refine thenQ_normal ?_
                    exact ⟨⟨j + 1, by simp, rfl, by omega⟩, by simp [down, Ab.get, D.val, intOf?]; omega⟩
                · try simp only [zB] at h4
                  refine WI.exit ?_
                  refine thenQ_exit ?_
                  refine thenQ_exit ?_
                  refine blockQ_hit ?_
                  refine thenQ_normal ?_
                  refine WI.seq ?_
                  refine WI.regB tabPg5_ok [1, 5, 7, 10, 11, 13] ?_
                  iterate 2 refine oS ?_
                  iterate 2 refine oG (hok := by first | with_reducible rfl | omega | (simp [nms_len]; done) | (simp [nms_len]; omega) | (exact decide_eq_true (by simp [nms_len]; omega)) | (simp; done) | (simp; omega) | rfl) ?_
                  refine oS ?_
                  refine oN ?_
                  refine thenQ_normal ?_
                  refine WI.regB tabPg5_ok [1, 5, 7, 8, 10, 11] ?_
                  iterate 2 refine oS ?_
                  refine oN ?_
                  refine blockQ_normal ?_
                  refine thenQ_normal ?_
                  refine WI.orderA [1, 5, 7, 8, 10, 11] ?_
                  refine WI.regB tabPg5_ok [1, 5, 7, 8, 10, 11] ?_
                  refine oS ?_
                  refine oG (hok := by first | with_reducible rfl | omega | (simp [nms_len]; done) | (simp [nms_len]; omega) | (exact decide_eq_true (by simp [nms_len]; omega)) | (simp; done) | (simp; omega) | rfl) ?_
                  refine oS ?_
                  refine oN ?_
                  refine thenQ_normal ?_
                  exact ⟨⟨i + 1, q + m.length, d, L', by simp, rfl, by omega, by rcases hd with ⟨hd1, hd2, hd3⟩ | ⟨hd1, hd2, hd3⟩; exact .inl ⟨hd1, by omega⟩; exact .inr ⟨hd1, by omega, by rw [hd3, List.drop_drop]⟩⟩, by simp [down, Ab.get, D.val, intOf?]; omega⟩
          · try simp only [zB] at h2
            refine WI.exit ?_
            refine thenQ_exit ?_
            refine thenQ_exit ?_
            refine blockQ_hit ?_
            refine thenQ_normal ?_
            refine WI.seq ?_
            refine WI.regB tabPg5_ok [4] ?_
            refine oS ?_
            refine oG (hok := by first | with_reducible rfl | omega | (simp [nms_len]; done) | (simp [nms_len]; omega) | (exact decide_eq_true (by simp [nms_len]; omega)) | (simp; done) | (simp; omega) | rfl) ?_
            iterate 2 refine oS ?_
            iterate 3 refine oG (hok := by first | with_reducible rfl | omega | (simp [nms_len]; done) | (simp [nms_len]; omega) | (exact decide_eq_true (by simp [nms_len]; omega)) | (simp; done) | (simp; omega) | rfl) ?_
            refine oS ?_
            refine oC (hok := by first | with_reducible rfl | omega | (simp [nms_len]; done) | (simp [nms_len]; omega) | (exact decide_eq_true (by simp [nms_len]; omega)) | (simp; done) | (simp; omega) | rfl) ?_
            refine oG (hok := by first | with_reducible rfl | omega | (simp [nms_len]; done) | (simp [nms_len]; omega) | (exact decide_eq_true (by simp [nms_len]; omega)) | (simp; done) | (simp; omega) | rfl) ?_
            refine oS ?_
            refine oN ?_
            refine thenQ_normal ?_
            refine WI.ret ?_
            first | refine lfR ?_ | refine lfR2 ?_
            rcases hc with ⟨rfl, rfl⟩ | ⟨rfl, hq, _⟩
            · simp
            · rw [show ((1 : Int) == 0) = false from rfl, show (((q : Nat) : Int) == ((k : Nat) : Int)) = false from beq_eq_false_iff_ne.2 (by omega)]; rfl -- leaf 1
end Go.Proofs.Ytogplpcamiicgaa
end
section
/- Pages: the law's list; what is next of it. -/
set_option linter.unusedSimpArgs false
set_option linter.unusedVariables false
namespace Go.Proofs.Ytogplpcamiicgaa
open Go.RowKit Go.Bo Go.Ab

def rowX (p : Int × List (List UInt8)) : List X := [X.int .i64 p.1, X.sl (rows rStr p.2)]
def rowsX (x : Pg) : List (List X) := x.map rowX
theorem rowsX_len (x : Pg) : (rowsX x).length = x.length := by simp [rowsX]
theorem rowsX_get (x : Pg) (j : Nat) (h : j < x.length) : (rowsX x)[j]? = some [X.int .i64 x[j].1, X.sl (rows rStr x[j].2)] := by
  rw [rowsX, List.getElem?_map, List.getElem?_eq_getElem h]; rfl
theorem rowsX_take (x : Pg) (k : Nat) : (rowsX x).take k = rowsX (x.take k) := by simp [rowsX, List.map_take]
theorem rowsX_tk (x : Pg) : (rowsX x).take x.length = rowsX x := List.take_of_length_le (by simp [rowsX])
theorem rowsX_drop (x : Pg) (k : Nat) : (rowsX x).drop k = rowsX (x.drop k) := by simp [rowsX, List.map_drop]
theorem rowsX_app (x y : Pg) : rowsX x ++ rowsX y = rowsX (x ++ y) := by simp [rowsX]
theorem rowsX_snoc (x : Pg) (c : Int) (l : List (List UInt8)) : rowsX x ++ [[X.int .i64 c, X.sl (rows rStr l)]] = rowsX (x ++ [(c, l)]) := by simp [rowsX, rowX]
theorem rowsX_all (x : Pg) : ((rowsX x).all fun r => decide (r.length = 2)) = true := by
  rw [List.all_eq_true]; intro r hr; obtain ⟨s, _, rfl⟩ := List.mem_map.1 hr; rfl
def idxP : Pg → Int → Nat
  | [], _ => 0
  | p :: x, c => if c = p.1 then 0 else idxP x c + 1
abbrev Lst := Int × List (List UInt8) × Unit
abbrev rLst : RC Lst := rCat (rInt .i64) (rCat (rSl rStr) rEnd)
theorem good_rLst : rLst.Good := good_rCat (good_rInt .i64) (good_rCat (good_rSl good_rStr) good_rEnd)
def ofL (l : List Lst) : Pg := l.map fun p => (p.1, p.2.1)
def toL (x : Pg) : List Lst := x.map fun p => (p.1, p.2, ())
theorem of_to (x : Pg) : ofL (toL x) = x := by rw [ofL, toL, List.map_map]; exact List.map_id x
theorem rowsX_of (l : List Lst) : rowsX (ofL l) = rows rLst l := by
  simp only [rowsX, ofL, rows, List.map_map]; rfl
theorem rowsX_to (x : Pg) : rows rLst (toL x) = rowsX x := by rw [← rowsX_of, of_to]
theorem un_X (x : Pg) : unrows rLst (rowsX x) = some (toL x) := by rw [← rowsX_to]; exact unrows_rows good_rLst _
theorem toL_len (x : Pg) : (toL x).length = x.length := by simp [toL]
theorem idx_drop (x : Pg) (c : Int) (j : Nat) (h : j < x.length) : idxP (x.drop j) c = if c = x[j].1 then 0 else idxP (x.drop (j + 1)) c + 1 := by
  rw [List.drop_eq_getElem_cons h, idxP]
theorem idx_some : ∀ {x : Pg} {c : Int} {l : List (List UInt8)}, mlook x c = some l → ∃ h : idxP x c < x.length, x[idxP x c] = (c, l) ∧ x.take (idxP x c) ++ x.drop (idxP x c + 1) = mdel x c
  | [], c, l, h => by simp [mlook] at h
  | p :: x, c, l, h => by
    by_cases e : c = p.1
    · subst e
      have h1 : mlook (p :: x) p.1 = some p.2 := by simp [mlook]
      rw [h1] at h; cases h
      have h2 : idxP (p :: x) p.1 = 0 := by rw [idxP, if_pos rfl]
      have h3 : mdel (p :: x) p.1 = x := by simp [mdel]
      simp only [h2, h3]
      exact ⟨by simp, rfl, by simp⟩
    · have h1 : mlook (p :: x) c = mlook x c := by simp [mlook, e]
      rw [h1] at h
      obtain ⟨k1, k2, k3⟩ := idx_some h
      have h2 : idxP (p :: x) c = idxP x c + 1 := by rw [idxP, if_neg e]
      have h3 : mdel (p :: x) c = p :: mdel x c := by simp [mdel, e]
      simp only [h2, h3]
      refine ⟨by simpa using k1, by simpa using k2, ?_⟩
      rw [List.take_succ_cons, List.drop_succ_cons, List.cons_append, k3]
theorem idx_none : ∀ {x : Pg} {c : Int}, mlook x c = none → idxP x c = x.length
  | [], c, h => rfl
  | p :: x, c, h => by
    by_cases e : c = p.1
    · simp [mlook, e] at h
    · have h1 : mlook (p :: x) c = mlook x c := by simp [mlook, e]
      rw [h1] at h
      rw [idxP, if_neg e, idx_none h]; rfl
def fndP (x : Pg) (c : Int) : Int := if idxP x c < x.length then (idxP x c : Nat) else -1
theorem find38_c (x : Pg) (c : Int) (hl : x.length ≤ 1000000) : PCalls Try.prog 17 [.x (.sl (rowsX x)), .x (.int .i64 c)] (.x (.int .i64 (fndP x c))) := by
  refine FCalls.pure (fcallsG (fz := true) G_ok (p := i17) rfl _ (Nat.le_of_ble_eq_true rfl) _ (fun C0 E0 => ?_)) rfl
  dsimp only [i17, argsφ]
  have uu := And.intro @rowsX_len (@rowsX_get)
  refine WI.seq ?_
  refine WI.regB noTabs_ok [0, 1] ?_
  refine oS ?_
  refine oN ?_
  refine thenQ_normal ?_
  refine WI.seq ?_
  refine WI.seq ?_
  refine WI.regB noTabs_ok [0, 1, 5] ?_
  refine oS ?_
  refine oN ?_
  refine thenQ_normal ?_
  refine WI.block ?_
  refine WI.loop (fun φ os => ∃ (j : Nat), φ = [(0, .x (.sl (rowsX x))), (1, .x (.int .i64 c)), (5, .x (.int .i64 j))] ∧ os = [] ∧ j ≤ x.length ∧ idxP x c = j + idxP (x.drop j) c) (down x.length 5) ?_ (fun φ os hI => ?_)
  · exact ⟨0, rfl, rfl, by omega, by simp⟩
  · obtain ⟨j, rfl, rfl, hj, hx⟩ := hI
    refine WI.seq ?_
    refine WI.seq ?_
    refine WI.regB noTabs_ok [0, 1, 5, 9] ?_
    iterate 2 refine oS ?_
    iterate 2 refine oG ?_
    refine oN ?_
    refine thenQ_normal ?_
    refine WI.cond (b := _) rfl rfl (fun h0 => ?_) (fun h0 => ?_)
    · try simp only [zB] at h0
      refine WI.skip ?_
      refine thenQ_normal ?_
      refine WI.seq ?_
      refine WI.block ?_
      refine WI.seq ?_
      have hj4 : j < x.length := by omega
      have hd := idx_drop x c j hj4
      refine WI.regB noTabs_ok [0, 1, 5, 18] ?_
      iterate 2 refine oS ?_
      refine oG ?_
      refine oS ?_
      refine oG ?_
      refine oS ?_
      refine oG ?_
      refine oN ?_
      refine thenQ_normal ?_
      refine WI.cond (b := _) rfl rfl (fun h1 => ?_) (fun h1 => ?_)
      · try simp only [zB] at h1
        refine WI.seq ?_
        refine WI.regB noTabs_ok [4] ?_
        iterate 2 refine oS ?_
        refine oN ?_
        refine thenQ_normal ?_
        refine WI.ret ?_
        refine blockQ_ret ?_
        refine thenQ_ret ?_
        refine thenQ_ret ?_
        refine blockQ_ret ?_
        refine thenQ_ret ?_
        first | refine lfR ?_ | refine lfR2 ?_
        rw [if_pos h1.symm] at hd
        rw [fndP, if_pos (by omega), hx, hd]; rfl -- leaf 0
      · try simp only [zB] at h1
        refine WI.skip ?_
        refine blockQ_normal ?_
        refine thenQ_normal ?_
        refine WI.regB noTabs_ok [0, 1, 5] ?_
        refine oS ?_
        refine oG ?_
        refine oS ?_
        refine oN ?_
        refine thenQ_normal ?_
        exact ⟨⟨j + 1, by simp, rfl, by omega, by rw [hx, hd, if_neg (fun e => h1 e.symm)]; omega⟩, by simp [down, Ab.get, D.val, intOf?]; omega⟩
    · try simp only [zB] at h0
      refine WI.exit ?_
      refine thenQ_exit ?_
      refine thenQ_exit ?_
      refine blockQ_hit ?_
      refine thenQ_normal ?_
      refine WI.seq ?_
      refine WI.regB noTabs_ok [4] ?_
      refine oS ?_
      refine oN ?_
      refine thenQ_normal ?_
      refine WI.ret ?_
      first | refine lfR ?_ | refine lfR2 ?_
      rw [List.drop_of_length_le (by omega)] at hx
      rw [fndP, if_neg (by simp only [idxP] at hx; omega)] -- leaf 1
def rmv (x : Pg) (i : Nat) : Pg := x.take i ++ x.drop (i + 1)
theorem rmv_len (x : Pg) (i : Nat) (h : i < x.length) : (rmv x i).length = x.length - 1 := by
  simp only [rmv, List.length_append, List.length_take, List.length_drop]; omega
theorem out_c (x : Pg) (i : Nat) (hi : i < x.length) (hl : x.length ≤ 1000000) : MCalls Try.prog 19 [.ref 0 x.length 0 x.length, .x (.int .i64 i)] [.rows false 40 2 (rowsX x)] (.ref 1 (rmv x i).length 0 (rmv x i).length) [.rows false 40 2 (rowsX x), .rows false 40 2 (rowsX (rmv x i))] := by
  have ha := rowsX_all (x.take i)
  have hb := rowsX_all (x.drop (i + 1))
  have hr := rmv_len x i hi
  have e1 : ((i : Int) + 1).toNat = i + 1 := by omega
  have e3 : (x.drop (i + 1)).take (x.length - (i + 1)) = x.drop (i + 1) := List.take_of_length_le (by simp)
  have e4 : (x.take i).length = i := by rw [List.length_take]; omega
  have e5 : (x.drop (i + 1)).length = x.length - (i + 1) := List.length_drop
  refine FCalls.mcalls (fcallsG (fz := false) G_ok (p := i19) rfl _ (Nat.le_of_ble_eq_true rfl) _ (fun C0 E0 => ?_))
  dsimp only [i19, argsφ]
  have uu := And.intro @rowsX_len (And.intro @rowsX_take (And.intro @rowsX_drop (And.intro ha (And.intro hb (And.intro @e1 (And.intro @e3 (And.intro @e4 (@e5))))))))
  refine WI.seq ?_
  refine WI.regB noTabs_ok [0, 1] ?_
  refine oS ?_
  refine oN ?_
  refine thenQ_normal ?_
  refine WI.seq ?_
  refine WI.regB noTabs_ok [0, 1, 5] ?_
  refine oS ?_
  refine oN ?_
  refine thenQ_normal ?_
  refine WI.seq ?_
  refine WI.regB noTabs_ok [0, 1, 5] ?_
  iterate 3 refine oS ?_
  iterate 2 refine oG ?_
  refine oS ?_
  refine oN ?_
  refine thenQ_normal ?_
  refine WI.seq ?_
  refine WI.regB noTabs_ok [4] ?_
  iterate 3 refine oS ?_
  iterate 3 refine oG ?_
  refine oS ?_
  refine oN ?_
  refine thenQ_normal ?_
  refine WI.ret ?_
  first | refine lfR ?_ | refine lfR2 ?_
  rw [hr]; exact ⟨by congr 1 <;> omega, by rw [rowsX_app]; rfl⟩ -- leaf 0
def find38G : List D → Option (Bool × D)
  | [.x (.sl R), .x (.int .i64 c)] => (unrows rLst R).bind fun x => some (decide (x.length ≤ 1000000), .x (.int .i64 (fndP (ofL x) c)))
  | _ => none
theorem find38G_ok : ∀ args r, find38G args = some (true, r) → PCalls Try.prog 17 args r := by
  intro args r h
  unfold find38G at h
  split at h
  · rename_i R c
    obtain ⟨x, hr0, h⟩ := Option.bind_eq_some_iff.1 h
    simp only [Option.some.injEq, Prod.mk.injEq, Bool.and_eq_true, decide_eq_true_eq, true_and] at h
    obtain ⟨h1, rfl⟩ := h
    rw [← rows_unrows good_rLst hr0]
    exact (by have := find38_c (ofL x) c (by simpa [ofL] using h1); rwa [rowsX_of] at this)
  · cases h
def outT : List D → List Ob → Option (Bool × D × List Ob)
  | [.ref 0 e 0 l, .x (.int .i64 i)], [.rows false 40 2 R] => (unrows rLst R).map fun x =>
      (decide (e = x.length ∧ l = x.length ∧ 0 ≤ i ∧ i.toNat < x.length ∧ x.length ≤ 1000000), .ref 1 (rmv (ofL x) i.toNat).length 0 (rmv (ofL x) i.toNat).length, [.rows false 40 2 (rowsX (ofL x)), .rows false 40 2 (rowsX (rmv (ofL x) i.toNat))])
  | _, _ => none
theorem outT_ok : ∀ args os r os', outT args os = some (true, r, os') → MCalls Try.prog 19 args os r os' := by
  intro args os r os' h
  unfold outT at h
  split at h
  · rename_i e l i R
    obtain ⟨x, h2, h⟩ := Option.map_eq_some_iff.1 h
    simp only [Prod.mk.injEq, decide_eq_true_eq] at h
    obtain ⟨⟨rfl, rfl, h3, h4, h5⟩, rfl, rfl⟩ := h
    have hl : (ofL x).length = x.length := by simp [ofL]
    have := out_c (ofL x) i.toNat (by rw [hl]; exact h4) (by rw [hl]; exact h5)
    rw [hl, Int.toNat_of_nonneg h3] at this
    rw [← rows_unrows good_rLst h2, ← rowsX_of]
    exact this
  · cases h
def outK : List D → List Ob → Option (Bool × D × Ob)
  | [.ref 0 e 0 l, .x (.int .i64 i)], [.rows false 40 2 R] => (unrows rLst R).map fun x =>
      (decide (e = x.length ∧ l = x.length ∧ 0 ≤ i ∧ i.toNat < x.length ∧ x.length ≤ 1000000), .ref 1 (rmv (ofL x) i.toNat).length 0 (rmv (ofL x) i.toNat).length, .rows false 40 2 (rowsX (rmv (ofL x) i.toNat)))
  | _, _ => none
theorem outK_ok : ∀ args os r ob, outK args os = some (true, r, ob) → (∃ fz e sz rs, ob = .rows fz e sz rs) ∧ MCalls Try.prog 19 args os r (os ++ [ob]) := by
  intro args os r ob h
  unfold outK at h
  split at h
  · rename_i e l i R
    obtain ⟨x, h2, h⟩ := Option.map_eq_some_iff.1 h
    simp only [Prod.mk.injEq, decide_eq_true_eq] at h
    obtain ⟨⟨rfl, rfl, h3, h4, h5⟩, rfl, rfl⟩ := h
    have hl : (ofL x).length = x.length := by simp [ofL]
    have := out_c (ofL x) i.toNat (by rw [hl]; exact h4) (by rw [hl]; exact h5)
    rw [hl, Int.toNat_of_nonneg h3] at this
    refine ⟨⟨_, _, _, _, rfl⟩, ?_⟩
    rw [← rows_unrows good_rLst h2, ← rowsX_of]
    exact this
  · cases h
end Go.Proofs.Ytogplpcamiicgaa
end
section
/- Pages: the law's next. -/
set_option linter.unusedSimpArgs false
set_option linter.unusedVariables false
namespace Go.Proofs.Ytogplpcamiicgaa
open Go.RowKit Go.Bo Go.Ab

def tabPg6 : Tabs := addT (addQ (addT (noTabs) 21 nextT) 17 find38G) 19 outT
theorem tabPg6_ok : SsOk Try.prog tabPg6 := addT_ok (addQ_ok (addT_ok (noTabs_ok) (G_enters G_ok (p := i21) rfl) nextT_ok) (G_enters G_ok (p := i17) rfl) find38G_ok) (G_enters G_ok (p := i19) rfl) outT_ok
theorem tabPg6_q21 (a : List D) : tabPg6.q 21 a = none := rfl
theorem tabPg6_t21 (a : List D) (o : List Ob) : tabPg6.t 21 a o = liftT nextT a o := rfl
theorem tabPg6_q17 (a : List D) : tabPg6.q 17 a = find38G a := rfl
theorem tabPg6_q19 (a : List D) : tabPg6.q 19 a = none := rfl
theorem tabPg6_t19 (a : List D) (o : List Ob) : tabPg6.t 19 a o = liftT outT a o := rfl
theorem tabPg6_r (f : FuncId) (a : List D) (o : List Ob) : tabPg6.r f a o = none := rfl
theorem tabPg6_k (f : FuncId) (a : List D) (o : List Ob) : tabPg6.k f a o = none := rfl
def tabPg7 : Tabs := addK (addQ (addT (noTabs) 21 nextT) 17 find38G) 19 outK
theorem tabPg7_ok : SsOk Try.prog tabPg7 := addK_ok (addQ_ok (addT_ok (noTabs_ok) (G_enters G_ok (p := i21) rfl) nextT_ok) (G_enters G_ok (p := i17) rfl) find38G_ok) (G_enters G_ok (p := i19) rfl) outK_ok
theorem tabPg7_q21 (a : List D) : tabPg7.q 21 a = none := rfl
theorem tabPg7_t21 (a : List D) (o : List Ob) : tabPg7.t 21 a o = liftT nextT a o := rfl
theorem tabPg7_q17 (a : List D) : tabPg7.q 17 a = find38G a := rfl
theorem tabPg7_q19 (a : List D) : tabPg7.q 19 a = none := rfl
theorem tabPg7_t19 (a : List D) (o : List Ob) : tabPg7.t 19 a o = liftT (fun args os => (outK args os).map fun q => (q.1, q.2.1, os ++ [q.2.2])) a o := rfl
theorem tabPg7_k19 (a : List D) (o : List Ob) : tabPg7.k 19 a o = newT outK a o := rfl
theorem tabPg7_r (f : FuncId) (a : List D) (o : List Ob) : tabPg7.r f a o = none := rfl
abbrev xOb (x : Pg) : Ob := .rows false 40 2 (rowsX x)
abbrev deedD (k c n : Int) : D := .agg [.x (.int .i64 k), .x (.int .i64 c), .x (.int .i64 n)]
theorem nxt_range (m k kd c n : Int) (L x : Pg) (h : ¬ (1 ≤ n ∧ n ≤ 1024)) (hl : x.length ≤ 1000000) (hb : ∀ p ∈ L, p.2.length ≤ 1000000) : MCalls Try.prog 16 [.ptr 0 0, .ref 2 x.length 0 x.length, deedD kd c n] [pgB m k, pgM L, xOb x] (.tup [.ref 2 x.length 0 x.length, .x (.bool true)]) [pgB m k, pgM L, xOb x] := by
  have hn : nxR L c n = ([], 0, 2, L) := by rw [nxR, if_neg h]
  refine FCalls.mcalls (fcallsG (fz := false) G_ok (p := i16) rfl _ (Nat.le_of_ble_eq_true rfl) _ (fun C0 E0 => ?_))
  dsimp only [i16, argsφ]
  have uu := And.intro @nextT.eq_1 (And.intro @nextT.eq_2 (And.intro @find38G.eq_1 (And.intro @find38G.eq_2 (And.intro @un_P (And.intro @un_X (And.intro @toL_len (And.intro @of_to (And.intro hn (And.intro @rowsN_len (And.intro @rowsX_len (And.intro @rowsX_tk (And.intro @tabPg6_r (And.intro @tabPg6_k (And.intro @tabPg6_q17 (And.intro @tabPg6_q19 (And.intro @tabPg6_q21 (And.intro @tabPg6_t21 (And.intro @tabPg6_t19 (@outT.eq_1)))))))))))))))))))
  refine WI.seq ?_
  refine WI.regB tabPg6_ok [0, 1, 5] ?_
  refine oG (hok := by first | with_reducible rfl | omega | (exact decide_eq_true hb) | (simp; done) | (simp; omega) | rfl) ?_
  iterate 2 refine oS ?_
  refine oN ?_
  refine thenQ_normal ?_
  refine WI.seq ?_
  refine WI.regB tabPg6_ok [0, 1, 5, 8] ?_
  iterate 2 refine oS ?_
  refine oG (hok := by first | with_reducible rfl | omega | (exact decide_eq_true hb) | (simp; done) | (simp; omega) | rfl) ?_
  refine oC (hok := by first | with_reducible rfl | omega | (exact decide_eq_true hb) | (simp; done) | (simp; omega) | rfl) ?_
  refine oS ?_
  refine oN ?_
  refine thenQ_normal ?_
  refine WI.seq ?_
  refine WI.regB tabPg6_ok [1, 5, 8, 9, 10, 11] ?_
  iterate 2 refine oS ?_
  refine oG (hok := by first | with_reducible rfl | omega | (exact decide_eq_true hb) | (simp; done) | (simp; omega) | rfl) ?_
  refine oS ?_
  refine oG (hok := by first | with_reducible rfl | omega | (exact decide_eq_true hb) | (simp; done) | (simp; omega) | rfl) ?_
  refine oC (hok := by first | with_reducible rfl | omega | (exact decide_eq_true hb) | (simp; done) | (simp; omega) | rfl) ?_
  refine oS ?_
  iterate 3 refine oG (hok := by first | with_reducible rfl | omega | (exact decide_eq_true hb) | (simp; done) | (simp; omega) | rfl) ?_
  iterate 3 refine oS ?_
  refine oN ?_
  refine thenQ_normal ?_
  refine WI.seq ?_
  refine WI.block ?_
  refine WI.seq ?_
  refine WI.regB tabPg6_ok [1, 5, 8, 9, 10, 11, 31] ?_
  refine oS ?_
  iterate 2 refine oG (hok := by first | with_reducible rfl | omega | (exact decide_eq_true hb) | (simp; done) | (simp; omega) | rfl) ?_
  refine oS ?_
  iterate 4 refine oG (hok := by first | with_reducible rfl | omega | (exact decide_eq_true hb) | (simp; done) | (simp; omega) | rfl) ?_
  refine oS ?_
  refine oN ?_
  refine thenQ_normal ?_
  refine WI.cond (b := _) rfl rfl (fun h0 => ?_) (fun h0 => ?_)
  · try simp only [zB] at h0
    refine WI.seq ?_
    refine WI.regB tabPg6_ok [6, 7] ?_
    iterate 2 refine oS ?_
    iterate 2 refine oG (hok := by first | with_reducible rfl | omega | (exact decide_eq_true hb) | (simp; done) | (simp; omega) | rfl) ?_
    refine oS ?_
    iterate 3 refine oG (hok := by first | with_reducible rfl | omega | (exact decide_eq_true hb) | (simp; done) | (simp; omega) | rfl) ?_
    refine oS ?_
    iterate 3 refine oG (hok := by first | with_reducible rfl | omega | (exact decide_eq_true hb) | (simp; done) | (simp; omega) | rfl) ?_
    iterate 2 refine oS ?_
    refine oN ?_
    refine thenQ_normal ?_
    refine WI.pickA [0, 1, 2] ?_
    refine WI.ret ?_
    refine blockQ_ret ?_
    refine thenQ_ret ?_
    first | refine lfR ?_ | refine lfR2 ?_
    first | rfl | exact ⟨rfl, rfl⟩ | trivial -- leaf 0
  · exfalso
    simp only [zB] at h0; omega
theorem nxt_none (m k kd c n : Int) (L x : Pg) (h : 1 ≤ n ∧ n ≤ 1024) (hl : x.length ≤ 1000000) (hb : ∀ p ∈ L, p.2.length ≤ 1000000) (hL : mlook L c = none) (hx : mlook x c = none) : MCalls Try.prog 16 [.ptr 0 0, .ref 2 x.length 0 x.length, deedD kd c n] [pgB m k, pgM L, xOb x] (.tup [.ref 2 x.length 0 x.length, .x (.bool true)]) [pgB m k, pgM L, xOb x] := by
  have hn : nxR L c n = ([], 0, 8, L) := by rw [nxR, if_pos h, hL]
  have hf : fndP x c = -1 := by rw [fndP, idx_none hx, if_neg (by omega)]
  refine FCalls.mcalls (fcallsG (fz := false) G_ok (p := i16) rfl _ (Nat.le_of_ble_eq_true rfl) _ (fun C0 E0 => ?_))
  dsimp only [i16, argsφ]
  have uu := And.intro @nextT.eq_1 (And.intro @nextT.eq_2 (And.intro @find38G.eq_1 (And.intro @find38G.eq_2 (And.intro @un_P (And.intro @un_X (And.intro @toL_len (And.intro @of_to (And.intro hn (And.intro hf (And.intro @rowsN_len (And.intro @rowsX_len (And.intro @rowsX_tk (And.intro @tabPg6_r (And.intro @tabPg6_k (And.intro @tabPg6_q17 (And.intro @tabPg6_q19 (And.intro @tabPg6_q21 (And.intro @tabPg6_t21 (And.intro @tabPg6_t19 (@outT.eq_1))))))))))))))))))))
  refine WI.seq ?_
  refine WI.regB tabPg6_ok [0, 1, 5] ?_
  refine oG (hok := by first | with_reducible rfl | omega | (exact decide_eq_true hb) | (simp; done) | (simp; omega) | rfl) ?_
  iterate 2 refine oS ?_
  refine oN ?_
  refine thenQ_normal ?_
  refine WI.seq ?_
  refine WI.regB tabPg6_ok [0, 1, 5, 8] ?_
  iterate 2 refine oS ?_
  refine oG (hok := by first | with_reducible rfl | omega | (exact decide_eq_true hb) | (simp; done) | (simp; omega) | rfl) ?_
  refine oC (hok := by first | with_reducible rfl | omega | (exact decide_eq_true hb) | (simp; done) | (simp; omega) | rfl) ?_
  refine oS ?_
  refine oN ?_
  refine thenQ_normal ?_
  refine WI.seq ?_
  refine WI.regB tabPg6_ok [1, 5, 8, 9, 10, 11] ?_
  iterate 2 refine oS ?_
  refine oG (hok := by first | with_reducible rfl | omega | (exact decide_eq_true hb) | (simp; done) | (simp; omega) | rfl) ?_
  refine oS ?_
  refine oG (hok := by first | with_reducible rfl | omega | (exact decide_eq_true hb) | (simp; done) | (simp; omega) | rfl) ?_
  refine oC (hok := by first | with_reducible rfl | omega | (exact decide_eq_true hb) | (simp; done) | (simp; omega) | rfl) ?_
  refine oS ?_
  iterate 3 refine oG (hok := by first | with_reducible rfl | omega | (exact decide_eq_true hb) | (simp; done) | (simp; omega) | rfl) ?_
  iterate 3 refine oS ?_
  refine oN ?_
  refine thenQ_normal ?_
  refine WI.seq ?_
  refine WI.block ?_
  refine WI.seq ?_
  refine WI.regB tabPg6_ok [1, 5, 8, 9, 10, 11, 31] ?_
  refine oS ?_
  iterate 2 refine oG (hok := by first | with_reducible rfl | omega | (exact decide_eq_true hb) | (simp; done) | (simp; omega) | rfl) ?_
  refine oS ?_
  iterate 4 refine oG (hok := by first | with_reducible rfl | omega | (exact decide_eq_true hb) | (simp; done) | (simp; omega) | rfl) ?_
  refine oS ?_
  refine oN ?_
  refine thenQ_normal ?_
  refine WI.cond (b := _) rfl rfl (fun h0 => ?_) (fun h0 => ?_)
  · exfalso
    simp only [zB] at h0; omega
  · try simp only [zB] at h0
    refine WI.seq ?_
    refine WI.regB tabPg6_ok [1, 5, 8, 9, 10, 11, 52] ?_
    refine oS ?_
    refine oG (hok := by first | with_reducible rfl | omega | (exact decide_eq_true hb) | (simp; done) | (simp; omega) | rfl) ?_
    refine oS ?_
    refine oN ?_
    refine thenQ_normal ?_
    refine WI.cond (b := _) rfl rfl (fun h1 => ?_) (fun h1 => ?_)
    · try simp only [zB] at h1
      refine WI.seq ?_
      refine WI.regB tabPg6_ok [6, 7] ?_
      iterate 2 refine oS ?_
      iterate 2 refine oG (hok := by first | with_reducible rfl | omega | (exact decide_eq_true hb) | (simp; done) | (simp; omega) | rfl) ?_
      refine oS ?_
      iterate 3 refine oG (hok := by first | with_reducible rfl | omega | (exact decide_eq_true hb) | (simp; done) | (simp; omega) | rfl) ?_
      refine oS ?_
      iterate 3 refine oG (hok := by first | with_reducible rfl | omega | (exact decide_eq_true hb) | (simp; done) | (simp; omega) | rfl) ?_
      iterate 2 refine oS ?_
      refine oN ?_
      refine thenQ_normal ?_
      refine WI.pickA [0, 1, 2] ?_
      refine WI.ret ?_
      refine blockQ_ret ?_
      refine thenQ_ret ?_
      first | refine lfR ?_ | refine lfR2 ?_
      first | rfl | exact ⟨rfl, rfl⟩ | trivial -- leaf 0
    · exfalso
      simp at h1
theorem nxt_all (m k kd c n : Int) (L x : Pg) (l : List (List UInt8)) (h : 1 ≤ n ∧ n ≤ 1024) (hl : x.length ≤ 1000000) (hb : ∀ p ∈ L, p.2.length ≤ 1000000) (hL : mlook L c = some l) (hx : mlook x c = some l) (hln : (l.length : Int) ≤ n) : MCalls Try.prog 16 [.ptr 0 0, .ref 2 x.length 0 x.length, deedD kd c n] [pgB m k, pgM L, xOb x] (.tup [.ref 3 (mdel x c).length 0 (mdel x c).length, .x (.bool true)]) [pgB m k, pgM (mdel L c), xOb x, xOb (mdel x c)] := by
  have hn : nxR L c n = (l, 0, 0, mdel L c) := by rw [nxR, if_pos h, hL]; simp only; rw [if_pos hln]
  obtain ⟨i1, i2, i3⟩ := idx_some hx
  have hf : fndP x c = (idxP x c : Nat) := by rw [fndP, if_pos i1]
  have hg := rowsX_get x (idxP x c) i1
  rw [i2] at hg
  have hr : rmv x (idxP x c) = mdel x c := i3
  simp only at hg
  generalize idxP x c = i at i1 hf hg hr
  have e2 : (if (l.length : Int) < n then (l.length : Int) else n) = (l.length : Int) := by split <;> omega
  refine FCalls.mcalls (fcallsG (fz := false) G_ok (p := i16) rfl _ (Nat.le_of_ble_eq_true rfl) _ (fun C0 E0 => ?_))
  dsimp only [i16, argsφ]
  have uu := And.intro @nextT.eq_1 (And.intro @nextT.eq_2 (And.intro @find38G.eq_1 (And.intro @find38G.eq_2 (And.intro @outT.eq_1 (And.intro @un_P (And.intro @un_X (And.intro @toL_len (And.intro @of_to (And.intro hn (And.intro hf (And.intro hg (And.intro hr (And.intro @e2 (And.intro @rowsN_len (And.intro @rowsN_get (And.intro @rowsX_len (And.intro @rowsX_tk (And.intro @tabPg6_r (And.intro @tabPg6_k (And.intro @tabPg6_q17 (And.intro @tabPg6_q19 (And.intro @tabPg6_q21 (And.intro @tabPg6_t21 (@tabPg6_t19))))))))))))))))))))))))
  refine WI.seq ?_
  refine WI.regB tabPg6_ok [0, 1, 5] ?_
  refine oG (hok := by first | with_reducible rfl | omega | (exact decide_eq_true hb) | (exact decide_eq_true ⟨rfl, rfl, by omega, by omega, by omega⟩) | (simp; done) | (simp; omega) | rfl) ?_
  iterate 2 refine oS ?_
  refine oN ?_
  refine thenQ_normal ?_
  refine WI.seq ?_
  refine WI.regB tabPg6_ok [0, 1, 5, 8] ?_
  iterate 2 refine oS ?_
  refine oG (hok := by first | with_reducible rfl | omega | (exact decide_eq_true hb) | (exact decide_eq_true ⟨rfl, rfl, by omega, by omega, by omega⟩) | (simp; done) | (simp; omega) | rfl) ?_
  refine oC (hok := by first | with_reducible rfl | omega | (exact decide_eq_true hb) | (exact decide_eq_true ⟨rfl, rfl, by omega, by omega, by omega⟩) | (simp; done) | (simp; omega) | rfl) ?_
  refine oS ?_
  refine oN ?_
  refine thenQ_normal ?_
  refine WI.seq ?_
  refine WI.regB tabPg6_ok [1, 5, 8, 9, 10, 11] ?_
  iterate 2 refine oS ?_
  refine oG (hok := by first | with_reducible rfl | omega | (exact decide_eq_true hb) | (exact decide_eq_true ⟨rfl, rfl, by omega, by omega, by omega⟩) | (simp; done) | (simp; omega) | rfl) ?_
  refine oS ?_
  refine oG (hok := by first | with_reducible rfl | omega | (exact decide_eq_true hb) | (exact decide_eq_true ⟨rfl, rfl, by omega, by omega, by omega⟩) | (simp; done) | (simp; omega) | rfl) ?_
  refine oC (hok := by first | with_reducible rfl | omega | (exact decide_eq_true hb) | (exact decide_eq_true ⟨rfl, rfl, by omega, by omega, by omega⟩) | (simp; done) | (simp; omega) | rfl) ?_
  refine oS ?_
  iterate 3 refine oG (hok := by first | with_reducible rfl | omega | (exact decide_eq_true hb) | (exact decide_eq_true ⟨rfl, rfl, by omega, by omega, by omega⟩) | (simp; done) | (simp; omega) | rfl) ?_
  iterate 3 refine oS ?_
  refine oN ?_
  refine thenQ_normal ?_
  refine WI.seq ?_
  refine WI.block ?_
  refine WI.seq ?_
  refine WI.regB tabPg6_ok [1, 5, 8, 9, 10, 11, 31] ?_
  refine oS ?_
  iterate 2 refine oG (hok := by first | with_reducible rfl | omega | (exact decide_eq_true hb) | (exact decide_eq_true ⟨rfl, rfl, by omega, by omega, by omega⟩) | (simp; done) | (simp; omega) | rfl) ?_
  refine oS ?_
  iterate 4 refine oG (hok := by first | with_reducible rfl | omega | (exact decide_eq_true hb) | (exact decide_eq_true ⟨rfl, rfl, by omega, by omega, by omega⟩) | (simp; done) | (simp; omega) | rfl) ?_
  refine oS ?_
  refine oN ?_
  refine thenQ_normal ?_
  refine WI.cond (b := _) rfl rfl (fun h0 => ?_) (fun h0 => ?_)
  · exfalso
    simp only [zB] at h0; omega
  · try simp only [zB] at h0
    refine WI.seq ?_
    refine WI.regB tabPg6_ok [1, 5, 8, 9, 10, 11, 52] ?_
    refine oS ?_
    refine oG (hok := by first | with_reducible rfl | omega | (exact decide_eq_true hb) | (exact decide_eq_true ⟨rfl, rfl, by omega, by omega, by omega⟩) | (simp; done) | (simp; omega) | rfl) ?_
    refine oS ?_
    refine oN ?_
    refine thenQ_normal ?_
    refine WI.cond (b := _) rfl rfl (fun h1 => ?_) (fun h1 => ?_)
    · exfalso
      simp only [zB] at h1; omega
    · try simp only [zB] at h1
      refine WI.skip ?_
      refine blockQ_normal ?_
      refine thenQ_normal ?_
      refine WI.seq ?_
      refine WI.dregB tabPg6_ok [1, 5, 8, 9, 10, 11, 12] ?_
      refine dFS ?_
      refine dQG (hok := by first | with_reducible rfl | omega | (exact decide_eq_true hb) | (exact decide_eq_true ⟨rfl, rfl, by omega, by omega, by omega⟩) | (simp; done) | (simp; omega) | rfl) ?_
      iterate 2 refine dFS ?_
      refine dQG (hok := by first | with_reducible rfl | omega | (exact decide_eq_true hb) | (exact decide_eq_true ⟨rfl, rfl, by omega, by omega, by omega⟩) | (simp; done) | (simp; omega) | rfl) ?_
      refine dFS ?_
      iterate 2 refine dQG (hok := by first | with_reducible rfl | omega | (exact decide_eq_true hb) | (exact decide_eq_true ⟨rfl, rfl, by omega, by omega, by omega⟩) | (simp; done) | (simp; omega) | rfl) ?_
      refine dFG (hok := by first | with_reducible rfl | omega | (exact decide_eq_true hb) | (exact decide_eq_true ⟨rfl, rfl, by omega, by omega, by omega⟩) | (simp; done) | (simp; omega) | rfl) ?_
      refine dFS ?_
      refine dN ?_
      refine thenQ_normal ?_
      refine WI.seq ?_
      refine WI.regB tabPg6_ok [1, 5, 8, 9, 10, 12, 13] ?_
      refine oS ?_
      refine oG (hok := by first | with_reducible rfl | omega | (exact decide_eq_true hb) | (exact decide_eq_true ⟨rfl, rfl, by omega, by omega, by omega⟩) | (simp; done) | (simp; omega) | rfl) ?_
      refine oS ?_
      refine oG (hok := by first | with_reducible rfl | omega | (exact decide_eq_true hb) | (exact decide_eq_true ⟨rfl, rfl, by omega, by omega, by omega⟩) | (simp; done) | (simp; omega) | rfl) ?_
      refine oS ?_
      iterate 3 refine oG (hok := by first | with_reducible rfl | omega | (exact decide_eq_true hb) | (exact decide_eq_true ⟨rfl, rfl, by omega, by omega, by omega⟩) | (simp; done) | (simp; omega) | rfl) ?_
      refine oS ?_
      refine oN ?_
      refine thenQ_normal ?_
      refine WI.seq ?_
      refine WI.seq ?_
      refine WI.regB tabPg6_ok [1, 5, 8, 9, 10, 12, 13, 14] ?_
      refine oS ?_
      refine oN ?_
      refine thenQ_normal ?_
      refine WI.block ?_
      refine WI.loop (fun φ os => ∃ (j : Nat), φ = [(1, .ref 2 x.length 0 x.length), (5, .ptr 3 0), (8, .x (.int .i64 i)), (9, .x (.sl (rowsN l))), (10, .x (.int .i64 0)), (12, .x (.int .i64 l.length)), (13, .x (.bool true)), (14, .x (.int .i64 j))] ∧ os = [pgB m k, pgM (mdel L c), xOb x, .box [.x (.int .i64 kd), .x (.int .i64 c), .x (.int .i64 n)]] ∧ j ≤ l.length) (down l.length 14) ?_ (fun φ os hI => ?_)
      · exact ⟨0, by simp, rfl, by omega⟩
      · obtain ⟨j, rfl, rfl, hj⟩ := hI
        refine WI.seq ?_
        refine WI.seq ?_
        refine WI.regB tabPg6_ok [1, 5, 8, 9, 10, 12, 13, 14, 89] ?_
        iterate 2 refine oS ?_
        refine oG (hok := by first | with_reducible rfl | omega | (exact decide_eq_true hb) | (exact decide_eq_true ⟨rfl, rfl, by omega, by omega, by omega⟩) | (simp; done) | (simp; omega) | rfl) ?_
        refine oS ?_
        iterate 2 refine oG (hok := by first | with_reducible rfl | omega | (exact decide_eq_true hb) | (exact decide_eq_true ⟨rfl, rfl, by omega, by omega, by omega⟩) | (simp; done) | (simp; omega) | rfl) ?_
        refine oN ?_
        refine thenQ_normal ?_
        refine WI.cond (b := _) rfl rfl (fun h2 => ?_) (fun h2 => ?_)
        · try simp only [zB] at h2
          refine WI.skip ?_
          refine thenQ_normal ?_
          refine WI.seq ?_
          refine WI.block ?_
          refine WI.dregB tabPg6_ok [1, 5, 8, 9, 10, 12, 13, 14] ?_
          iterate 2 refine dFS ?_
          refine dQG (hok := by first | with_reducible rfl | omega | (exact decide_eq_true hb) | (exact decide_eq_true ⟨rfl, rfl, by omega, by omega, by omega⟩) | (simp; done) | (simp; omega) | rfl) ?_
          refine dFS ?_
          refine dQG (hok := by first | with_reducible rfl | omega | (exact decide_eq_true hb) | (exact decide_eq_true ⟨rfl, rfl, by omega, by omega, by omega⟩) | (simp; done) | (simp; omega) | rfl) ?_
          iterate 2 refine dFS ?_
          refine dQG (hok := by first | with_reducible rfl | omega | (exact decide_eq_true hb) | (exact decide_eq_true ⟨rfl, rfl, by omega, by omega, by omega⟩) | (simp; done) | (simp; omega) | rfl) ?_
          refine dFS ?_
          refine dQG (hok := by first | with_reducible rfl | omega | (exact decide_eq_true hb) | (exact decide_eq_true ⟨rfl, rfl, by omega, by omega, by omega⟩) | (simp; done) | (simp; omega) | rfl) ?_
          refine dFS ?_
          iterate 2 refine dQG (hok := by first | with_reducible rfl | omega | (exact decide_eq_true hb) | (exact decide_eq_true ⟨rfl, rfl, by omega, by omega, by omega⟩) | (simp; done) | (simp; omega) | rfl) ?_
          refine dFG (hok := by first | with_reducible rfl | omega | (exact decide_eq_true hb) | (exact decide_eq_true ⟨rfl, rfl, by omega, by omega, by omega⟩) | (simp; done) | (simp; omega) | rfl) ?_
          refine dFS ?_
          refine dN ?_
          refine blockQ_normal ?_
          refine thenQ_normal ?_
          refine WI.regB tabPg6_ok [1, 5, 8, 9, 10, 12, 13, 14] ?_
          refine oS ?_
          refine oG (hok := by first | with_reducible rfl | omega | (exact decide_eq_true hb) | (exact decide_eq_true ⟨rfl, rfl, by omega, by omega, by omega⟩) | (simp; done) | (simp; omega) | rfl) ?_
          refine oS ?_
          refine oN ?_
          refine thenQ_normal ?_
          exact ⟨⟨j + 1, by simp, rfl, by omega⟩, by simp [down, Ab.get, D.val, intOf?]; omega⟩
        · try simp only [zB] at h2
          refine WI.exit ?_
          refine thenQ_exit ?_
          refine thenQ_exit ?_
          refine blockQ_hit ?_
          refine thenQ_normal ?_
          refine WI.seq ?_
          refine WI.regB tabPg6_ok [1, 5, 8, 10, 13, 15] ?_
          iterate 2 refine oS ?_
          refine oG (hok := by first | with_reducible rfl | omega | (exact decide_eq_true hb) | (exact decide_eq_true ⟨rfl, rfl, by omega, by omega, by omega⟩) | (simp; done) | (simp; omega) | rfl) ?_
          refine oS ?_
          refine oG (hok := by first | with_reducible rfl | omega | (exact decide_eq_true hb) | (exact decide_eq_true ⟨rfl, rfl, by omega, by omega, by omega⟩) | (simp; done) | (simp; omega) | rfl) ?_
          refine oS ?_
          refine oG (hok := by first | with_reducible rfl | omega | (exact decide_eq_true hb) | (exact decide_eq_true ⟨rfl, rfl, by omega, by omega, by omega⟩) | (simp; done) | (simp; omega) | rfl) ?_
          refine oS ?_
          refine oN ?_
          refine thenQ_normal ?_
          refine WI.seq ?_
          refine WI.seq ?_
          refine WI.regB tabPg6_ok [1, 5, 8, 10, 13, 15, 115] ?_
          refine oS ?_
          iterate 2 refine oG (hok := by first | with_reducible rfl | omega | (exact decide_eq_true hb) | (exact decide_eq_true ⟨rfl, rfl, by omega, by omega, by omega⟩) | (simp; done) | (simp; omega) | rfl) ?_
          refine oN ?_
          refine thenQ_normal ?_
          refine WI.cond (b := _) rfl rfl (fun h3 => ?_) (fun h3 => ?_)
          · try simp only [zB] at h3
            refine WI.seq ?_
            refine WI.regB tabPg6_ok [6, 7] ?_
            iterate 2 refine oS ?_
            refine oC (hok := by first | with_reducible rfl | omega | (exact decide_eq_true hb) | (exact decide_eq_true ⟨rfl, rfl, by omega, by omega, by omega⟩) | (simp; done) | (simp; omega) | rfl) ?_
            iterate 2 refine oS ?_
            iterate 3 refine oG (hok := by first | with_reducible rfl | omega | (exact decide_eq_true hb) | (exact decide_eq_true ⟨rfl, rfl, by omega, by omega, by omega⟩) | (simp; done) | (simp; omega) | rfl) ?_
            iterate 2 refine oS ?_
            refine oN ?_
            refine thenQ_normal ?_
            refine WI.pickA [0, 1, 2, 4] ?_
            refine WI.ret ?_
            refine thenQ_ret ?_
            first | refine lfR ?_ | refine lfR2 ?_
            first | rfl | exact ⟨rfl, rfl⟩ | trivial -- leaf 0
          · exfalso
            simp at h3
theorem nxt_part (m k kd c : Int) (n : Nat) (L x : Pg) (l : List (List UInt8)) (h : 1 ≤ n ∧ n ≤ 1024) (hl : x.length ≤ 1000000) (hb : ∀ p ∈ L, p.2.length ≤ 1000000) (hL : mlook L c = some l) (hx : mlook x c = some l) (hln : n < l.length) : MCalls Try.prog 16 [.ptr 0 0, .ref 2 x.length 0 x.length, deedD kd c n] [pgB m k, pgM L, xOb x] (.tup [.ref 3 (mdel x c ++ [(c, l.drop n)]).length 0 (mdel x c ++ [(c, l.drop n)]).length, .x (.bool true)]) [pgB m k, pgM (mset L c (l.drop n)), xOb x, xOb (mdel x c ++ [(c, l.drop n)])] := by
  have hn : nxR L c n = (l.take n, c, 0, mset L c (l.drop n)) := by rw [nxR, if_pos (by omega), hL]; simp only; rw [if_neg (by omega), Int.toNat_natCast]
  obtain ⟨i1, i2, i3⟩ := idx_some hx
  have hf : fndP x c = (idxP x c : Nat) := by rw [fndP, if_pos i1]
  have hg := rowsX_get x (idxP x c) i1
  rw [i2] at hg
  have hr : rmv x (idxP x c) = mdel x c := i3
  simp only at hg
  generalize idxP x c = i at i1 hf hg hr
  have e2 : (if (l.length : Int) < (n : Int) then (l.length : Int) else (n : Int)) = (n : Int) := by split <;> omega
  have e6 : (l.take n).length = n := by rw [List.length_take]; omega
  have hm := del_len hx
  refine FCalls.mcalls (fcallsG (fz := false) G_ok (p := i16) rfl _ (Nat.le_of_ble_eq_true rfl) _ (fun C0 E0 => ?_))
  dsimp only [i16, argsφ]
  have uu := And.intro @nextT.eq_1 (And.intro @nextT.eq_2 (And.intro @find38G.eq_1 (And.intro @find38G.eq_2 (And.intro @outK.eq_1 (And.intro @un_P (And.intro @un_X (And.intro @toL_len (And.intro @of_to (And.intro hn (And.intro hf (And.intro hg (And.intro hr (And.intro @e2 (And.intro @e6 (And.intro @rowsN_len (And.intro @rowsN_get (And.intro @rowsX_len (And.intro @rowsX_tk (And.intro @rowsX_snoc (And.intro @List.getElem_take.{0} (And.intro @tabPg7_r (And.intro @tabPg7_k19 (And.intro @tabPg7_q17 (And.intro @tabPg7_q19 (And.intro @tabPg7_q21 (And.intro @tabPg7_t21 (@tabPg7_t19)))))))))))))))))))))))))))
  refine WI.seq ?_
  refine WI.regB tabPg7_ok [0, 1, 5] ?_
  refine oG (hok := by first | with_reducible rfl | omega | (exact decide_eq_true hb) | (exact decide_eq_true ⟨rfl, rfl, by omega, by omega, by omega⟩) | (simp; done) | (simp; omega) | rfl) ?_
  iterate 2 refine oS ?_
  refine oN ?_
  refine thenQ_normal ?_
  refine WI.seq ?_
  refine WI.regB tabPg7_ok [0, 1, 5, 8] ?_
  iterate 2 refine oS ?_
  refine oG (hok := by first | with_reducible rfl | omega | (exact decide_eq_true hb) | (exact decide_eq_true ⟨rfl, rfl, by omega, by omega, by omega⟩) | (simp; done) | (simp; omega) | rfl) ?_
  refine oC (hok := by first | with_reducible rfl | omega | (exact decide_eq_true hb) | (exact decide_eq_true ⟨rfl, rfl, by omega, by omega, by omega⟩) | (simp; done) | (simp; omega) | rfl) ?_
  refine oS ?_
  refine oN ?_
  refine thenQ_normal ?_
  refine WI.seq ?_
  refine WI.regB tabPg7_ok [1, 5, 8, 9, 10, 11] ?_
  iterate 2 refine oS ?_
  refine oG (hok := by first | with_reducible rfl | omega | (exact decide_eq_true hb) | (exact decide_eq_true ⟨rfl, rfl, by omega, by omega, by omega⟩) | (simp; done) | (simp; omega) | rfl) ?_
  refine oS ?_
  refine oG (hok := by first | with_reducible rfl | omega | (exact decide_eq_true hb) | (exact decide_eq_true ⟨rfl, rfl, by omega, by omega, by omega⟩) | (simp; done) | (simp; omega) | rfl) ?_
  refine oC (hok := by first | with_reducible rfl | omega | (exact decide_eq_true hb) | (exact decide_eq_true ⟨rfl, rfl, by omega, by omega, by omega⟩) | (simp; done) | (simp; omega) | rfl) ?_
  refine oS ?_
  iterate 3 refine oG (hok := by first | with_reducible rfl | omega | (exact decide_eq_true hb) | (exact decide_eq_true ⟨rfl, rfl, by omega, by omega, by omega⟩) | (simp; done) | (simp; omega) | rfl) ?_
  iterate 3 refine oS ?_
  refine oN ?_
  refine thenQ_normal ?_
  refine WI.seq ?_
  refine WI.block ?_
  refine WI.seq ?_
  refine WI.regB tabPg7_ok [1, 5, 8, 9, 10, 11, 31] ?_
  refine oS ?_
  iterate 2 refine oG (hok := by first | with_reducible rfl | omega | (exact decide_eq_true hb) | (exact decide_eq_true ⟨rfl, rfl, by omega, by omega, by omega⟩) | (simp; done) | (simp; omega) | rfl) ?_
  refine oS ?_
  iterate 4 refine oG (hok := by first | with_reducible rfl | omega | (exact decide_eq_true hb) | (exact decide_eq_true ⟨rfl, rfl, by omega, by omega, by omega⟩) | (simp; done) | (simp; omega) | rfl) ?_
  refine oS ?_
  refine oN ?_
  refine thenQ_normal ?_
  refine WI.cond (b := _) rfl rfl (fun h0 => ?_) (fun h0 => ?_)
  · exfalso
    simp only [zB] at h0; omega
  · try simp only [zB] at h0
    refine WI.seq ?_
    refine WI.regB tabPg7_ok [1, 5, 8, 9, 10, 11, 52] ?_
    refine oS ?_
    refine oG (hok := by first | with_reducible rfl | omega | (exact decide_eq_true hb) | (exact decide_eq_true ⟨rfl, rfl, by omega, by omega, by omega⟩) | (simp; done) | (simp; omega) | rfl) ?_
    refine oS ?_
    refine oN ?_
    refine thenQ_normal ?_
    refine WI.cond (b := _) rfl rfl (fun h1 => ?_) (fun h1 => ?_)
    · exfalso
      simp only [zB] at h1; omega
    · try simp only [zB] at h1
      refine WI.skip ?_
      refine blockQ_normal ?_
      refine thenQ_normal ?_
      refine WI.seq ?_
      refine WI.dregB tabPg7_ok [1, 5, 8, 9, 10, 11, 12] ?_
      refine dFS ?_
      refine dQG (hok := by first | with_reducible rfl | omega | (exact decide_eq_true hb) | (exact decide_eq_true ⟨rfl, rfl, by omega, by omega, by omega⟩) | (simp; done) | (simp; omega) | rfl) ?_
      iterate 2 refine dFS ?_
      refine dQG (hok := by first | with_reducible rfl | omega | (exact decide_eq_true hb) | (exact decide_eq_true ⟨rfl, rfl, by omega, by omega, by omega⟩) | (simp; done) | (simp; omega) | rfl) ?_
      refine dFS ?_
      iterate 2 refine dQG (hok := by first | with_reducible rfl | omega | (exact decide_eq_true hb) | (exact decide_eq_true ⟨rfl, rfl, by omega, by omega, by omega⟩) | (simp; done) | (simp; omega) | rfl) ?_
      refine dFG (hok := by first | with_reducible rfl | omega | (exact decide_eq_true hb) | (exact decide_eq_true ⟨rfl, rfl, by omega, by omega, by omega⟩) | (simp; done) | (simp; omega) | rfl) ?_
      refine dFS ?_
      refine dN ?_
      refine thenQ_normal ?_
      refine WI.seq ?_
      refine WI.regB tabPg7_ok [1, 5, 8, 9, 10, 12, 13] ?_
      refine oS ?_
      refine oG (hok := by first | with_reducible rfl | omega | (exact decide_eq_true hb) | (exact decide_eq_true ⟨rfl, rfl, by omega, by omega, by omega⟩) | (simp; done) | (simp; omega) | rfl) ?_
      refine oS ?_
      refine oG (hok := by first | with_reducible rfl | omega | (exact decide_eq_true hb) | (exact decide_eq_true ⟨rfl, rfl, by omega, by omega, by omega⟩) | (simp; done) | (simp; omega) | rfl) ?_
      refine oS ?_
      iterate 3 refine oG (hok := by first | with_reducible rfl | omega | (exact decide_eq_true hb) | (exact decide_eq_true ⟨rfl, rfl, by omega, by omega, by omega⟩) | (simp; done) | (simp; omega) | rfl) ?_
      refine oS ?_
      refine oN ?_
      refine thenQ_normal ?_
      refine WI.seq ?_
      refine WI.seq ?_
      refine WI.regB tabPg7_ok [1, 5, 8, 9, 10, 12, 13, 14] ?_
      refine oS ?_
      refine oN ?_
      refine thenQ_normal ?_
      refine WI.block ?_
      refine WI.loop (fun φ os => ∃ (j : Nat), φ = [(1, .ref 2 x.length 0 x.length), (5, .ptr 3 0), (8, .x (.int .i64 i)), (9, .x (.sl (rowsN (l.take n)))), (10, .x (.int .i64 c)), (12, .x (.int .i64 n)), (13, .x (.bool true)), (14, .x (.int .i64 j))] ∧ os = [pgB m k, pgM (mset L c (l.drop n)), xOb x, .box [.x (.int .i64 kd), .x (.int .i64 c), .x (.int .i64 n)]] ∧ j ≤ n) (down n 14) ?_ (fun φ os hI => ?_)
      · exact ⟨0, by simp, rfl, by omega⟩
      · obtain ⟨j, rfl, rfl, hj⟩ := hI
        refine WI.seq ?_
        refine WI.seq ?_
        refine WI.regB tabPg7_ok [1, 5, 8, 9, 10, 12, 13, 14, 89] ?_
        iterate 2 refine oS ?_
        refine oG (hok := by first | with_reducible rfl | omega | (exact decide_eq_true hb) | (exact decide_eq_true ⟨rfl, rfl, by omega, by omega, by omega⟩) | (simp; done) | (simp; omega) | rfl) ?_
        refine oS ?_
        iterate 2 refine oG (hok := by first | with_reducible rfl | omega | (exact decide_eq_true hb) | (exact decide_eq_true ⟨rfl, rfl, by omega, by omega, by omega⟩) | (simp; done) | (simp; omega) | rfl) ?_
        refine oN ?_
        refine thenQ_normal ?_
        refine WI.cond (b := _) rfl rfl (fun h2 => ?_) (fun h2 => ?_)
        · try simp only [zB] at h2
          refine WI.skip ?_
          refine thenQ_normal ?_
          refine WI.seq ?_
          refine WI.block ?_
          refine WI.dregB tabPg7_ok [1, 5, 8, 9, 10, 12, 13, 14] ?_
          iterate 2 refine dFS ?_
          refine dQG (hok := by first | with_reducible rfl | omega | (exact decide_eq_true hb) | (exact decide_eq_true ⟨rfl, rfl, by omega, by omega, by omega⟩) | (simp; done) | (simp; omega) | rfl) ?_
          refine dFS ?_
          refine dQG (hok := by first | with_reducible rfl | omega | (exact decide_eq_true hb) | (exact decide_eq_true ⟨rfl, rfl, by omega, by omega, by omega⟩) | (simp; done) | (simp; omega) | rfl) ?_
          iterate 2 refine dFS ?_
          refine dQG (hok := by first | with_reducible rfl | omega | (exact decide_eq_true hb) | (exact decide_eq_true ⟨rfl, rfl, by omega, by omega, by omega⟩) | (simp; done) | (simp; omega) | rfl) ?_
          refine dFS ?_
          refine dQG (hok := by first | with_reducible rfl | omega | (exact decide_eq_true hb) | (exact decide_eq_true ⟨rfl, rfl, by omega, by omega, by omega⟩) | (simp; done) | (simp; omega) | rfl) ?_
          refine dFS ?_
          iterate 2 refine dQG (hok := by first | with_reducible rfl | omega | (exact decide_eq_true hb) | (exact decide_eq_true ⟨rfl, rfl, by omega, by omega, by omega⟩) | (simp; done) | (simp; omega) | rfl) ?_
          refine dFG (hok := by first | with_reducible rfl | omega | (exact decide_eq_true hb) | (exact decide_eq_true ⟨rfl, rfl, by omega, by omega, by omega⟩) | (simp; done) | (simp; omega) | rfl) ?_
          refine dFS ?_
          refine dN ?_
          refine blockQ_normal ?_
          refine thenQ_normal ?_
          refine WI.regB tabPg7_ok [1, 5, 8, 9, 10, 12, 13, 14] ?_
          refine oS ?_
          refine oG (hok := by first | with_reducible rfl | omega | (exact decide_eq_true hb) | (exact decide_eq_true ⟨rfl, rfl, by omega, by omega, by omega⟩) | (simp; done) | (simp; omega) | rfl) ?_
          refine oS ?_
          refine oN ?_
          refine thenQ_normal ?_
          exact ⟨⟨j + 1, by simp, rfl, by omega⟩, by simp [down, Ab.get, D.val, intOf?]; omega⟩
        · try simp only [zB] at h2
          refine WI.exit ?_
          refine thenQ_exit ?_
          refine thenQ_exit ?_
          refine blockQ_hit ?_
          refine thenQ_normal ?_
          refine WI.seq ?_
          refine WI.regB tabPg7_ok [1, 5, 8, 10, 13, 15] ?_
          iterate 2 refine oS ?_
          refine oG (hok := by first | with_reducible rfl | omega | (exact decide_eq_true hb) | (exact decide_eq_true ⟨rfl, rfl, by omega, by omega, by omega⟩) | (simp; done) | (simp; omega) | rfl) ?_
          refine oS ?_
          refine oG (hok := by first | with_reducible rfl | omega | (exact decide_eq_true hb) | (exact decide_eq_true ⟨rfl, rfl, by omega, by omega, by omega⟩) | (simp; done) | (simp; omega) | rfl) ?_
          refine oS ?_
          refine oG (hok := by first | with_reducible rfl | omega | (exact decide_eq_true hb) | (exact decide_eq_true ⟨rfl, rfl, by omega, by omega, by omega⟩) | (simp; done) | (simp; omega) | rfl) ?_
          refine oS ?_
          refine oN ?_
          refine thenQ_normal ?_
          refine WI.seq ?_
          refine WI.seq ?_
          refine WI.regB tabPg7_ok [1, 5, 8, 10, 13, 15, 115] ?_
          refine oS ?_
          iterate 2 refine oG (hok := by first | with_reducible rfl | omega | (exact decide_eq_true hb) | (exact decide_eq_true ⟨rfl, rfl, by omega, by omega, by omega⟩) | (simp; done) | (simp; omega) | rfl) ?_
          refine oN ?_
          refine thenQ_normal ?_
          refine WI.cond (b := _) rfl rfl (fun h3 => ?_) (fun h3 => ?_)
          · exfalso
            simp at h3; omega
          · try simp only [zB] at h3
            refine WI.skip ?_
            refine thenQ_normal ?_
            refine WI.seq ?_
            refine WI.dregB tabPg7_ok [5, 10, 13, 16] ?_
            iterate 2 refine dFS ?_
            refine dKC (hok := by first | with_reducible rfl | omega | (exact decide_eq_true hb) | (exact decide_eq_true ⟨rfl, rfl, by omega, by omega, by omega⟩) | (simp; done) | (simp; omega) | rfl) ?_
            refine dFS ?_
            refine dQG (hok := by first | with_reducible rfl | omega | (exact decide_eq_true hb) | (exact decide_eq_true ⟨rfl, rfl, by omega, by omega, by omega⟩) | (simp; done) | (simp; omega) | rfl) ?_
            refine dFS ?_
            refine dFG (hok := by first | with_reducible rfl | omega | (exact decide_eq_true hb) | (exact decide_eq_true ⟨rfl, rfl, by omega, by omega, by omega⟩) | (simp; done) | (simp; omega) | rfl) ?_
            refine dKG (hok := by first | with_reducible rfl | omega | (exact decide_eq_true hb) | (exact decide_eq_true ⟨rfl, rfl, by omega, by omega, by omega⟩) | (simp; done) | (simp; omega) | rfl) ?_
            refine dAG (hok := by first | with_reducible rfl | omega | (exact decide_eq_true hb) | (exact decide_eq_true ⟨rfl, rfl, by omega, by omega, by omega⟩) | (simp; done) | (simp; omega) | rfl) ?_
            refine dFS ?_
            refine dN ?_
            refine thenQ_normal ?_
            refine WI.seq ?_
            refine WI.dregB tabPg7_ok [6, 7] ?_
            iterate 3 refine dFS ?_
            iterate 2 refine dFG (hok := by first | with_reducible rfl | omega | (exact decide_eq_true hb) | (exact decide_eq_true ⟨rfl, rfl, by omega, by omega, by omega⟩) | (simp; done) | (simp; omega) | rfl) ?_
            refine dAG (hok := by first | with_reducible rfl | omega | (exact decide_eq_true hb) | (exact decide_eq_true ⟨rfl, rfl, by omega, by omega, by omega⟩) | (simp; done) | (simp; omega) | rfl) ?_
            iterate 2 refine dFG (hok := by first | with_reducible rfl | omega | (exact decide_eq_true hb) | (exact decide_eq_true ⟨rfl, rfl, by omega, by omega, by omega⟩) | (simp; done) | (simp; omega) | rfl) ?_
            iterate 2 refine dFS ?_
            refine dN ?_
            refine thenQ_normal ?_
            refine WI.pickA [0, 1, 2, 4] ?_
            refine WI.ret ?_
            first | refine lfR ?_ | refine lfR2 ?_
            rw [List.length_append]; exact ⟨rfl, rfl⟩ -- leaf 0
end Go.Proofs.Ytogplpcamiicgaa
end
section
/- Pages: whatever begins, is taken and dropped. -/
set_option linter.unusedSimpArgs false
set_option linter.unusedVariables false
namespace Go.Proofs.Ytogplpcamiicgaa
open Go.RowKit Go.Bo Go.Ab

def nx2 (x L : Pg) (c n : Int) : Option Pg :=
  if 1 ≤ n ∧ n ≤ 1024 then match mlook L c with
    | none => none
    | some l => if (l.length : Int) ≤ n then some (mdel x c) else some (mdel x c ++ [(c, l.drop n.toNat)])
  else none
theorem nxt_c (m k kd c n : Int) (L x : Pg) (hl : x.length ≤ 1000000) (hb : ∀ p ∈ L, p.2.length ≤ 1000000) (he : mlook x c = mlook L c) : (∀ y, nx2 x L c n = some y → MCalls Try.prog 16 [.ptr 0 0, .ref 2 x.length 0 x.length, deedD kd c n] [pgB m k, pgM L, xOb x] (.tup [.ref 3 y.length 0 y.length, .x (.bool true)]) [pgB m k, pgM (nxR L c n).2.2.2, xOb x, xOb y]) ∧
    (nx2 x L c n = none → MCalls Try.prog 16 [.ptr 0 0, .ref 2 x.length 0 x.length, deedD kd c n] [pgB m k, pgM L, xOb x] (.tup [.ref 2 x.length 0 x.length, .x (.bool true)]) [pgB m k, pgM (nxR L c n).2.2.2, xOb x]) := by
  unfold nx2
  by_cases h : 1 ≤ n ∧ n ≤ 1024
  · rw [if_pos h]
    cases hL : mlook L c with
    | none =>
      have hn : nxR L c n = ([], 0, 8, L) := by rw [nxR, if_pos h, hL]
      rw [hn]
      refine ⟨fun y hy => (by cases hy), fun _ => nxt_none m k kd c n L x h hl hb hL (he.trans hL)⟩
    | some l =>
      simp only
      by_cases h2 : (l.length : Int) ≤ n
      · rw [if_pos h2]
        have hn : nxR L c n = (l, 0, 0, mdel L c) := by rw [nxR, if_pos h, hL]; simp only; rw [if_pos h2]
        rw [hn]
        refine ⟨fun y hy => ?_, fun h => by cases h⟩
        cases hy
        exact nxt_all m k kd c n L x l h hl hb hL (he.trans hL) h2
      · rw [if_neg h2]
        have hn : nxR L c n = (l.take n.toNat, c, 0, mset L c (l.drop n.toNat)) := by rw [nxR, if_pos h, hL]; simp only; rw [if_neg h2]
        rw [hn]
        refine ⟨fun y hy => ?_, fun h => by cases h⟩
        cases hy
        have := nxt_part m k kd c n.toNat L x l (by omega) hl hb hL (he.trans hL) (by omega)
        rwa [Int.toNat_of_nonneg (by omega)] at this
  · rw [if_neg h]
    have hn : nxR L c n = ([], 0, 2, L) := by rw [nxR, if_neg h]
    rw [hn]
    exact ⟨fun y hy => (by cases hy), fun _ => nxt_range m k kd c n L x h hl hb⟩
def nxtT : List D → List Ob → Option (Bool × D × List Ob)
  | [.ptr 0 0, .ref 2 e 0 l, .agg [.x (.int .i64 kd), .x (.int .i64 c), .x (.int .i64 n)]], [.box [.mref 1, .x (.int .i64 m), .x (.int .i64 k)], .mpo (.int .i64) false M, .rows false 40 2 R] =>
    (unP M).bind fun L => (unrows rLst R).bind fun x => match nx2 (ofL x) L c n with
      | none => some (decide (e = x.length ∧ l = x.length ∧ x.length ≤ 1000000 ∧ (∀ p ∈ L, p.2.length ≤ 1000000) ∧ mlook (ofL x) c = mlook L c), .tup [.ref 2 x.length 0 x.length, .x (.bool true)], [pgB m k, pgM (nxR L c n).2.2.2, xOb (ofL x)])
      | some y => some (decide (e = x.length ∧ l = x.length ∧ x.length ≤ 1000000 ∧ (∀ p ∈ L, p.2.length ≤ 1000000) ∧ mlook (ofL x) c = mlook L c), .tup [.ref 3 y.length 0 y.length, .x (.bool true)], [pgB m k, pgM (nxR L c n).2.2.2, xOb (ofL x), xOb y])
  | _, _ => none
theorem nxtT_ok : ∀ args os r os', nxtT args os = some (true, r, os') → MCalls Try.prog 16 args os r os' := by
  intro args os r os' h
  unfold nxtT at h
  split at h
  · rename_i e l kd c n m k M R
    obtain ⟨L, h1, h⟩ := Option.bind_eq_some_iff.1 h
    obtain ⟨x, h2, h⟩ := Option.bind_eq_some_iff.1 h
    have hl : (ofL x).length = x.length := by simp [ofL]
    rw [← rows_unrows good_rLst h2, ← rowsX_of, unP_inv h1]
    split at h
    · rename_i hx
      simp only [Option.some.injEq, Prod.mk.injEq, decide_eq_true_eq] at h
      obtain ⟨⟨rfl, rfl, h3, h4, h5⟩, rfl, rfl⟩ := h
      have := (nxt_c m k kd c n L (ofL x) (by rw [hl]; exact h3) h4 h5).2 hx
      rw [hl] at this
      exact this
    · rename_i y hx
      simp only [Option.some.injEq, Prod.mk.injEq, decide_eq_true_eq] at h
      obtain ⟨⟨rfl, rfl, h3, h4, h5⟩, rfl, rfl⟩ := h
      have := (nxt_c m k kd c n L (ofL x) (by rw [hl]; exact h3) h4 h5).1 y hx
      rw [hl] at this
      exact this
  · cases h
structure Inv38 (x L : Pg) (last : Int) (i : Nat) : Prop where
  perm : x.Perm L
  nd : nodup x
  le : ∀ p ∈ x, p.1 ≤ last ∧ p.2.length ≤ 1000000
  last : 0 ≤ last ∧ last ≤ i
  len : x.length ≤ i
theorem Inv38.leL {x L : Pg} {last : Int} {i : Nat} (h : Inv38 x L last i) : ∀ p ∈ L, p.2.length ≤ 1000000 := fun p hp => (h.le p (h.perm.mem_iff.2 hp)).2
theorem Inv38.look {x L : Pg} {last : Int} {i : Nat} (h : Inv38 x L last i) (c : Int) : mlook x c = mlook L c := perm_look h.perm h.nd c
theorem Inv38.next {x L : Pg} {last : Int} {i : Nat} (h : Inv38 x L last i) : Inv38 x L last (i + 1) := ⟨h.perm, h.nd, h.le, ⟨h.last.1, by have := h.last.2; omega⟩, by have := h.len; omega⟩
theorem Inv38.new {x L : Pg} {last : Int} {i : Nat} (h : Inv38 x L last i) (l : List (List UInt8)) (hl : l.length ≤ 1000000) : Inv38 (x ++ [(last + 1, l)]) (mset L (last + 1) l) (last + 1) (i + 1) := by
  have hk : last + 1 ∉ x.map (·.1) := by
    intro hm
    obtain ⟨p, hp, e⟩ := List.mem_map.1 hm
    have := (h.le p hp).1
    omega
  have hn : mlook L (last + 1) = none := by rw [← h.look]; exact mlook_none.2 hk
  rw [set_none hn]
  refine ⟨h.perm.append_right _, ?_, fun p hp => ?_, ⟨by have := h.last.1; omega, by have := h.last.2; omega⟩, by rw [List.length_append, List.length_singleton]; have := h.len; omega⟩
  · unfold nodup
    rw [List.map_append]
    exact List.nodup_append.2 ⟨h.nd, by simp, fun a ha b hb => by simp at hb; subst hb; rintro rfl; exact hk ha⟩
  · rcases List.mem_append.1 hp with hp | hp
    · exact ⟨by have := (h.le p hp).1; omega, (h.le p hp).2⟩
    · simp at hp; subst hp; exact ⟨Int.le_refl _, hl⟩
theorem mdel_mem {A : Pg} {c : Int} : ∀ p ∈ mdel A c, p ∈ A := by
  induction A with
  | nil => intro p hp; simp [mdel] at hp
  | cons q A ih =>
    intro p hp
    unfold mdel at hp
    split at hp
    · exact List.mem_cons_of_mem _ hp
    · rcases List.mem_cons.1 hp with rfl | hp
      · exact List.mem_cons_self
      · exact List.mem_cons_of_mem _ (ih p hp)
theorem mdel_le {A : Pg} {c : Int} : (mdel A c).length ≤ A.length := by
  cases h : mlook A c with
  | none => rw [del_none h]; exact Nat.le_refl _
  | some v => have := del_len h; omega
theorem Inv38.del {x L : Pg} {last : Int} {i : Nat} (h : Inv38 x L last i) (c : Int) : Inv38 (mdel x c) (mdel L c) last (i + 1) :=
  ⟨perm_del h.perm h.nd c, mdel_nodup x c h.nd, fun p hp => h.le p (mdel_mem p hp), ⟨h.last.1, by have := h.last.2; omega⟩, by have := h.len; have := @mdel_le x c; omega⟩
theorem Inv38.take {x L : Pg} {last : Int} {i : Nat} (h : Inv38 x L last i) (c n : Int) : (nx2 x L c n = none → Inv38 x (nxR L c n).2.2.2 last (i + 1)) ∧ (∀ y, nx2 x L c n = some y → Inv38 y (nxR L c n).2.2.2 last (i + 1)) := by
  unfold nx2 nxR
  split
  · cases hL : mlook L c with
    | none => exact ⟨fun _ => h.next, fun y hy => by cases hy⟩
    | some l =>
      simp only
      split
      · exact ⟨fun h => (by cases h), fun y hy => by cases hy; exact h.del c⟩
      · refine ⟨fun h => (by cases h), fun y hy => ?_⟩
        cases hy
        have hx : mlook x c = some l := (h.look c).trans hL
        have hm := mlook_mem hx
        have hp := (h.del c).perm
        have hc := del_cons hx
        have hnd : nodup ((c, l) :: mdel x c) := (hc.map _).nodup_iff.1 h.nd
        refine ⟨(hp.append_right _).trans (set_some hL).symm, ?_, fun p hp => ?_, ⟨h.last.1, by have := h.last.2; omega⟩, ?_⟩
        · unfold nodup at hnd ⊢
          simp only [List.map_cons, List.nodup_cons] at hnd
          rw [List.map_append]
          exact List.nodup_append.2 ⟨hnd.2, by simp, fun a ha b hb => by simp at hb; subst hb; rintro rfl; exact hnd.1 ha⟩
        · rcases List.mem_append.1 hp with hp | hp
          · exact h.le p (mdel_mem p hp)
          · simp only [List.mem_singleton] at hp; subst hp
            exact ⟨(h.le _ hm).1, by rw [List.length_drop]; have := (h.le _ hm).2; simp only at this ⊢; omega⟩
        · have := del_len hx; have := h.len
          simp only [List.length_append, List.length_singleton]; omega
  · exact ⟨fun _ => h.next, fun y hy => by cases hy⟩
theorem Inv38.size {x L : Pg} {last : Int} {i : Nat} (h : Inv38 x L last i) : L.length = x.length := h.perm.length_eq.symm
end Go.Proofs.Ytogplpcamiicgaa
end
section
/- Pages: the law. -/
set_option linter.unusedSimpArgs false
set_option linter.unusedVariables false
namespace Go.Proofs.Ytogplpcamiicgaa
open Go.RowKit Go.Bo Go.Ab

abbrev Deed := Int × Int × Int × Unit
abbrev rDeed : RC Deed := rCat (rInt .i64) (rCat (rInt .i64) (rCat (rInt .i64) rEnd))
def tabPg8 : Tabs := addT (addT (addQ (addQ (addQ (addT (addT (addT (addT (noTabs) 13 newT38) 15 beginT) 20 plenT) 18 pdropT) 14 someG) 12 awake38G) 17 find38G) 19 outT) 16 nxtT
theorem tabPg8_ok : SsOk Try.prog tabPg8 := addT_ok (addT_ok (addQ_ok (addQ_ok (addQ_ok (addT_ok (addT_ok (addT_ok (addT_ok (noTabs_ok) (G_enters G_ok (p := i13) rfl) newT38_ok) (G_enters G_ok (p := i15) rfl) beginT_ok) (G_enters G_ok (p := i20) rfl) plenT_ok) (G_enters G_ok (p := i18) rfl) pdropT_ok) (G_enters G_ok (p := i14) rfl) someG_ok) (G_enters G_ok (p := i12) rfl) awake38G_ok) (G_enters G_ok (p := i17) rfl) find38G_ok) (G_enters G_ok (p := i19) rfl) outT_ok) (G_enters G_ok (p := i16) rfl) nxtT_ok
theorem tabPg8_q13 (a : List D) : tabPg8.q 13 a = none := rfl
theorem tabPg8_t13 (a : List D) (o : List Ob) : tabPg8.t 13 a o = liftT newT38 a o := rfl
theorem tabPg8_q15 (a : List D) : tabPg8.q 15 a = none := rfl
theorem tabPg8_t15 (a : List D) (o : List Ob) : tabPg8.t 15 a o = liftT beginT a o := rfl
theorem tabPg8_q20 (a : List D) : tabPg8.q 20 a = none := rfl
theorem tabPg8_t20 (a : List D) (o : List Ob) : tabPg8.t 20 a o = liftT plenT a o := rfl
theorem tabPg8_q18 (a : List D) : tabPg8.q 18 a = none := rfl
theorem tabPg8_t18 (a : List D) (o : List Ob) : tabPg8.t 18 a o = liftT pdropT a o := rfl
theorem tabPg8_q14 (a : List D) : tabPg8.q 14 a = someG a := rfl
theorem tabPg8_q12 (a : List D) : tabPg8.q 12 a = awake38G a := rfl
theorem tabPg8_q17 (a : List D) : tabPg8.q 17 a = find38G a := rfl
theorem tabPg8_q19 (a : List D) : tabPg8.q 19 a = none := rfl
theorem tabPg8_t19 (a : List D) (o : List Ob) : tabPg8.t 19 a o = liftT outT a o := rfl
theorem tabPg8_q16 (a : List D) : tabPg8.q 16 a = none := rfl
theorem tabPg8_t16 (a : List D) (o : List Ob) : tabPg8.t 16 a o = liftT nxtT a o := rfl
theorem tabPg8_r (f : FuncId) (a : List D) (o : List Ob) : tabPg8.r f a o = none := rfl
theorem tabPg8_k (f : FuncId) (a : List D) (o : List Ob) : tabPg8.k f a o = none := rfl
def cntN (n : Int) : Nat := (if (if (40 : Int) < n then (40 : Int) else n) > 0 then (if (40 : Int) < n then (40 : Int) else n) else 0).toNat
theorem cnt_eq (n : Int) : (if (if (40 : Int) < n then (40 : Int) else n) > 0 then (if (40 : Int) < n then (40 : Int) else n) else 0) = (cntN n : Int) := by
  unfold cntN; rw [Int.toNat_of_nonneg]; split <;> split <;> omega
theorem cnt_le (n : Int) : cntN n ≤ 40 := by unfold cntN; split <;> split <;> omega
set_option maxHeartbeats 4000000 in
theorem pagesPlay_c (m : Int) (l : List Deed) : PCalls Try.prog 3 [.x (.int .i64 m), .x (.sl (rows rDeed l))] (.x (.bool true)) := by
  by_cases hm : 1 ≤ m ∧ m ≤ 1024
  · have hm2 : (1 ≤ m ∧ m ≤ 1024) = True := eq_true hm
    refine FCalls.pure (fcallsG (fz := true) G_ok (p := i3) rfl _ (Nat.le_of_ble_eq_true rfl) _ (fun C0 E0 => ?_)) rfl
    dsimp only [i3, argsφ]
    have uu := And.intro @newT38.eq_1 (And.intro @newT38.eq_2 (And.intro @beginT.eq_1 (And.intro @plenT.eq_1 (And.intro @plenT.eq_2 (And.intro @plenT.eq_3 (And.intro @pdropT.eq_1 (And.intro @pdropT.eq_2 (And.intro @pdropT.eq_3 (And.intro @someG.eq_1 (And.intro @someG.eq_2 (And.intro @awake38G.eq_1 (And.intro @awake38G.eq_2 (And.intro @find38G.eq_1 (And.intro @find38G.eq_2 (And.intro @outT.eq_1 (And.intro @nxtT.eq_1 (And.intro @un_N (And.intro @un_P (And.intro @un_X (And.intro @toL_len (And.intro @of_to (And.intro @rowsN_len (And.intro @rowsX_len (And.intro @rowsX_tk (And.intro @rowsX_snoc (And.intro @rowsN_get (And.intro @nms_len (And.intro hm2 (And.intro @cnt_eq (And.intro @tabPg8_r (And.intro @tabPg8_k (And.intro @tabPg8_q12 (And.intro @tabPg8_q13 (And.intro @tabPg8_q14 (And.intro @tabPg8_q15 (And.intro @tabPg8_q16 (And.intro @tabPg8_q17 (And.intro @tabPg8_q18 (And.intro @tabPg8_q19 (And.intro @tabPg8_q20 (And.intro @tabPg8_t13 (And.intro @tabPg8_t15 (And.intro @tabPg8_t20 (And.intro @tabPg8_t18 (And.intro @tabPg8_t19 (@tabPg8_t16))))))))))))))))))))))))))))))))))))))))))))))
    refine WI.seq ?_
    refine WI.regB tabPg8_ok [0, 1] ?_
    refine oS ?_
    refine oN ?_
    refine thenQ_normal ?_
    refine WI.seq ?_
    refine WI.seq ?_
    refine WI.regB tabPg8_ok [0, 1, 21] ?_
    refine oS ?_
    iterate 2 refine oG (hok := by first | with_reducible rfl | omega | (exact decide_eq_true ⟨by omega, hv.leL, hv.look _⟩) | (exact decide_eq_true (by omega)) | (rw [nms_len]; omega) | (simp; done) | (simp; omega) | rfl) ?_
    refine oN ?_
    refine thenQ_normal ?_
    refine WI.cond (b := _) rfl rfl (fun h0 => ?_) (fun h0 => ?_)
    · try simp only [zB] at h0
      refine WI.seq ?_
      refine WI.regB tabPg8_ok [4] ?_
      refine oC (hok := by first | with_reducible rfl | omega | (exact decide_eq_true ⟨by omega, hv.leL, hv.look _⟩) | (exact decide_eq_true (by omega)) | (rw [nms_len]; omega) | (simp; done) | (simp; omega) | rfl) ?_
      refine oS ?_
      refine oN ?_
      refine thenQ_normal ?_
      refine WI.ret ?_
      refine thenQ_ret ?_
      first | refine lfR ?_ | refine lfR2 ?_
      first | rfl | exact ⟨rfl, rfl⟩ | trivial -- leaf 0
    · try simp only [zB] at h0
      refine WI.skip ?_
      refine thenQ_normal ?_
      refine WI.seq ?_
      refine WI.regB tabPg8_ok [0, 1, 5, 6] ?_
      refine oS ?_
      refine oC (hok := by first | with_reducible rfl | omega | (exact decide_eq_true ⟨by omega, hv.leL, hv.look _⟩) | (exact decide_eq_true (by omega)) | (rw [nms_len]; omega) | (simp; done) | (simp; omega) | rfl) ?_
      refine oS ?_
      iterate 2 refine oG (hok := by first | with_reducible rfl | omega | (exact decide_eq_true ⟨by omega, hv.leL, hv.look _⟩) | (exact decide_eq_true (by omega)) | (rw [nms_len]; omega) | (simp; done) | (simp; omega) | rfl) ?_
      iterate 2 refine oS ?_
      refine oN ?_
      refine thenQ_normal ?_
      refine WI.seq ?_
      refine WI.seq ?_
      refine WI.regB tabPg8_ok [0, 1, 5, 6, 33] ?_
      refine oS ?_
      refine oG (hok := by first | with_reducible rfl | omega | (exact decide_eq_true ⟨by omega, hv.leL, hv.look _⟩) | (exact decide_eq_true (by omega)) | (rw [nms_len]; omega) | (simp; done) | (simp; omega) | rfl) ?_
      refine oS ?_
      iterate 3 refine oG (hok := by first | with_reducible rfl | omega | (exact decide_eq_true ⟨by omega, hv.leL, hv.look _⟩) | (exact decide_eq_true (by omega)) | (rw [nms_len]; omega) | (simp; done) | (simp; omega) | rfl) ?_
      refine oN ?_
      refine thenQ_normal ?_
      refine WI.cond (b := _) rfl rfl (fun h1 => ?_) (fun h1 => ?_)
      · exfalso
        simp only [zB] at h1; omega
      · try simp only [zB] at h1
        refine WI.skip ?_
        refine thenQ_normal ?_
        refine WI.seq ?_
        refine WI.seq ?_
        refine WI.regB tabPg8_ok [0, 1, 5, 48] ?_
        refine oS ?_
        refine oG (hok := by first | with_reducible rfl | omega | (exact decide_eq_true ⟨by omega, hv.leL, hv.look _⟩) | (exact decide_eq_true (by omega)) | (rw [nms_len]; omega) | (simp; done) | (simp; omega) | rfl) ?_
        refine oS ?_
        iterate 3 refine oG (hok := by first | with_reducible rfl | omega | (exact decide_eq_true ⟨by omega, hv.leL, hv.look _⟩) | (exact decide_eq_true (by omega)) | (rw [nms_len]; omega) | (simp; done) | (simp; omega) | rfl) ?_
        refine oN ?_
        refine thenQ_normal ?_
        refine WI.cond (b := _) rfl rfl (fun h2 => ?_) (fun h2 => ?_)
        · exfalso
          simp at h2
        · try simp only [zB] at h2
          refine WI.skip ?_
          refine thenQ_normal ?_
          refine WI.seq ?_
          refine WI.regB tabPg8_ok [0, 1, 5, 7] ?_
          refine oS ?_
          refine oN ?_
          refine thenQ_normal ?_
          refine WI.seq ?_
          refine WI.regB tabPg8_ok [0, 1, 5, 7, 8] ?_
          refine oS ?_
          refine oN ?_
          refine thenQ_normal ?_
          refine WI.seq ?_
          refine WI.seq ?_
          refine WI.regB tabPg8_ok [0, 1, 5, 7, 8, 9] ?_
          refine oS ?_
          refine oN ?_
          refine thenQ_normal ?_
          refine WI.block ?_
          refine WI.ownA 7 40 2 ?_
          refine WI.loop (fun φ os => ∃ (i : Nat) (last : Int) (x L : Pg), φ = [(0, .x (.int .i64 m)), (1, .x (.sl (rows rDeed l))), (5, .ptr 1 0), (7, .ref 2 x.length 0 x.length), (8, .x (.int .i64 last)), (9, .x (.int .i64 i))] ∧ os = [pgM L, .box [.mref 0, .x (.int .i64 m), .x (.int .i64 last)], xOb x] ∧ i ≤ l.length ∧ Inv38 x L last i) (down l.length 9) ?_ (fun φ os hI => ?_)
          · exact ⟨0, 0, [], [], rfl, rfl, by omega, ⟨.refl _, by simp [nodup], by simp, by omega, by simp⟩⟩
          · obtain ⟨i, last, x, L, rfl, rfl, hi, hv⟩ := hI
            refine WI.seq ?_
            refine WI.seq ?_
            refine WI.regB tabPg8_ok [0, 1, 5, 7, 8, 9, 52] ?_
            iterate 2 refine oS ?_
            iterate 2 refine oG (hok := by first | with_reducible rfl | omega | (exact decide_eq_true ⟨by omega, hv.leL, hv.look _⟩) | (exact decide_eq_true (by omega)) | (rw [nms_len]; omega) | (simp; done) | (simp; omega) | rfl) ?_
            refine oN ?_
            refine thenQ_normal ?_
            refine WI.cond (b := _) rfl rfl (fun h3 => ?_) (fun h3 => ?_)
            · try simp only [zB] at h3
              refine WI.skip ?_
              refine thenQ_normal ?_
              refine WI.seq ?_
              refine WI.block ?_
              refine WI.seq ?_
              refine WI.regB tabPg8_ok [0, 1, 5, 7, 8, 9] ?_
              refine oS ?_
              refine oN ?_
              refine thenQ_normal ?_
              refine WI.seq ?_
              refine WI.seq ?_
              refine WI.regB tabPg8_ok [0, 1, 5, 7, 8, 9, 59] ?_
              iterate 2 refine oS ?_
              refine oG (hok := by first | with_reducible rfl | omega | (exact decide_eq_true ⟨by omega, hv.leL, hv.look _⟩) | (exact decide_eq_true (by omega)) | (rw [nms_len]; omega) | (simp; done) | (simp; omega) | rfl) ?_
              refine oS ?_
              refine oG (hok := by first | with_reducible rfl | omega | (exact decide_eq_true ⟨by omega, hv.leL, hv.look _⟩) | (exact decide_eq_true (by omega)) | (rw [nms_len]; omega) | (simp; done) | (simp; omega) | rfl) ?_
              refine oN ?_
              refine thenQ_normal ?_
              refine WI.block ?_
              refine WI.seq ?_
              refine WI.regB tabPg8_ok [0, 1, 5, 7, 8, 9, 59, 82] ?_
              refine oG (hok := by first | with_reducible rfl | omega | (exact decide_eq_true ⟨by omega, hv.leL, hv.look _⟩) | (exact decide_eq_true (by omega)) | (rw [nms_len]; omega) | (simp; done) | (simp; omega) | rfl) ?_
              refine oS ?_
              refine oN ?_
              refine thenQ_normal ?_
              refine WI.cond (b := _) rfl rfl (fun h4 => ?_) (fun h4 => ?_)
              · try simp only [zB] at h4
                refine WI.seq ?_
                have hi4 : i < l.length := by omega
                have hcl := cnt_le l[i].2.2.1
                have hla := hv.last
                have hxl := hv.len
                have hsz := hv.size
                refine WI.regB tabPg8_ok [0, 1, 5, 7, 8, 9, 11] ?_
                iterate 2 refine oS ?_
                refine oG (hok := by first | with_reducible rfl | omega | (exact decide_eq_true ⟨by omega, hv.leL, hv.look _⟩) | (exact decide_eq_true (by omega)) | (rw [nms_len]; omega) | (simp; done) | (simp; omega) | rfl) ?_
                refine oS ?_
                iterate 3 refine oG (hok := by first | with_reducible rfl | omega | (exact decide_eq_true ⟨by omega, hv.leL, hv.look _⟩) | (exact decide_eq_true (by omega)) | (rw [nms_len]; omega) | (simp; done) | (simp; omega) | rfl) ?_
                refine oC (hok := by first | with_reducible rfl | omega | (exact decide_eq_true ⟨by omega, hv.leL, hv.look _⟩) | (exact decide_eq_true (by omega)) | (rw [nms_len]; omega) | (simp; done) | (simp; omega) | rfl) ?_
                refine oS ?_
                refine oN ?_
                refine thenQ_normal ?_
                refine WI.seq ?_
                refine WI.regB tabPg8_ok [0, 1, 5, 7, 8, 9, 11, 12, 13] ?_
                iterate 2 refine oS ?_
                refine oC (hok := by first | with_reducible rfl | omega | (exact decide_eq_true ⟨by omega, hv.leL, hv.look _⟩) | (exact decide_eq_true (by omega)) | (rw [nms_len]; omega) | (simp; done) | (simp; omega) | rfl) ?_
                refine oS ?_
                iterate 2 refine oG (hok := by first | with_reducible rfl | omega | (exact decide_eq_true ⟨by omega, hv.leL, hv.look _⟩) | (exact decide_eq_true (by omega)) | (rw [nms_len]; omega) | (simp; done) | (simp; omega) | rfl) ?_
                iterate 2 refine oS ?_
                refine oN ?_
                refine thenQ_normal ?_
                refine WI.seq ?_
                refine WI.regB tabPg8_ok [0, 1, 5, 7, 8, 9, 11, 12, 13, 106] ?_
                refine oS ?_
                iterate 2 refine oG (hok := by first | with_reducible rfl | omega | (exact decide_eq_true ⟨by omega, hv.leL, hv.look _⟩) | (exact decide_eq_true (by omega)) | (rw [nms_len]; omega) | (simp; done) | (simp; omega) | rfl) ?_
                refine oS ?_
                iterate 5 refine oG (hok := by first | with_reducible rfl | omega | (exact decide_eq_true ⟨by omega, hv.leL, hv.look _⟩) | (exact decide_eq_true (by omega)) | (rw [nms_len]; omega) | (simp; done) | (simp; omega) | rfl) ?_
                refine oN ?_
                refine thenQ_normal ?_
                refine WI.cond (b := _) rfl rfl (fun h5 => ?_) (fun h5 => ?_)
                · try simp only [zB] at h5
                  refine WI.seq ?_
                  have hbg : bgR m last L (nms (cntN l[i].2.2.1)) = (last + 1, true, last + 1, mset L (last + 1) (nms (cntN l[i].2.2.1))) := by
                    unfold bgR; rw [if_pos ⟨fun e => by have := congrArg List.length e; rw [nms_len] at this; simp at this; omega, by omega⟩]
                  have hv2 := hv.new (nms (cntN l[i].2.2.1)) (by rw [nms_len]; omega)
                  have hs2 := hv2.size
                  simp only [List.length_append, List.length_singleton] at hs2
                  simp only [hbg]
                  refine WI.regB tabPg8_ok [0, 1, 5, 7, 8, 9, 11, 12, 13] ?_
                  refine oS ?_
                  refine oG (hok := by first | with_reducible rfl | omega | (exact decide_eq_true ⟨by omega, hv.leL, hv.look _⟩) | (exact decide_eq_true (by omega)) | (rw [nms_len]; omega) | (simp; done) | (simp; omega) | rfl) ?_
                  refine oS ?_
                  refine oN ?_
                  refine thenQ_normal ?_
                  refine WI.seq ?_
                  refine WI.regB tabPg8_ok [0, 1, 5, 7, 8, 9, 11, 12, 13, 14] ?_
                  refine oS ?_
                  refine oN ?_
                  refine thenQ_normal ?_
                  refine WI.seq ?_
                  refine WI.seq ?_
                  refine WI.regB tabPg8_ok [0, 1, 5, 7, 8, 9, 11, 12, 13, 14, 15] ?_
                  refine oS ?_
                  refine oN ?_
                  refine thenQ_normal ?_
                  refine WI.block ?_
                  refine WI.ownA 14 9 1 ?_
                  refine WI.loop (fun φ os => ∃ (j : Nat) (out : List (List UInt8)), φ = [(0, .x (.int .i64 m)), (1, .x (.sl (rows rDeed l))), (5, .ptr 1 0), (7, .ref 2 x.length 0 x.length), (8, .x (.int .i64 (last + 1))), (9, .x (.int .i64 i)), (11, .x (.sl (rowsN (nms (cntN l[i].2.2.1))))), (12, .x (.int .i64 (last + 1))), (13, .x (.bool true)), (14, .ref 3 out.length 0 out.length), (15, .x (.int .i64 j))] ∧ os = [pgM (mset L (last + 1) (nms (cntN l[i].2.2.1))), .box [.mref 0, .x (.int .i64 m), .x (.int .i64 (last + 1))], xOb x, .rows false 9 1 (rows rStr out)] ∧ j ≤ cntN l[i].2.2.1 ∧ out.length = j ∧ out = (nms (cntN l[i].2.2.1)).take j) (down (cntN l[i].2.2.1) 15) ?_ (fun φ os hI => ?_)
                  · exact ⟨0, [], rfl, rfl, by omega, rfl, rfl⟩
                  · obtain ⟨j, out, rfl, rfl, hj, ho, he⟩ := hI
                    refine WI.seq ?_
                    refine WI.seq ?_
                    refine WI.regB tabPg8_ok [0, 1, 5, 7, 8, 9, 11, 12, 13, 14, 15, 112] ?_
                    iterate 2 refine oS ?_
                    iterate 2 refine oG (hok := by first | with_reducible rfl | omega | (exact decide_eq_true ⟨by omega, hv.leL, hv.look _⟩) | (exact decide_eq_true (by omega)) | (rw [nms_len]; omega) | (simp; done) | (simp; omega) | rfl) ?_
                    refine oN ?_
                    refine thenQ_normal ?_
                    refine WI.cond (b := _) rfl rfl (fun h6 => ?_) (fun h6 => ?_)
                    · try simp only [zB] at h6
                      refine WI.skip ?_
                      refine thenQ_normal ?_
                      refine WI.seq ?_
                      refine WI.block ?_
                      have hjl : j < (nms (cntN l[i].2.2.1)).length := by rw [nms_len]; omega
                      refine WI.regB tabPg8_ok [0, 1, 5, 7, 8, 9, 11, 12, 13, 14, 15] ?_
                      iterate 3 refine oS ?_
                      refine oG (hok := by first | with_reducible rfl | omega | (exact decide_eq_true ⟨by omega, hv.leL, hv.look _⟩) | (exact decide_eq_true (by omega)) | (rw [nms_len]; omega) | (simp; done) | (simp; omega) | rfl) ?_
                      refine oS ?_
                      iterate 3 refine oG (hok := by first | with_reducible rfl | omega | (exact decide_eq_true ⟨by omega, hv.leL, hv.look _⟩) | (exact decide_eq_true (by omega)) | (rw [nms_len]; omega) | (simp; done) | (simp; omega) | rfl) ?_
                      refine oS ?_
                      refine oN ?_
                      refine blockQ_normal ?_
                      refine thenQ_normal ?_
                      refine WI.post ?_
                      refine WI.regB tabPg8_ok [0, 1, 5, 7, 8, 9, 11, 12, 13, 14, 15] ?_
                      refine oS ?_
                      refine oG (hok := by first | with_reducible rfl | omega | (exact decide_eq_true ⟨by omega, hv.leL, hv.look _⟩) | (exact decide_eq_true (by omega)) | (rw [nms_len]; omega) | (simp; done) | (simp; omega) | rfl) ?_
                      refine oS ?_
                      refine oP ?_
                      refine pPick [0, 1, 2, 3] ?_
                      refine pEnd ?_
                      refine thenQ_normal ?_
                      exact ⟨⟨j + 1, out ++ [(nms (cntN l[i].2.2.1))[j]'(by rw [nms_len]; omega)], by simp, by rw [← rows_str], by omega, by simp [ho], by rw [← List.take_append_getElem (l := nms (cntN l[i].2.2.1)) (i := j) (by rw [nms_len]; omega), ← he]⟩, by simp [down, Ab.get, D.val, intOf?]; omega⟩
                    · try simp only [zB] at h6
                      refine WI.exit ?_
                      refine thenQ_exit ?_
                      refine thenQ_exit ?_
                      refine blockQ_hit ?_
                      refine thenQ_normal ?_
                      refine WI.seq ?_
                      have hout : out = nms (cntN l[i].2.2.1) := by rw [he]; exact List.take_of_length_le (by rw [nms_len]; omega)
                      clear he
                      subst hout
                      have e7 : (nms (cntN l[i].2.2.1)).take (cntN l[i].2.2.1) = nms (cntN l[i].2.2.1) := List.take_of_length_le (by rw [nms_len]; omega)
                      have uu := And.intro uu e7
                      refine WI.post ?_
                      refine WI.regB tabPg8_ok [0, 1, 5, 7, 8, 9, 12, 13] ?_
                      iterate 3 refine oS ?_
                      iterate 3 refine oG (hok := by first | with_reducible rfl | omega | (exact decide_eq_true ⟨by omega, hv.leL, hv.look _⟩) | (exact decide_eq_true (by omega)) | (rw [nms_len]; omega) | (simp; done) | (simp; omega) | rfl) ?_
                      refine oS ?_
                      refine oP ?_
                      refine pPick [0, 1, 2] ?_
                      refine pEnd ?_
                      refine thenQ_normal ?_
                      refine WI.regB tabPg8_ok [0, 1, 5, 7, 8, 9, 10] ?_
                      iterate 2 refine oS ?_
                      refine oG (hok := by first | with_reducible rfl | omega | (exact decide_eq_true ⟨by omega, hv.leL, hv.look _⟩) | (exact decide_eq_true (by omega)) | (rw [nms_len]; omega) | (simp; done) | (simp; omega) | rfl) ?_
                      refine oS ?_
                      iterate 2 refine oG (hok := by first | with_reducible rfl | omega | (exact decide_eq_true ⟨by omega, hv.leL, hv.look _⟩) | (exact decide_eq_true (by omega)) | (rw [nms_len]; omega) | (simp; done) | (simp; omega) | rfl) ?_
                      refine oS ?_
                      refine oN ?_
                      refine blockQ_normal ?_
                      refine thenQ_normal ?_
                      refine WI.seq ?_
                      refine WI.regB tabPg8_ok [0, 1, 5, 7, 8, 9, 163] ?_
                      refine oS ?_
                      refine oG (hok := by first | with_reducible rfl | omega | (exact decide_eq_true ⟨by omega, hv.leL, hv.look _⟩) | (exact decide_eq_true (by omega)) | (rw [nms_len]; omega) | (simp; done) | (simp; omega) | rfl) ?_
                      refine oS ?_
                      refine oG (hok := by first | with_reducible rfl | omega | (exact decide_eq_true ⟨by omega, hv.leL, hv.look _⟩) | (exact decide_eq_true (by omega)) | (rw [nms_len]; omega) | (simp; done) | (simp; omega) | rfl) ?_
                      refine oC (hok := by first | with_reducible rfl | omega | (exact decide_eq_true ⟨by omega, hv.leL, hv.look _⟩) | (exact decide_eq_true (by omega)) | (rw [nms_len]; omega) | (simp; done) | (simp; omega) | rfl) ?_
                      iterate 4 refine oG (hok := by first | with_reducible rfl | omega | (exact decide_eq_true ⟨by omega, hv.leL, hv.look _⟩) | (exact decide_eq_true (by omega)) | (rw [nms_len]; omega) | (simp; done) | (simp; omega) | rfl) ?_
                      refine oN ?_
                      refine thenQ_normal ?_
                      refine WI.cond (b := _) rfl rfl (fun h9 => ?_) (fun h9 => ?_)
                      · exfalso
                        rw [hs2] at h9; simp at h9
                      · try simp only [zB] at h9
                        refine WI.skip ?_
                        refine blockQ_normal ?_
                        refine thenQ_normal ?_
                        refine WI.orderA [0, 1, 5, 7, 8, 9] ?_
                        refine WI.regB tabPg8_ok [0, 1, 5, 7, 8, 9] ?_
                        refine oS ?_
                        refine oG (hok := by first | with_reducible rfl | omega | (exact decide_eq_true ⟨by omega, hv.leL, hv.look _⟩) | (exact decide_eq_true (by omega)) | (rw [nms_len]; omega) | (simp; done) | (simp; omega) | rfl) ?_
                        refine oS ?_
                        refine oN ?_
                        refine thenQ_normal ?_
                        exact ⟨⟨i + 1, _, _, _, by first | rfl | simp, by first | rfl | simp, by omega, hv2⟩, by simp [down, Ab.get, D.val, intOf?]; omega⟩
                · try simp only [zB] at h5
                  have hbg : bgR m last L (nms (cntN l[i].2.2.1)) = (0, false, last, L) := by
                    unfold bgR; rw [if_neg (fun k => by have k1 := List.length_pos_iff.2 k.1; rw [nms_len] at k1; have := k.2; omega)]
                  have hv2 := hv.next
                  have hs2 := hv2.size
                  simp only [hbg]
                  refine WI.regB tabPg8_ok [0, 1, 5, 7, 8, 9, 10] ?_
                  refine oS ?_
                  refine oG (hok := by first | with_reducible rfl | omega | (exact decide_eq_true ⟨by omega, hv.leL, hv.look _⟩) | (exact decide_eq_true (by omega)) | (rw [nms_len]; omega) | (simp; done) | (simp; omega) | rfl) ?_
                  refine oS ?_
                  iterate 3 refine oG (hok := by first | with_reducible rfl | omega | (exact decide_eq_true ⟨by omega, hv.leL, hv.look _⟩) | (exact decide_eq_true (by omega)) | (rw [nms_len]; omega) | (simp; done) | (simp; omega) | rfl) ?_
                  refine oS ?_
                  refine oN ?_
                  refine blockQ_normal ?_
                  refine thenQ_normal ?_
                  refine WI.seq ?_
                  refine WI.regB tabPg8_ok [0, 1, 5, 7, 8, 9, 163] ?_
                  refine oS ?_
                  refine oG (hok := by first | with_reducible rfl | omega | (exact decide_eq_true ⟨by omega, hv.leL, hv.look _⟩) | (exact decide_eq_true (by omega)) | (rw [nms_len]; omega) | (simp; done) | (simp; omega) | rfl) ?_
                  refine oS ?_
                  refine oG (hok := by first | with_reducible rfl | omega | (exact decide_eq_true ⟨by omega, hv.leL, hv.look _⟩) | (exact decide_eq_true (by omega)) | (rw [nms_len]; omega) | (simp; done) | (simp; omega) | rfl) ?_
                  refine oC (hok := by first | with_reducible rfl | omega | (exact decide_eq_true ⟨by omega, hv.leL, hv.look _⟩) | (exact decide_eq_true (by omega)) | (rw [nms_len]; omega) | (simp; done) | (simp; omega) | rfl) ?_
                  iterate 4 refine oG (hok := by first | with_reducible rfl | omega | (exact decide_eq_true ⟨by omega, hv.leL, hv.look _⟩) | (exact decide_eq_true (by omega)) | (rw [nms_len]; omega) | (simp; done) | (simp; omega) | rfl) ?_
                  refine oN ?_
                  refine thenQ_normal ?_
                  refine WI.cond (b := _) rfl rfl (fun h9 => ?_) (fun h9 => ?_)
                  · exfalso
                    rw [hs2] at h9; simp at h9
                  · try simp only [zB] at h9
                    refine WI.skip ?_
                    refine blockQ_normal ?_
                    refine thenQ_normal ?_
                    refine WI.orderA [0, 1, 5, 7, 8, 9] ?_
                    refine WI.regB tabPg8_ok [0, 1, 5, 7, 8, 9] ?_
                    refine oS ?_
                    refine oG (hok := by first | with_reducible rfl | omega | (exact decide_eq_true ⟨by omega, hv.leL, hv.look _⟩) | (exact decide_eq_true (by omega)) | (rw [nms_len]; omega) | (simp; done) | (simp; omega) | rfl) ?_
                    refine oS ?_
                    refine oN ?_
                    refine thenQ_normal ?_
                    exact ⟨⟨i + 1, _, _, _, by first | rfl | simp, by first | rfl | simp, by omega, hv2⟩, by simp [down, Ab.get, D.val, intOf?]; omega⟩
              · try simp only [zB] at h4
                refine WI.seq ?_
                refine WI.regB tabPg8_ok [0, 1, 5, 7, 8, 9, 141] ?_
                refine oG (hok := by first | with_reducible rfl | omega | (exact decide_eq_true ⟨by omega, hv.leL, hv.look _⟩) | (exact decide_eq_true (by omega)) | (rw [nms_len]; omega) | (simp; done) | (simp; omega) | rfl) ?_
                refine oS ?_
                refine oN ?_
                refine thenQ_normal ?_
                refine WI.cond (b := _) rfl rfl (fun h7 => ?_) (fun h7 => ?_)
                · try simp only [zB] at h7
                  refine WI.seq ?_
                  have hi4 : i < l.length := by omega
                  have hla := hv.last
                  have hxl := hv.len
                  rcases hnx : nx2 x L l[i].2.1 l[i].2.2.1 with _ | y
                  · have uu := And.intro uu hnx
                    first | have hv2 := (hv.take _ _).1 hnx | have hv2 := (hv.take _ _).2 y hnx
                    have hs2 := hv2.size
                    refine WI.regB tabPg8_ok [0, 1, 5, 8, 9, 16, 17] ?_
                    iterate 4 refine oS ?_
                    iterate 2 refine oG (hok := by first | with_reducible rfl | omega | (exact decide_eq_true ⟨by omega, hv.leL, hv.look _⟩) | (exact decide_eq_true (by omega)) | (rw [nms_len]; omega) | (simp; done) | (simp; omega) | rfl) ?_
                    refine oC (hok := by first | with_reducible rfl | omega | (exact decide_eq_true ⟨by omega, hv.leL, hv.look _⟩) | (exact decide_eq_true (by omega)) | (rw [nms_len]; omega) | (simp; done) | (simp; omega) | rfl) ?_
                    refine oS ?_
                    iterate 2 refine oG (hok := by first | with_reducible rfl | omega | (exact decide_eq_true ⟨by omega, hv.leL, hv.look _⟩) | (exact decide_eq_true (by omega)) | (rw [nms_len]; omega) | (simp; done) | (simp; omega) | rfl) ?_
                    iterate 2 refine oS ?_
                    refine oN ?_
                    refine thenQ_normal ?_
                    refine WI.seq ?_
                    refine WI.post ?_
                    refine WI.regB tabPg8_ok [0, 1, 5, 7, 8, 9, 17] ?_
                    iterate 2 refine oS ?_
                    refine oP ?_
                    refine pPick [0, 1, 2] ?_
                    refine pEnd ?_
                    refine thenQ_normal ?_
                    refine WI.regB tabPg8_ok [0, 1, 5, 7, 8, 9, 10] ?_
                    iterate 2 refine oS ?_
                    refine oN ?_
                    refine blockQ_normal ?_
                    refine thenQ_normal ?_
                    refine WI.seq ?_
                    refine WI.regB tabPg8_ok [0, 1, 5, 7, 8, 9, 163] ?_
                    refine oS ?_
                    refine oG (hok := by first | with_reducible rfl | omega | (exact decide_eq_true ⟨by omega, hv.leL, hv.look _⟩) | (exact decide_eq_true (by omega)) | (rw [nms_len]; omega) | (simp; done) | (simp; omega) | rfl) ?_
                    refine oS ?_
                    refine oG (hok := by first | with_reducible rfl | omega | (exact decide_eq_true ⟨by omega, hv.leL, hv.look _⟩) | (exact decide_eq_true (by omega)) | (rw [nms_len]; omega) | (simp; done) | (simp; omega) | rfl) ?_
                    refine oC (hok := by first | with_reducible rfl | omega | (exact decide_eq_true ⟨by omega, hv.leL, hv.look _⟩) | (exact decide_eq_true (by omega)) | (rw [nms_len]; omega) | (simp; done) | (simp; omega) | rfl) ?_
                    iterate 4 refine oG (hok := by first | with_reducible rfl | omega | (exact decide_eq_true ⟨by omega, hv.leL, hv.look _⟩) | (exact decide_eq_true (by omega)) | (rw [nms_len]; omega) | (simp; done) | (simp; omega) | rfl) ?_
                    refine oN ?_
                    refine thenQ_normal ?_
                    refine WI.cond (b := _) rfl rfl (fun h9 => ?_) (fun h9 => ?_)
                    · exfalso
                      rw [hs2] at h9; simp at h9
                    · try simp only [zB] at h9
                      refine WI.skip ?_
                      refine blockQ_normal ?_
                      refine thenQ_normal ?_
                      refine WI.orderA [0, 1, 5, 7, 8, 9] ?_
                      refine WI.regB tabPg8_ok [0, 1, 5, 7, 8, 9] ?_
                      refine oS ?_
                      refine oG (hok := by first | with_reducible rfl | omega | (exact decide_eq_true ⟨by omega, hv.leL, hv.look _⟩) | (exact decide_eq_true (by omega)) | (rw [nms_len]; omega) | (simp; done) | (simp; omega) | rfl) ?_
                      refine oS ?_
                      refine oN ?_
                      refine thenQ_normal ?_
                      exact ⟨⟨i + 1, _, _, _, by first | rfl | simp, by first | rfl | simp, by omega, hv2⟩, by simp [down, Ab.get, D.val, intOf?]; omega⟩
                  · have uu := And.intro uu hnx
                    first | have hv2 := (hv.take _ _).1 hnx | have hv2 := (hv.take _ _).2 y hnx
                    have hs2 := hv2.size
                    refine WI.regB tabPg8_ok [0, 1, 5, 8, 9, 16, 17] ?_
                    iterate 4 refine oS ?_
                    iterate 2 refine oG (hok := by first | with_reducible rfl | omega | (exact decide_eq_true ⟨by omega, hv.leL, hv.look _⟩) | (exact decide_eq_true (by omega)) | (rw [nms_len]; omega) | (simp; done) | (simp; omega) | rfl) ?_
                    refine oC (hok := by first | with_reducible rfl | omega | (exact decide_eq_true ⟨by omega, hv.leL, hv.look _⟩) | (exact decide_eq_true (by omega)) | (rw [nms_len]; omega) | (simp; done) | (simp; omega) | rfl) ?_
                    refine oS ?_
                    iterate 2 refine oG (hok := by first | with_reducible rfl | omega | (exact decide_eq_true ⟨by omega, hv.leL, hv.look _⟩) | (exact decide_eq_true (by omega)) | (rw [nms_len]; omega) | (simp; done) | (simp; omega) | rfl) ?_
                    iterate 2 refine oS ?_
                    refine oN ?_
                    refine thenQ_normal ?_
                    refine WI.seq ?_
                    refine WI.post ?_
                    refine WI.regB tabPg8_ok [0, 1, 5, 7, 8, 9, 17] ?_
                    iterate 2 refine oS ?_
                    refine oP ?_
                    refine pPick [0, 1, 3] ?_
                    refine pEnd ?_
                    refine thenQ_normal ?_
                    refine WI.regB tabPg8_ok [0, 1, 5, 7, 8, 9, 10] ?_
                    iterate 2 refine oS ?_
                    refine oN ?_
                    refine blockQ_normal ?_
                    refine thenQ_normal ?_
                    refine WI.seq ?_
                    refine WI.regB tabPg8_ok [0, 1, 5, 7, 8, 9, 163] ?_
                    refine oS ?_
                    refine oG (hok := by first | with_reducible rfl | omega | (exact decide_eq_true ⟨by omega, hv.leL, hv.look _⟩) | (exact decide_eq_true (by omega)) | (rw [nms_len]; omega) | (simp; done) | (simp; omega) | rfl) ?_
                    refine oS ?_
                    refine oG (hok := by first | with_reducible rfl | omega | (exact decide_eq_true ⟨by omega, hv.leL, hv.look _⟩) | (exact decide_eq_true (by omega)) | (rw [nms_len]; omega) | (simp; done) | (simp; omega) | rfl) ?_
                    refine oC (hok := by first | with_reducible rfl | omega | (exact decide_eq_true ⟨by omega, hv.leL, hv.look _⟩) | (exact decide_eq_true (by omega)) | (rw [nms_len]; omega) | (simp; done) | (simp; omega) | rfl) ?_
                    iterate 4 refine oG (hok := by first | with_reducible rfl | omega | (exact decide_eq_true ⟨by omega, hv.leL, hv.look _⟩) | (exact decide_eq_true (by omega)) | (rw [nms_len]; omega) | (simp; done) | (simp; omega) | rfl) ?_
                    refine oN ?_
                    refine thenQ_normal ?_
                    refine WI.cond (b := _) rfl rfl (fun h9 => ?_) (fun h9 => ?_)
                    · exfalso
                      rw [hs2] at h9; simp at h9
                    · try simp only [zB] at h9
                      refine WI.skip ?_
                      refine blockQ_normal ?_
                      refine thenQ_normal ?_
                      refine WI.orderA [0, 1, 5, 7, 8, 9] ?_
                      refine WI.regB tabPg8_ok [0, 1, 5, 7, 8, 9] ?_
                      refine oS ?_
                      refine oG (hok := by first | with_reducible rfl | omega | (exact decide_eq_true ⟨by omega, hv.leL, hv.look _⟩) | (exact decide_eq_true (by omega)) | (rw [nms_len]; omega) | (simp; done) | (simp; omega) | rfl) ?_
                      refine oS ?_
                      refine oN ?_
                      refine thenQ_normal ?_
                      exact ⟨⟨i + 1, _, _, _, by first | rfl | simp, by first | rfl | simp, by omega, hv2⟩, by simp [down, Ab.get, D.val, intOf?]; omega⟩
                · try simp only [zB] at h7
                  refine WI.seq ?_
                  have hi4 : i < l.length := by omega
                  have hla := hv.last
                  have hxl := hv.len
                  have hlk := hv.look l[i].2.1
                  rcases hx : mlook x l[i].2.1 with _ | ll
                  · have hf : fndP x l[i].2.1 = -1 := by rw [fndP, idx_none hx, if_neg (by omega)]
                    have hL : mlook L l[i].2.1 = none := by rw [← hlk, hx]
                    have uu := And.intro uu (And.intro hf hL)
                    have hv2 := hv.del l[i].2.1
                    rw [del_none hx] at hv2
                    have hs2 := hv2.size
                    refine WI.regB tabPg8_ok [0, 1, 5, 7, 8, 9, 18] ?_
                    iterate 3 refine oS ?_
                    refine oG (hok := by first | with_reducible rfl | omega | (exact decide_eq_true ⟨by omega, hv.leL, hv.look _⟩) | (exact decide_eq_true (by omega)) | (rw [nms_len]; omega) | (simp; done) | (simp; omega) | rfl) ?_
                    refine oS ?_
                    refine oG (hok := by first | with_reducible rfl | omega | (exact decide_eq_true ⟨by omega, hv.leL, hv.look _⟩) | (exact decide_eq_true (by omega)) | (rw [nms_len]; omega) | (simp; done) | (simp; omega) | rfl) ?_
                    refine oC (hok := by first | with_reducible rfl | omega | (exact decide_eq_true ⟨by omega, hv.leL, hv.look _⟩) | (exact decide_eq_true (by omega)) | (rw [nms_len]; omega) | (simp; done) | (simp; omega) | rfl) ?_
                    refine oS ?_
                    refine oN ?_
                    refine thenQ_normal ?_
                    refine WI.seq ?_
                    refine WI.regB tabPg8_ok [0, 1, 5, 7, 8, 9, 10, 18] ?_
                    iterate 3 refine oS ?_
                    refine oG (hok := by first | with_reducible rfl | omega | (exact decide_eq_true ⟨by omega, hv.leL, hv.look _⟩) | (exact decide_eq_true (by omega)) | (rw [nms_len]; omega) | (simp; done) | (simp; omega) | rfl) ?_
                    refine oS ?_
                    refine oG (hok := by first | with_reducible rfl | omega | (exact decide_eq_true ⟨by omega, hv.leL, hv.look _⟩) | (exact decide_eq_true (by omega)) | (rw [nms_len]; omega) | (simp; done) | (simp; omega) | rfl) ?_
                    refine oC (hok := by first | with_reducible rfl | omega | (exact decide_eq_true ⟨by omega, hv.leL, hv.look _⟩) | (exact decide_eq_true (by omega)) | (rw [nms_len]; omega) | (simp; done) | (simp; omega) | rfl) ?_
                    refine oS ?_
                    iterate 2 refine oG (hok := by first | with_reducible rfl | omega | (exact decide_eq_true ⟨by omega, hv.leL, hv.look _⟩) | (exact decide_eq_true (by omega)) | (rw [nms_len]; omega) | (simp; done) | (simp; omega) | rfl) ?_
                    refine oS ?_
                    refine oN ?_
                    refine thenQ_normal ?_
                    refine WI.seq ?_
                    refine WI.regB tabPg8_ok [0, 1, 5, 7, 8, 9, 10, 18, 78] ?_
                    refine oS ?_
                    refine oG (hok := by first | with_reducible rfl | omega | (exact decide_eq_true ⟨by omega, hv.leL, hv.look _⟩) | (exact decide_eq_true (by omega)) | (rw [nms_len]; omega) | (simp; done) | (simp; omega) | rfl) ?_
                    refine oN ?_
                    refine thenQ_normal ?_
                    refine WI.cond (b := _) rfl rfl (fun h8 => ?_) (fun h8 => ?_)
                    · exfalso
                      simp at h8
                    · try simp only [zB] at h8
                      refine WI.skip ?_
                      refine blockQ_normal ?_
                      refine thenQ_normal ?_
                      refine WI.seq ?_
                      refine WI.regB tabPg8_ok [0, 1, 5, 7, 8, 9, 163] ?_
                      refine oS ?_
                      refine oG (hok := by first | with_reducible rfl | omega | (exact decide_eq_true ⟨by omega, hv.leL, hv.look _⟩) | (exact decide_eq_true (by omega)) | (rw [nms_len]; omega) | (simp; done) | (simp; omega) | rfl) ?_
                      refine oS ?_
                      refine oG (hok := by first | with_reducible rfl | omega | (exact decide_eq_true ⟨by omega, hv.leL, hv.look _⟩) | (exact decide_eq_true (by omega)) | (rw [nms_len]; omega) | (simp; done) | (simp; omega) | rfl) ?_
                      refine oC (hok := by first | with_reducible rfl | omega | (exact decide_eq_true ⟨by omega, hv.leL, hv.look _⟩) | (exact decide_eq_true (by omega)) | (rw [nms_len]; omega) | (simp; done) | (simp; omega) | rfl) ?_
                      iterate 4 refine oG (hok := by first | with_reducible rfl | omega | (exact decide_eq_true ⟨by omega, hv.leL, hv.look _⟩) | (exact decide_eq_true (by omega)) | (rw [nms_len]; omega) | (simp; done) | (simp; omega) | rfl) ?_
                      refine oN ?_
                      refine thenQ_normal ?_
                      refine WI.cond (b := _) rfl rfl (fun h9 => ?_) (fun h9 => ?_)
                      · exfalso
                        rw [hs2] at h9; simp at h9
                      · try simp only [zB] at h9
                        refine WI.skip ?_
                        refine blockQ_normal ?_
                        refine thenQ_normal ?_
                        refine WI.orderA [0, 1, 5, 7, 8, 9] ?_
                        refine WI.regB tabPg8_ok [0, 1, 5, 7, 8, 9] ?_
                        refine oS ?_
                        refine oG (hok := by first | with_reducible rfl | omega | (exact decide_eq_true ⟨by omega, hv.leL, hv.look _⟩) | (exact decide_eq_true (by omega)) | (rw [nms_len]; omega) | (simp; done) | (simp; omega) | rfl) ?_
                        refine oS ?_
                        refine oN ?_
                        refine thenQ_normal ?_
                        exact ⟨⟨i + 1, _, _, _, by first | rfl | simp, by first | rfl | simp, by omega, hv2⟩, by simp [down, Ab.get, D.val, intOf?]; omega⟩
                  · obtain ⟨i1, i2, i3⟩ := idx_some hx
                    have hf : fndP x l[i].2.1 = (idxP x l[i].2.1 : Nat) := by rw [fndP, if_pos i1]
                    have hL : mlook L l[i].2.1 = some ll := by rw [← hlk, hx]
                    have hr : rmv x (idxP x l[i].2.1) = mdel x l[i].2.1 := i3
                    have uu := And.intro uu (And.intro hf (And.intro hL hr))
                    have hv2 := hv.del l[i].2.1
                    have hs2 := hv2.size
                    refine WI.regB tabPg8_ok [0, 1, 5, 7, 8, 9, 18] ?_
                    iterate 3 refine oS ?_
                    refine oG (hok := by first | with_reducible rfl | omega | (exact decide_eq_true ⟨by omega, hv.leL, hv.look _⟩) | (exact decide_eq_true (by omega)) | (rw [nms_len]; omega) | (simp; done) | (simp; omega) | rfl) ?_
                    refine oS ?_
                    refine oG (hok := by first | with_reducible rfl | omega | (exact decide_eq_true ⟨by omega, hv.leL, hv.look _⟩) | (exact decide_eq_true (by omega)) | (rw [nms_len]; omega) | (simp; done) | (simp; omega) | rfl) ?_
                    refine oC (hok := by first | with_reducible rfl | omega | (exact decide_eq_true ⟨by omega, hv.leL, hv.look _⟩) | (exact decide_eq_true (by omega)) | (rw [nms_len]; omega) | (simp; done) | (simp; omega) | rfl) ?_
                    refine oS ?_
                    refine oN ?_
                    refine thenQ_normal ?_
                    refine WI.seq ?_
                    refine WI.regB tabPg8_ok [0, 1, 5, 7, 8, 9, 10, 18] ?_
                    iterate 3 refine oS ?_
                    refine oG (hok := by first | with_reducible rfl | omega | (exact decide_eq_true ⟨by omega, hv.leL, hv.look _⟩) | (exact decide_eq_true (by omega)) | (rw [nms_len]; omega) | (simp; done) | (simp; omega) | rfl) ?_
                    refine oS ?_
                    refine oG (hok := by first | with_reducible rfl | omega | (exact decide_eq_true ⟨by omega, hv.leL, hv.look _⟩) | (exact decide_eq_true (by omega)) | (rw [nms_len]; omega) | (simp; done) | (simp; omega) | rfl) ?_
                    refine oC (hok := by first | with_reducible rfl | omega | (exact decide_eq_true ⟨by omega, hv.leL, hv.look _⟩) | (exact decide_eq_true (by omega)) | (rw [nms_len]; omega) | (simp; done) | (simp; omega) | rfl) ?_
                    refine oS ?_
                    iterate 2 refine oG (hok := by first | with_reducible rfl | omega | (exact decide_eq_true ⟨by omega, hv.leL, hv.look _⟩) | (exact decide_eq_true (by omega)) | (rw [nms_len]; omega) | (simp; done) | (simp; omega) | rfl) ?_
                    refine oS ?_
                    refine oN ?_
                    refine thenQ_normal ?_
                    refine WI.seq ?_
                    refine WI.regB tabPg8_ok [0, 1, 5, 7, 8, 9, 10, 18, 78] ?_
                    refine oS ?_
                    refine oG (hok := by first | with_reducible rfl | omega | (exact decide_eq_true ⟨by omega, hv.leL, hv.look _⟩) | (exact decide_eq_true (by omega)) | (rw [nms_len]; omega) | (simp; done) | (simp; omega) | rfl) ?_
                    refine oN ?_
                    refine thenQ_normal ?_
                    refine WI.cond (b := _) rfl rfl (fun h8 => ?_) (fun h8 => ?_)
                    · try simp only [zB] at h8
                      refine WI.post ?_
                      refine WI.regB tabPg8_ok [0, 1, 5, 7, 8, 9, 10] ?_
                      iterate 2 refine oS ?_
                      refine oC (hok := by first | with_reducible rfl | omega | (exact decide_eq_true ⟨by omega, hv.leL, hv.look _⟩) | (exact decide_eq_true (by omega)) | (rw [nms_len]; omega) | (simp; done) | (simp; omega) | rfl) ?_
                      refine oS ?_
                      refine oP ?_
                      refine pPick [0, 1, 3] ?_
                      refine pEnd ?_
                      refine blockQ_normal ?_
                      refine thenQ_normal ?_
                      refine WI.seq ?_
                      refine WI.regB tabPg8_ok [0, 1, 5, 7, 8, 9, 163] ?_
                      refine oS ?_
                      refine oG (hok := by first | with_reducible rfl | omega | (exact decide_eq_true ⟨by omega, hv.leL, hv.look _⟩) | (exact decide_eq_true (by omega)) | (rw [nms_len]; omega) | (simp; done) | (simp; omega) | rfl) ?_
                      refine oS ?_
                      refine oG (hok := by first | with_reducible rfl | omega | (exact decide_eq_true ⟨by omega, hv.leL, hv.look _⟩) | (exact decide_eq_true (by omega)) | (rw [nms_len]; omega) | (simp; done) | (simp; omega) | rfl) ?_
                      refine oC (hok := by first | with_reducible rfl | omega | (exact decide_eq_true ⟨by omega, hv.leL, hv.look _⟩) | (exact decide_eq_true (by omega)) | (rw [nms_len]; omega) | (simp; done) | (simp; omega) | rfl) ?_
                      iterate 4 refine oG (hok := by first | with_reducible rfl | omega | (exact decide_eq_true ⟨by omega, hv.leL, hv.look _⟩) | (exact decide_eq_true (by omega)) | (rw [nms_len]; omega) | (simp; done) | (simp; omega) | rfl) ?_
                      refine oN ?_
                      refine thenQ_normal ?_
                      refine WI.cond (b := _) rfl rfl (fun h9 => ?_) (fun h9 => ?_)
                      · exfalso
                        rw [hs2] at h9; simp at h9
                      · try simp only [zB] at h9
                        refine WI.skip ?_
                        refine blockQ_normal ?_
                        refine thenQ_normal ?_
                        refine WI.orderA [0, 1, 5, 7, 8, 9] ?_
                        refine WI.regB tabPg8_ok [0, 1, 5, 7, 8, 9] ?_
                        refine oS ?_
                        refine oG (hok := by first | with_reducible rfl | omega | (exact decide_eq_true ⟨by omega, hv.leL, hv.look _⟩) | (exact decide_eq_true (by omega)) | (rw [nms_len]; omega) | (simp; done) | (simp; omega) | rfl) ?_
                        refine oS ?_
                        refine oN ?_
                        refine thenQ_normal ?_
                        exact ⟨⟨i + 1, _, _, _, by first | rfl | simp, by first | rfl | simp, by omega, hv2⟩, by simp [down, Ab.get, D.val, intOf?]; omega⟩
                    · exfalso
                      simp at h8
            · try simp only [zB] at h3
              refine WI.exit ?_
              refine thenQ_exit ?_
              refine thenQ_exit ?_
              refine blockQ_hit ?_
              refine thenQ_normal ?_
              refine WI.seq ?_
              refine WI.regB tabPg8_ok [4] ?_
              refine oC (hok := by first | with_reducible rfl | omega | (exact decide_eq_true ⟨by omega, hv.leL, hv.look _⟩) | (exact decide_eq_true (by omega)) | (rw [nms_len]; omega) | (simp; done) | (simp; omega) | rfl) ?_
              refine oS ?_
              refine oN ?_
              refine thenQ_normal ?_
              refine WI.ret ?_
              first | refine lfR ?_ | refine lfR2 ?_
              first | rfl | exact ⟨rfl, rfl⟩ | trivial -- leaf 1
  · have hm2 : (1 ≤ m ∧ m ≤ 1024) = False := eq_false hm
    refine FCalls.pure (fcallsG (fz := true) G_ok (p := i3) rfl _ (Nat.le_of_ble_eq_true rfl) _ (fun C0 E0 => ?_)) rfl
    dsimp only [i3, argsφ]
    have uu := And.intro @newT38.eq_1 (And.intro @newT38.eq_2 (And.intro @beginT.eq_1 (And.intro @plenT.eq_1 (And.intro @plenT.eq_2 (And.intro @plenT.eq_3 (And.intro @pdropT.eq_1 (And.intro @pdropT.eq_2 (And.intro @pdropT.eq_3 (And.intro @someG.eq_1 (And.intro @someG.eq_2 (And.intro @awake38G.eq_1 (And.intro @awake38G.eq_2 (And.intro @find38G.eq_1 (And.intro @find38G.eq_2 (And.intro @outT.eq_1 (And.intro @nxtT.eq_1 (And.intro @un_N (And.intro @un_P (And.intro @un_X (And.intro @toL_len (And.intro @of_to (And.intro @rowsN_len (And.intro @rowsX_len (And.intro @rowsX_tk (And.intro @nms_len (And.intro hm2 (And.intro @tabPg8_r (And.intro @tabPg8_k (And.intro @tabPg8_q12 (And.intro @tabPg8_q13 (And.intro @tabPg8_q14 (And.intro @tabPg8_q15 (And.intro @tabPg8_q16 (And.intro @tabPg8_q17 (And.intro @tabPg8_q18 (And.intro @tabPg8_q19 (And.intro @tabPg8_q20 (And.intro @tabPg8_t13 (And.intro @tabPg8_t15 (And.intro @tabPg8_t20 (And.intro @tabPg8_t18 (And.intro @tabPg8_t19 (@tabPg8_t16)))))))))))))))))))))))))))))))))))))))))))
    refine WI.seq ?_
    refine WI.regB tabPg8_ok [0, 1] ?_
    refine oS ?_
    refine oN ?_
    refine thenQ_normal ?_
    refine WI.seq ?_
    refine WI.seq ?_
    refine WI.regB tabPg8_ok [0, 1, 21] ?_
    refine oS ?_
    iterate 2 refine oG ?_
    refine oN ?_
    refine thenQ_normal ?_
    refine WI.cond (b := _) rfl rfl (fun h0 => ?_) (fun h0 => ?_)
    · try simp only [zB] at h0
      refine WI.seq ?_
      refine WI.regB tabPg8_ok [4] ?_
      refine oC ?_
      refine oS ?_
      refine oN ?_
      refine thenQ_normal ?_
      refine WI.ret ?_
      refine thenQ_ret ?_
      first | refine lfR ?_ | refine lfR2 ?_
      first | rfl | exact ⟨rfl, rfl⟩ | trivial -- leaf 0
    · try simp only [zB] at h0
      refine WI.skip ?_
      refine thenQ_normal ?_
      refine WI.seq ?_
      refine WI.regB tabPg8_ok [0, 1, 5, 6] ?_
      refine oS ?_
      refine oC ?_
      refine oS ?_
      iterate 2 refine oG ?_
      iterate 2 refine oS ?_
      refine oN ?_
      refine thenQ_normal ?_
      refine WI.seq ?_
      refine WI.seq ?_
      refine WI.regB tabPg8_ok [0, 1, 5, 6, 33] ?_
      refine oS ?_
      refine oG ?_
      refine oS ?_
      iterate 3 refine oG ?_
      refine oN ?_
      refine thenQ_normal ?_
      refine WI.cond (b := _) rfl rfl (fun h1 => ?_) (fun h1 => ?_)
      · try simp only [zB] at h1
        refine WI.seq ?_
        refine WI.regB tabPg8_ok [4] ?_
        refine oS ?_
        refine oG ?_
        refine oS ?_
        iterate 3 refine oG ?_
        refine oS ?_
        refine oC ?_
        refine oG ?_
        refine oS ?_
        refine oN ?_
        refine thenQ_normal ?_
        refine WI.ret ?_
        refine thenQ_ret ?_
        first | refine lfR ?_ | refine lfR2 ?_
        first | rfl | exact ⟨rfl, rfl⟩ | trivial -- leaf 1
      · exfalso
        simp only [zB] at h1; omega
end Go.Proofs.Ytogplpcamiicgaa
end
