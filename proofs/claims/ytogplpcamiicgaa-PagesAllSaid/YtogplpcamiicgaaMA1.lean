/- MA1: PgP, Pg1, Pg2, Pg3, Pg4. -/
import Derived.Test.YtogplpcamiicgaaLA4
import Derived.Test.YtogplpcamiicgaaIc
section
/- Pages: what a pager holds; plain laws of maps by lists. -/
set_option linter.unusedSimpArgs false
set_option linter.unusedVariables false
namespace Go.Proofs.Ytogplpcamiicgaa
open Go.RowKit Go.Bo Go.Ab

theorem keyI (k : IntKind) (n : Int) : Go.Ab.keyOf (some k) (.x (.int k n)) = some (.int k n) := by simp [Go.Ab.keyOf]
theorem eqK (k : Option IntKind) : (k = k) = True := eq_self k
theorem eqBf : (false = false) = True := eq_self false
theorem cellF (y : X) : cellD false [y] = .x y := rfl
theorem agX (x : X) : agD (.x x) = false := rfl
/-- Names, as entries. -/
def rowN (s : List UInt8) : List X := [X.str s, X.nils]
def rowsN (l : List (List UInt8)) : List (List X) := l.map rowN
theorem rowsN_len (l : List (List UInt8)) : (rowsN l).length = l.length := by simp [rowsN]
theorem rowsN_get (l : List (List UInt8)) (j : Nat) (h : j < l.length) : (rowsN l)[j]? = some [X.str l[j], X.nils] := by
  rw [rowsN, List.getElem?_map, List.getElem?_eq_getElem h]; rfl
theorem rowsN_take (l : List (List UInt8)) (k : Nat) : (rowsN l).take k = rowsN (l.take k) := by simp [rowsN, List.map_take]
theorem rowsN_drop (l : List (List UInt8)) (k : Nat) : (rowsN l).drop k = rowsN (l.drop k) := by simp [rowsN, List.map_drop]
theorem rowsN_all (l : List (List UInt8)) : ((rowsN l).all fun r => decide (r.length = 2)) = true := by
  rw [List.all_eq_true]; intro r hr; obtain ⟨s, _, rfl⟩ := List.mem_map.1 hr; rfl
abbrev Pg := List (Int × List (List UInt8))
def encP (L : Pg) : List (X × List X) := L.map fun p => (X.int .i64 p.1, [X.sl (rowsN p.2)])
theorem encP_len (L : Pg) : (encP L).length = L.length := by simp [encP]
theorem encP_get (L : Pg) (c : Int) : mgetX (encP L) (.int .i64 c) = (mlook L c).map fun l => [X.sl (rowsN l)] := by
  induction L with
  | nil => rfl
  | cons p L ih =>
    simp only [encP, List.map_cons, mgetX, keq_int] at ih ⊢
    by_cases h : c = p.1
    · simp [mlook, h]
    · simp only [h, decide_false, Bool.false_eq_true, if_false]
      rw [ih]
      simp [mlook, h]
theorem encP_set (L : Pg) (c : Int) (l : List (List UInt8)) : msetX (encP L) (.int .i64 c) [X.sl (rowsN l)] = encP (mset L c l) := by
  induction L with
  | nil => rfl
  | cons p L ih =>
    simp only [encP, List.map_cons, msetX, keq_int, mset] at ih ⊢
    by_cases h : c = p.1
    · simp [h]
    · simp only [h, decide_false, Bool.false_eq_true, if_false]
      rw [ih]; simp
theorem encP_del (L : Pg) (c : Int) : mdelX (encP L) (.int .i64 c) = encP (mdel L c) := by
  induction L with
  | nil => rfl
  | cons p L ih =>
    simp only [encP, List.map_cons, mdelX, keq_int, mdel] at ih ⊢
    by_cases h : c = p.1
    · simp [h]
    · simp only [h, decide_false, Bool.false_eq_true, if_false]
      rw [ih]; simp
def nodup (L : Pg) : Prop := (L.map (·.1)).Nodup
theorem perm_look {A B : Pg} (h : A.Perm B) (hn : nodup A) (c : Int) : mlook A c = mlook B c := by
  have hn' : nodup B := (h.map _).nodup_iff.1 hn
  have one : ∀ {A : Pg}, nodup A → ∀ v, mlook A c = some v ↔ (c, v) ∈ A := by
    intro A
    induction A with
    | nil => intro _ v; simp [mlook]
    | cons p A ih =>
      intro hn v
      unfold nodup at hn ih
      simp only [List.map_cons, List.nodup_cons] at hn
      by_cases e : c = p.1
      · have : mlook (p :: A) c = some p.2 := by simp [mlook, e]
        rw [this]
        constructor
        · intro hv; cases hv; rw [e]; exact List.mem_cons_self
        · intro hm
          rcases List.mem_cons.1 hm with hm | hm
          · rw [← hm]
          · exact absurd (List.mem_map.2 ⟨_, hm, rfl⟩) (e ▸ hn.1)
      · have : mlook (p :: A) c = mlook A c := by simp [mlook, e]
        rw [this, ih hn.2 v]
        constructor
        · exact fun hm => List.mem_cons_of_mem _ hm
        · intro hm
          rcases List.mem_cons.1 hm with hm | hm
          · exact absurd (by rw [← hm]) e
          · exact hm
  cases hA : mlook A c with
  | some v => exact ((one hn' v).2 (h.mem_iff.1 ((one hn v).1 hA))).symm
  | none =>
    cases hB : mlook B c with
    | none => rfl
    | some v => rw [(one hn v).2 (h.mem_iff.2 ((one hn' v).1 hB))] at hA; cases hA
theorem del_cons {A : Pg} {c : Int} {v : List (List UInt8)} (h : mlook A c = some v) : A.Perm ((c, v) :: mdel A c) := by
  induction A with
  | nil => simp [mlook] at h
  | cons p A ih =>
    by_cases e : c = p.1
    · have : mlook (p :: A) c = some p.2 := by simp [mlook, e]
      rw [this] at h; cases h
      have hd : mdel (p :: A) c = A := by simp [mdel, e]
      rw [hd, e]
    · have hl : mlook (p :: A) c = mlook A c := by simp [mlook, e]
      rw [hl] at h
      have hd : mdel (p :: A) c = p :: mdel A c := by simp [mdel, e]
      rw [hd]
      exact ((ih h).cons p).trans (List.Perm.swap _ _ _)
theorem del_none {A : Pg} {c : Int} (h : mlook A c = none) : mdel A c = A := by
  induction A with
  | nil => rfl
  | cons p A ih =>
    by_cases e : c = p.1
    · simp [mlook, e] at h
    · have hl : mlook (p :: A) c = mlook A c := by simp [mlook, e]
      rw [hl] at h
      simp [mdel, e, ih h]
theorem perm_del {A B : Pg} (h : A.Perm B) (hn : nodup A) (c : Int) : (mdel A c).Perm (mdel B c) := by
  have hl := perm_look h hn c
  cases hA : mlook A c with
  | none => rw [del_none hA, del_none (hl ▸ hA)]; exact h
  | some v => exact ((del_cons hA).symm.trans (h.trans (del_cons (hl ▸ hA)))).cons_inv
theorem set_some {A : Pg} {c : Int} {v w : List (List UInt8)} (h : mlook A c = some v) : (mset A c w).Perm (mdel A c ++ [(c, w)]) := by
  induction A with
  | nil => simp [mlook] at h
  | cons p A ih =>
    by_cases e : c = p.1
    · have h1 : mset (p :: A) c w = (c, w) :: A := by simp [mset, e]
      have h2 : mdel (p :: A) c = A := by simp [mdel, e]
      rw [h1, h2]
      exact (List.perm_append_singleton _ _).symm
    · have hl : mlook (p :: A) c = mlook A c := by simp [mlook, e]
      rw [hl] at h
      have h1 : mset (p :: A) c w = p :: mset A c w := by simp [mset, e]
      have h2 : mdel (p :: A) c = p :: mdel A c := by simp [mdel, e]
      rw [h1, h2]
      exact (ih h).cons p
theorem set_none {A : Pg} {c : Int} {w : List (List UInt8)} (h : mlook A c = none) : mset A c w = A ++ [(c, w)] := by
  induction A with
  | nil => rfl
  | cons p A ih =>
    by_cases e : c = p.1
    · simp [mlook, e] at h
    · have hl : mlook (p :: A) c = mlook A c := by simp [mlook, e]
      rw [hl] at h
      simp [mset, e, ih h]
theorem del_len {A : Pg} {c : Int} {v : List (List UInt8)} (h : mlook A c = some v) : A.length = (mdel A c).length + 1 := by
  have := (del_cons h).length_eq; simpa using this
end Go.Proofs.Ytogplpcamiicgaa
end
section
/- Pages: the pager's functions. -/
set_option linter.unusedSimpArgs false
set_option linter.unusedVariables false
namespace Go.Proofs.Ytogplpcamiicgaa
open Go.RowKit Go.Bo Go.Ab

theorem pclone_c (rs : List (List X)) (hl : rs.length ≤ 1099511627776) (hz : (rs.all fun r => decide (r.length = 2)) = true) : PCalls Try.prog 32 [.x (.sl rs)] (.x (.sl rs)) := by
  refine FCalls.pure (fcallsG (fz := true) G_ok (p := i32) rfl _ (Nat.le_of_ble_eq_true rfl) _ (fun c E0 => ?_)) rfl
  dsimp only [i32, argsφ]
  refine WI.seq ?_
  refine WI.regA noTabs_ok [0] (fun K hK => ?_)
  refine osS (by simp only [zC, stepOp, aval, opv, Ab.get, Ab.put, putO, Nat.reduceEqDiff, ↓reduceIte, D.val, D.cond, reduceCtorEq]; rfl) rfl ?_
  refine osN ?_
  simp only [keep, memN, Nat.reduceEqDiff, if_true, if_false, ↓reduceIte, Option.getD_none, Option.getD_some, List.append_nil, List.cons_append, List.nil_append, Bool.false_eq_true]
  refine hK _ _ ?_
  clear hK K
  refine thenQ_normal ?_
  refine WI.seq ?_
  refine WI.seq ?_
  refine WI.nilSplit 0 rfl (fun hn => ?_) ?_
  · simp only [put, Nat.reduceEqDiff, ↓reduceIte]
    refine WI.regA noTabs_ok [0, 4] (fun K hK => ?_)
    refine osS (by simp only [zC, stepOp, aval, opv, Ab.get, Ab.put, putO, Nat.reduceEqDiff, ↓reduceIte, D.val, D.cond, reduceCtorEq]; rfl) rfl ?_
    refine osS (by simp (disch := omega) only [zM, stepOp, aval, opv, Ab.get, Ab.put, putO, Nat.reduceEqDiff, ↓reduceIte, D.val, D.cond, reduceCtorEq, aact, actT, IE.isCall, D.cells?, Nat.reduceAdd, Nat.reduceLeDiff, Ob.slice?, Nat.reduceSub, Nat.reduceMul, Int.reduceToNat, Int.reduceLE, Int.reduceLT, Int.reduceAdd, Int.reduceSub, Int.reduceMul, Int.reduceNeg, Int.reduceEq, rowsOf, srcOf, okRef, intOf?, partsD, freezeL, freezeD, buildD, slcStrD, slcSlD, optV, zeroO, eqR, eqD, eqFs, eqX, nzD, binD, unD, lenD, evK, evC, Nat.reduceLT, hz]; rfl) (by first | with_reducible rfl | omega | (simp; done) | (simp; omega) | rfl) ?_
    refine osN ?_
    simp only [keep, memN, Nat.reduceEqDiff, if_true, if_false, ↓reduceIte, Option.getD_none, Option.getD_some, List.append_nil, List.cons_append, List.nil_append, Bool.false_eq_true]
    refine hK _ _ ?_
    clear hK K
    refine thenQ_normal ?_
    refine WI.cond (b := _) rfl rfl (fun h0 => ?_) (fun h0 => ?_)
    · try simp only [zB] at h0
      refine WI.seq ?_
      refine WI.regA noTabs_ok [2] (fun K hK => ?_)
      refine osS (by simp only [zC, stepOp, aval, opv, Ab.get, Ab.put, putO, Nat.reduceEqDiff, ↓reduceIte, D.val, D.cond, reduceCtorEq]; rfl) rfl ?_
      refine osN ?_
      simp only [keep, memN, Nat.reduceEqDiff, if_true, if_false, ↓reduceIte, Option.getD_none, Option.getD_some, List.append_nil, List.cons_append, List.nil_append, Bool.false_eq_true]
      refine hK _ _ ?_
      clear hK K
      refine thenQ_normal ?_
      refine WI.nn ?_
      simp only [zV, frzL, nrmφ, nrmO, onF, D.vw, vwL, D.on, D.inP, inL, memB, D.ren, renL, inv, fpO, Ob.mp, Ob.ren, D.nn, nnφ, Nat.reduceBEq, Nat.reduceEqDiff, Nat.reduceAdd, ↓reduceIte]
      refine WI.ret ?_
      refine thenQ_ret ?_
      refine ⟨.inr rfl, ?_⟩
      -- leaf 0
      simp (disch := omega) only [zF, retD, resD, finD, plainD, freezeD, freezeL, aval, opv, Ab.get, Nat.reduceEqDiff, ↓reduceIte, D.val, D.cond, Nat.reduceAdd, Nat.reduceLeDiff, Ob.slice?, hz]
      refine ⟨_, _, rfl, ?_⟩
      simp only [mkR]
      rw [hn]
    · exfalso
      simp at h0
  · simp only [put, Nat.reduceEqDiff, ↓reduceIte]
    refine WI.regA noTabs_ok [0, 4] (fun K hK => ?_)
    refine osS (by simp only [zC, stepOp, aval, opv, Ab.get, Ab.put, putO, Nat.reduceEqDiff, ↓reduceIte, D.val, D.cond, reduceCtorEq]; rfl) rfl ?_
    refine osS (by simp (disch := omega) only [zM, stepOp, aval, opv, Ab.get, Ab.put, putO, Nat.reduceEqDiff, ↓reduceIte, D.val, D.cond, reduceCtorEq, aact, actT, IE.isCall, D.cells?, Nat.reduceAdd, Nat.reduceLeDiff, Ob.slice?, Nat.reduceSub, Nat.reduceMul, Int.reduceToNat, Int.reduceLE, Int.reduceLT, Int.reduceAdd, Int.reduceSub, Int.reduceMul, Int.reduceNeg, Int.reduceEq, rowsOf, srcOf, okRef, intOf?, partsD, freezeL, freezeD, buildD, slcStrD, slcSlD, optV, zeroO, eqR, eqD, eqFs, eqX, nzD, binD, unD, lenD, evK, evC, Nat.reduceLT, hz]; rfl) (by first | with_reducible rfl | omega | (simp; done) | (simp; omega) | rfl) ?_
    refine osN ?_
    simp only [keep, memN, Nat.reduceEqDiff, if_true, if_false, ↓reduceIte, Option.getD_none, Option.getD_some, List.append_nil, List.cons_append, List.nil_append, Bool.false_eq_true]
    refine hK _ _ ?_
    clear hK K
    refine thenQ_normal ?_
    refine WI.cond (b := _) rfl rfl (fun h0 => ?_) (fun h0 => ?_)
    · exfalso
      simp at h0
    · try simp only [zB] at h0
      refine WI.skip ?_
      refine thenQ_normal ?_
      refine WI.seq ?_
      refine WI.unNz 0 rfl ?_
      simp only [put, Nat.reduceEqDiff, ↓reduceIte]
      refine WI.regA noTabs_ok [2] (fun K hK => ?_)
      refine osS (by simp (disch := omega) only [zM, stepOp, aval, opv, Ab.get, Ab.put, putO, Nat.reduceEqDiff, ↓reduceIte, D.val, D.cond, reduceCtorEq, aact, actT, IE.isCall, D.cells?, Nat.reduceAdd, Nat.reduceLeDiff, Ob.slice?, Nat.reduceSub, Nat.reduceMul, Int.reduceToNat, Int.reduceLE, Int.reduceLT, Int.reduceAdd, Int.reduceSub, Int.reduceMul, Int.reduceNeg, Int.reduceEq, rowsOf, srcOf, okRef, intOf?, partsD, freezeL, freezeD, buildD, slcStrD, slcSlD, optV, zeroO, eqR, eqD, eqFs, eqX, nzD, binD, unD, lenD, evK, evC, Nat.reduceLT, hz]; rfl) (by first | with_reducible rfl | omega | (simp; done) | (simp; omega) | rfl) ?_
      refine osS (by simp only [zC, stepOp, aval, opv, Ab.get, Ab.put, putO, Nat.reduceEqDiff, ↓reduceIte, D.val, D.cond, reduceCtorEq]; rfl) rfl ?_
      refine osS (by simp (disch := omega) only [zM, stepOp, aval, opv, Ab.get, Ab.put, putO, Nat.reduceEqDiff, ↓reduceIte, D.val, D.cond, reduceCtorEq, aact, actT, IE.isCall, D.cells?, Nat.reduceAdd, Nat.reduceLeDiff, Ob.slice?, Nat.reduceSub, Nat.reduceMul, Int.reduceToNat, Int.reduceLE, Int.reduceLT, Int.reduceAdd, Int.reduceSub, Int.reduceMul, Int.reduceNeg, Int.reduceEq, rowsOf, srcOf, okRef, intOf?, partsD, freezeL, freezeD, buildD, slcStrD, slcSlD, optV, zeroO, eqR, eqD, eqFs, eqX, nzD, binD, unD, lenD, evK, evC, Nat.reduceLT, hz]; rfl) (by first | with_reducible rfl | omega | (simp; done) | (simp; omega) | rfl) ?_
      refine osS (by simp only [zC, stepOp, aval, opv, Ab.get, Ab.put, putO, Nat.reduceEqDiff, ↓reduceIte, D.val, D.cond, reduceCtorEq]; rfl) rfl ?_
      refine osN ?_
      simp only [keep, memN, Nat.reduceEqDiff, if_true, if_false, ↓reduceIte, Option.getD_none, Option.getD_some, List.append_nil, List.cons_append, List.nil_append, Bool.false_eq_true]
      refine hK _ _ ?_
      clear hK K
      refine thenQ_normal ?_
      refine WI.ret ?_
      refine ⟨.inr rfl, ?_⟩
      -- leaf 1
      simp (disch := omega) only [zF, retD, resD, finD, plainD, freezeD, freezeL, aval, opv, Ab.get, Nat.reduceEqDiff, ↓reduceIte, D.val, D.cond, Nat.reduceAdd, Nat.reduceLeDiff, Ob.slice?, hz]
      refine ⟨_, _, rfl, ?_⟩
      simp only [mkR]
      all_goals first | exact ⟨rfl, rfl⟩ | exact ⟨trivial, trivial⟩ | rfl | trivial
def pcloneG : List D → Option (Bool × D)
  | [.x (.sl rs)] => some (decide (rs.length ≤ 1099511627776) && rs.all fun r => decide (r.length = 2), .x (.sl rs))
  | _ => none
theorem pcloneG_ok : ∀ args r, pcloneG args = some (true, r) → PCalls Try.prog 32 args r := by
  intro args r h
  unfold pcloneG at h
  split at h
  · simp only [Option.some.injEq, Prod.mk.injEq, Bool.and_eq_true, decide_eq_true_eq] at h
    obtain ⟨⟨h1, h2⟩, rfl⟩ := h
    exact pclone_c _ h1 h2
  · cases h
/-- A pager. -/
abbrev pgB (m k : Int) : Ob := .box [.mref 1, .x (.int .i64 m), .x (.int .i64 k)]
abbrev pgM (L : Pg) : Ob := .mpo (some .i64) false (encP L)
theorem new38_ok (m : Int) (h : 1 ≤ m ∧ m ≤ 1024) : MCalls Try.prog 13 [.x (.int .i64 m)] [] (.tup [.ptr 1 0, .x (.int .i64 0)]) [.mpo (some .i64) false [], .box [.mref 0, .x (.int .i64 m), .x (.int .i64 0)]] := by
  refine FCalls.mcalls (fcallsG (fz := false) G_ok (p := i13) rfl _ (Nat.le_of_ble_eq_true rfl) _ (fun c E0 => ?_))
  dsimp only [i13, argsφ]
  have uu := trivial
  refine WI.seq ?_
  refine WI.regB noTabs_ok [0] ?_
  iterate 2 refine oS ?_
  refine oN ?_
  refine thenQ_normal ?_
  refine WI.seq ?_
  refine WI.seq ?_
  refine WI.regB noTabs_ok [0, 9] ?_
  refine oS ?_
  refine oG ?_
  refine oS ?_
  iterate 3 refine oG ?_
  refine oN ?_
  refine thenQ_normal ?_
  refine WI.cond (b := _) rfl rfl (fun h0 => ?_) (fun h0 => ?_)
  · exfalso
    simp only [zB] at h0; omega
  · try simp only [zB] at h0
    refine WI.skip ?_
    refine thenQ_normal ?_
    refine WI.seq ?_
    refine WI.regB noTabs_ok [2, 3] ?_
    refine oG ?_
    refine oS ?_
    iterate 2 refine oG ?_
    iterate 2 refine oS ?_
    refine oN ?_
    refine thenQ_normal ?_
    refine WI.ret ?_
    first | refine lfR ?_ | refine lfR2 ?_
    first | rfl | exact ⟨rfl, rfl⟩ | trivial -- leaf 0
theorem new38_bad (m : Int) (h : ¬ (1 ≤ m ∧ m ≤ 1024)) : MCalls Try.prog 13 [.x (.int .i64 m)] [] (.tup [.x .nilp, .x (.int .i64 1)]) [] := by
  refine FCalls.mcalls (fcallsG (fz := false) G_ok (p := i13) rfl _ (Nat.le_of_ble_eq_true rfl) _ (fun c E0 => ?_))
  dsimp only [i13, argsφ]
  have uu := trivial
  refine WI.seq ?_
  refine WI.regB noTabs_ok [0] ?_
  iterate 2 refine oS ?_
  refine oN ?_
  refine thenQ_normal ?_
  refine WI.seq ?_
  refine WI.seq ?_
  refine WI.regB noTabs_ok [0, 9] ?_
  refine oS ?_
  refine oG ?_
  refine oS ?_
  iterate 3 refine oG ?_
  refine oN ?_
  refine thenQ_normal ?_
  refine WI.cond (b := _) rfl rfl (fun h0 => ?_) (fun h0 => ?_)
  · try simp only [zB] at h0
    refine WI.seq ?_
    refine WI.regB noTabs_ok [2, 3] ?_
    iterate 2 refine oS ?_
    refine oN ?_
    refine thenQ_normal ?_
    refine WI.ret ?_
    refine thenQ_ret ?_
    first | refine lfR ?_ | refine lfR2 ?_
    first | rfl | exact ⟨rfl, rfl⟩ | trivial -- leaf 0
  · exfalso
    simp only [zB] at h0; omega
theorem plen_c (m k : Int) (L : Pg) : MCalls Try.prog 20 [.ptr 0 0] [pgB m k, pgM L] (.x (.int .i64 L.length)) [pgB m k, pgM L] := by
  refine FCalls.mcalls (fcallsG (fz := false) G_ok (p := i20) rfl _ (Nat.le_of_ble_eq_true rfl) _ (fun c E0 => ?_))
  dsimp only [i20, argsφ]
  have uu := And.intro @encP_len (And.intro @eqK (@eqBf))
  refine WI.seq ?_
  refine WI.regB noTabs_ok [0] ?_
  refine oS ?_
  refine oN ?_
  refine thenQ_normal ?_
  refine WI.seq ?_
  refine WI.seq ?_
  refine WI.regB noTabs_ok [0, 4] ?_
  refine oS ?_
  refine oG ?_
  refine oN ?_
  refine thenQ_normal ?_
  refine WI.cond (b := _) rfl rfl (fun h0 => ?_) (fun h0 => ?_)
  · exfalso
    simp at h0
  · try simp only [zB] at h0
    refine WI.skip ?_
    refine thenQ_normal ?_
    refine WI.seq ?_
    refine WI.regB noTabs_ok [2] ?_
    iterate 3 refine oS ?_
    iterate 2 refine oG ?_
    refine oS ?_
    refine oN ?_
    refine thenQ_normal ?_
    refine WI.ret ?_
    first | refine lfR ?_ | refine lfR2 ?_
    first | rfl | exact ⟨rfl, rfl⟩ | trivial -- leaf 0
theorem pdrop_c (m k c : Int) (L : Pg) : MCalls Try.prog 18 [.ptr 0 0, .x (.int .i64 c)] [pgB m k, pgM L] (.x (.bool (mlook L c).isSome)) [pgB m k, pgM (mdel L c)] := by
  cases hL : mlook L c with
  | none =>
    have hm : mgetX (encP L) (.int .i64 c) = none := by rw [encP_get, hL]; rfl
    have hd := encP_del L c
    refine FCalls.mcalls (fcallsG (fz := false) G_ok (p := i18) rfl _ (Nat.le_of_ble_eq_true rfl) _ (fun c E0 => ?_))
    dsimp only [i18, argsφ]
    have uu := And.intro hm (And.intro hd (And.intro @keyI (And.intro @cellF (And.intro @agX (And.intro @eqK (@eqBf))))))
    refine WI.seq ?_
    refine WI.regB noTabs_ok [0, 1] ?_
    refine oS ?_
    refine oN ?_
    refine thenQ_normal ?_
    refine WI.seq ?_
    refine WI.seq ?_
    refine WI.regB noTabs_ok [0, 1, 8] ?_
    refine oS ?_
    refine oG ?_
    refine oN ?_
    refine thenQ_normal ?_
    refine WI.cond (b := _) rfl rfl (fun h0 => ?_) (fun h0 => ?_)
    · exfalso
      simp at h0
    · try simp only [zB] at h0
      refine WI.skip ?_
      refine thenQ_normal ?_
      refine WI.seq ?_
      refine WI.regB noTabs_ok [0, 1, 6] ?_
      iterate 3 refine oS ?_
      refine oG ?_
      refine oS ?_
      refine oG ?_
      refine oS ?_
      iterate 2 refine oG ?_
      iterate 2 refine oS ?_
      refine oN ?_
      refine thenQ_normal ?_
      refine WI.seq ?_
      refine WI.regB noTabs_ok [6] ?_
      iterate 3 refine oS ?_
      refine oG ?_
      refine oS ?_
      refine oG ?_
      refine oN ?_
      refine thenQ_normal ?_
      refine WI.seq ?_
      refine WI.regB noTabs_ok [4] ?_
      iterate 2 refine oS ?_
      refine oN ?_
      refine thenQ_normal ?_
      refine WI.ret ?_
      first | refine lfR ?_ | refine lfR2 ?_
      first | rfl | exact ⟨rfl, rfl⟩ | trivial -- leaf 0
  | some l =>
    have hm : mgetX (encP L) (.int .i64 c) = some [X.sl (rowsN l)] := by rw [encP_get, hL]; rfl
    have hd := encP_del L c
    refine FCalls.mcalls (fcallsG (fz := false) G_ok (p := i18) rfl _ (Nat.le_of_ble_eq_true rfl) _ (fun c E0 => ?_))
    dsimp only [i18, argsφ]
    have uu := And.intro hm (And.intro hd (And.intro @keyI (And.intro @cellF (And.intro @agX (And.intro @eqK (@eqBf))))))
    refine WI.seq ?_
    refine WI.regB noTabs_ok [0, 1] ?_
    refine oS ?_
    refine oN ?_
    refine thenQ_normal ?_
    refine WI.seq ?_
    refine WI.seq ?_
    refine WI.regB noTabs_ok [0, 1, 8] ?_
    refine oS ?_
    refine oG ?_
    refine oN ?_
    refine thenQ_normal ?_
    refine WI.cond (b := _) rfl rfl (fun h0 => ?_) (fun h0 => ?_)
    · exfalso
      simp at h0
    · try simp only [zB] at h0
      refine WI.skip ?_
      refine thenQ_normal ?_
      refine WI.seq ?_
      refine WI.regB noTabs_ok [0, 1, 6] ?_
      iterate 3 refine oS ?_
      refine oG ?_
      refine oS ?_
      refine oG ?_
      refine oS ?_
      iterate 2 refine oG ?_
      iterate 2 refine oS ?_
      refine oN ?_
      refine thenQ_normal ?_
      refine WI.seq ?_
      refine WI.regB noTabs_ok [6] ?_
      iterate 3 refine oS ?_
      refine oG ?_
      refine oS ?_
      refine oG ?_
      refine oN ?_
      refine thenQ_normal ?_
      refine WI.seq ?_
      refine WI.regB noTabs_ok [4] ?_
      iterate 2 refine oS ?_
      refine oN ?_
      refine thenQ_normal ?_
      refine WI.ret ?_
      first | refine lfR ?_ | refine lfR2 ?_
      first | rfl | exact ⟨rfl, rfl⟩ | trivial -- leaf 0
end Go.Proofs.Ytogplpcamiicgaa
end
section
/- Pages: Begin, Next. -/
set_option linter.unusedSimpArgs false
set_option linter.unusedVariables false
namespace Go.Proofs.Ytogplpcamiicgaa
open Go.RowKit Go.Bo Go.Ab

def tabPg1 : Tabs := addQ (noTabs) 32 pcloneG
theorem tabPg1_ok : SsOk Try.prog tabPg1 := addQ_ok (noTabs_ok) (G_enters G_ok (p := i32) rfl) pcloneG_ok
theorem tabPg1_q32 (a : List D) : tabPg1.q 32 a = pcloneG a := rfl
theorem tabPg1_r (f : FuncId) (a : List D) (o : List Ob) : tabPg1.r f a o = none := rfl
theorem tabPg1_k (f : FuncId) (a : List D) (o : List Ob) : tabPg1.k f a o = none := rfl
def okBegin (m : Int) (L : Pg) (l : List (List UInt8)) : Prop := l ≠ [] ∧ (L.length : Int) < m
theorem begin_ok (m k : Int) (L : Pg) (l : List (List UInt8)) (h : okBegin m L l) (hk : 0 ≤ k ∧ k ≤ 1000000) (hl : l.length ≤ 1000000) : MCalls Try.prog 15 [.ptr 0 0, .x (.sl (rowsN l))] [pgB m k, pgM L] (.tup [.x (.int .i64 (k + 1)), .x (.bool true)]) [pgB m (k + 1), pgM (mset L (k + 1) l)] := by
  have h1 := h.1
  have h2 := h.2
  have h3 : 0 < l.length := List.length_pos_iff.2 h1
  have hs := encP_set L (k + 1) l
  have ha := rowsN_all l
  refine FCalls.mcalls (fcallsG (fz := false) G_ok (p := i15) rfl _ (Nat.le_of_ble_eq_true rfl) _ (fun c E0 => ?_))
  dsimp only [i15, argsφ]
  have uu := And.intro @encP_len (And.intro @rowsN_len (And.intro hs (And.intro ha (And.intro @pcloneG.eq_1 (And.intro @pcloneG.eq_2 (And.intro @keyI (And.intro @cellF (And.intro @agX (And.intro @eqK (And.intro @eqBf (And.intro @tabPg1_r (And.intro @tabPg1_k (@tabPg1_q32)))))))))))))
  refine WI.seq ?_
  refine WI.regB tabPg1_ok [0, 1] ?_
  iterate 2 refine oS ?_
  refine oN ?_
  refine thenQ_normal ?_
  refine WI.seq ?_
  refine WI.seq ?_
  refine WI.dregB tabPg1_ok [0, 1, 24] ?_
  refine dFS ?_
  refine dFG ?_
  refine dFS ?_
  refine dFG ?_
  refine dQG ?_
  iterate 2 refine dFG ?_
  refine dFS ?_
  iterate 3 refine dFG ?_
  iterate 2 refine dQG ?_
  iterate 3 refine dFG ?_
  refine dQG ?_
  iterate 2 refine dFG ?_
  refine dN ?_
  refine thenQ_normal ?_
  refine WI.cond (b := _) rfl rfl (fun h0 => ?_) (fun h0 => ?_)
  · exfalso
    simp only [zB] at h0; omega
  · try simp only [zB] at h0
    refine WI.skip ?_
    refine thenQ_normal ?_
    refine WI.seq ?_
    refine WI.regB tabPg1_ok [0, 1] ?_
    iterate 3 refine oS ?_
    iterate 2 refine oG ?_
    iterate 2 refine oS ?_
    refine oG ?_
    refine oN ?_
    refine thenQ_normal ?_
    refine WI.seq ?_
    refine WI.dregB tabPg1_ok [0] ?_
    iterate 3 refine dFS ?_
    refine dQG ?_
    iterate 3 refine dFS ?_
    refine dQG ?_
    refine dFS ?_
    refine dQC ?_
    refine dAG ?_
    refine dN ?_
    refine thenQ_normal ?_
    refine WI.seq ?_
    refine WI.regB tabPg1_ok [4, 5] ?_
    iterate 3 refine oS ?_
    refine oG ?_
    iterate 2 refine oS ?_
    refine oN ?_
    refine thenQ_normal ?_
    refine WI.ret ?_
    first | refine lfR ?_ | refine lfR2 ?_
    first | rfl | exact ⟨rfl, rfl⟩ | trivial -- leaf 0
theorem begin_no (m k : Int) (L : Pg) (l : List (List UInt8)) (h : ¬ okBegin m L l) : MCalls Try.prog 15 [.ptr 0 0, .x (.sl (rowsN l))] [pgB m k, pgM L] (.tup [.x (.int .i64 0), .x (.bool false)]) [pgB m k, pgM L] := by
  have h1 : ¬ (0 < l.length ∧ (L.length : Int) < m) := fun k => h ⟨List.length_pos_iff.1 k.1, k.2⟩
  refine FCalls.mcalls (fcallsG (fz := false) G_ok (p := i15) rfl _ (Nat.le_of_ble_eq_true rfl) _ (fun c E0 => ?_))
  dsimp only [i15, argsφ]
  have uu := And.intro @encP_len (And.intro @rowsN_len (And.intro @keyI (And.intro @cellF (And.intro @agX (And.intro @eqK (And.intro @eqBf (And.intro @tabPg1_r (And.intro @tabPg1_k (And.intro @tabPg1_q32 (And.intro @pcloneG.eq_1 (@pcloneG.eq_2)))))))))))
  refine WI.seq ?_
  refine WI.regB tabPg1_ok [0, 1] ?_
  iterate 2 refine oS ?_
  refine oN ?_
  refine thenQ_normal ?_
  refine WI.seq ?_
  refine WI.seq ?_
  refine WI.dregB tabPg1_ok [0, 1, 24] ?_
  refine dFS ?_
  refine dFG ?_
  refine dFS ?_
  refine dFG ?_
  refine dQG ?_
  iterate 2 refine dFG ?_
  refine dFS ?_
  iterate 3 refine dFG ?_
  iterate 2 refine dQG ?_
  iterate 3 refine dFG ?_
  refine dQG ?_
  iterate 2 refine dFG ?_
  refine dN ?_
  refine thenQ_normal ?_
  refine WI.cond (b := _) rfl rfl (fun h0 => ?_) (fun h0 => ?_)
  · try simp only [zB] at h0
    refine WI.seq ?_
    refine WI.regB tabPg1_ok [4, 5] ?_
    iterate 2 refine oS ?_
    refine oN ?_
    refine thenQ_normal ?_
    refine WI.ret ?_
    refine thenQ_ret ?_
    first | refine lfR ?_ | refine lfR2 ?_
    first | rfl | exact ⟨rfl, rfl⟩ | trivial -- leaf 0
  · exfalso
    simp only [zB] at h0; omega
theorem next_range (m k c n : Int) (L : Pg) (h : ¬ (1 ≤ n ∧ n ≤ 1024)) : MCalls Try.prog 21 [.ptr 0 0, .x (.int .i64 c), .x (.int .i64 n)] [pgB m k, pgM L] (.tup [.x .nils, .x (.int .i64 0), .x (.int .i64 2)]) [pgB m k, pgM L] := by
  refine FCalls.mcalls (fcallsG (fz := false) G_ok (p := i21) rfl _ (Nat.le_of_ble_eq_true rfl) _ (fun c E0 => ?_))
  dsimp only [i21, argsφ]
  have uu := And.intro @tabPg1_r (And.intro @tabPg1_k (And.intro @tabPg1_q32 (And.intro @pcloneG.eq_1 (@pcloneG.eq_2))))
  refine WI.seq ?_
  refine WI.regB tabPg1_ok [0, 1, 2] ?_
  iterate 3 refine oS ?_
  refine oN ?_
  refine thenQ_normal ?_
  refine WI.seq ?_
  refine WI.block ?_
  refine WI.seq ?_
  refine WI.regB tabPg1_ok [0, 1, 2, 11] ?_
  refine oS ?_
  refine oG ?_
  refine oS ?_
  refine oN ?_
  refine thenQ_normal ?_
  refine WI.cond (b := _) rfl rfl (fun h0 => ?_) (fun h0 => ?_)
  · exfalso
    simp at h0
  · try simp only [zB] at h0
    refine WI.seq ?_
    refine WI.regB tabPg1_ok [0, 1, 2, 14] ?_
    refine oS ?_
    refine oG ?_
    refine oS ?_
    iterate 3 refine oG ?_
    refine oS ?_
    refine oN ?_
    refine thenQ_normal ?_
    refine WI.cond (b := _) rfl rfl (fun h1 => ?_) (fun h1 => ?_)
    · try simp only [zB] at h1
      refine WI.seq ?_
      refine WI.regB tabPg1_ok [6, 7, 8] ?_
      iterate 3 refine oS ?_
      refine oN ?_
      refine thenQ_normal ?_
      refine WI.ret ?_
      refine blockQ_ret ?_
      refine thenQ_ret ?_
      first | refine lfR ?_ | refine lfR2 ?_
      first | rfl | exact ⟨rfl, rfl⟩ | trivial -- leaf 0
    · exfalso
      simp only [zB] at h1; omega
theorem next_none (m k c n : Int) (L : Pg) (h : 1 ≤ n ∧ n ≤ 1024) (hL : mlook L c = none) : MCalls Try.prog 21 [.ptr 0 0, .x (.int .i64 c), .x (.int .i64 n)] [pgB m k, pgM L] (.tup [.x .nils, .x (.int .i64 0), .x (.int .i64 8)]) [pgB m k, pgM L] := by
  have hm : mgetX (encP L) (.int .i64 c) = none := by rw [encP_get, hL]; rfl
  refine FCalls.mcalls (fcallsG (fz := false) G_ok (p := i21) rfl _ (Nat.le_of_ble_eq_true rfl) _ (fun c E0 => ?_))
  dsimp only [i21, argsφ]
  have uu := And.intro hm (And.intro @keyI (And.intro @cellF (And.intro @agX (And.intro @eqK (And.intro @eqBf (And.intro @tabPg1_r (And.intro @tabPg1_k (And.intro @tabPg1_q32 (And.intro @pcloneG.eq_1 (@pcloneG.eq_2))))))))))
  refine WI.seq ?_
  refine WI.regB tabPg1_ok [0, 1, 2] ?_
  iterate 3 refine oS ?_
  refine oN ?_
  refine thenQ_normal ?_
  refine WI.seq ?_
  refine WI.block ?_
  refine WI.seq ?_
  refine WI.regB tabPg1_ok [0, 1, 2, 11] ?_
  refine oS ?_
  refine oG ?_
  refine oS ?_
  refine oN ?_
  refine thenQ_normal ?_
  refine WI.cond (b := _) rfl rfl (fun h0 => ?_) (fun h0 => ?_)
  · exfalso
    simp at h0
  · try simp only [zB] at h0
    refine WI.seq ?_
    refine WI.regB tabPg1_ok [0, 1, 2, 14] ?_
    refine oS ?_
    refine oG ?_
    refine oS ?_
    iterate 3 refine oG ?_
    refine oS ?_
    refine oN ?_
    refine thenQ_normal ?_
    refine WI.cond (b := _) rfl rfl (fun h1 => ?_) (fun h1 => ?_)
    · exfalso
      simp only [zB] at h1; omega
    · try simp only [zB] at h1
      refine WI.skip ?_
      refine blockQ_normal ?_
      refine thenQ_normal ?_
      refine WI.seq ?_
      refine WI.regB tabPg1_ok [0, 1, 2, 9, 10] ?_
      iterate 3 refine oS ?_
      refine oG ?_
      refine oS ?_
      refine oG ?_
      refine oS ?_
      iterate 2 refine oG ?_
      iterate 2 refine oS ?_
      refine oN ?_
      refine thenQ_normal ?_
      refine WI.seq ?_
      refine WI.seq ?_
      refine WI.regB tabPg1_ok [0, 1, 2, 9, 31] ?_
      refine oS ?_
      refine oG ?_
      refine oN ?_
      refine thenQ_normal ?_
      refine WI.cond (b := _) rfl rfl (fun h2 => ?_) (fun h2 => ?_)
      · try simp only [zB] at h2
        refine WI.seq ?_
        refine WI.regB tabPg1_ok [6, 7, 8] ?_
        iterate 3 refine oS ?_
        refine oN ?_
        refine thenQ_normal ?_
        refine WI.ret ?_
        refine thenQ_ret ?_
        first | refine lfR ?_ | refine lfR2 ?_
        first | rfl | exact ⟨rfl, rfl⟩ | trivial -- leaf 0
      · exfalso
        simp at h2
theorem next_all (m k c n : Int) (L : Pg) (l : List (List UInt8)) (h : 1 ≤ n ∧ n ≤ 1024) (hL : mlook L c = some l) (hn : (l.length : Int) ≤ n) : MCalls Try.prog 21 [.ptr 0 0, .x (.int .i64 c), .x (.int .i64 n)] [pgB m k, pgM L] (.tup [.x (.sl (rowsN l)), .x (.int .i64 0), .x (.int .i64 0)]) [pgB m k, pgM (mdel L c)] := by
  have hm : mgetX (encP L) (.int .i64 c) = some [X.sl (rowsN l)] := by rw [encP_get, hL]; rfl
  have hd := encP_del L c
  have e2 : (if (l.length : Int) < n then (l.length : Int) else n) = (l.length : Int) := by split <;> omega
  refine FCalls.mcalls (fcallsG (fz := false) G_ok (p := i21) rfl _ (Nat.le_of_ble_eq_true rfl) _ (fun c E0 => ?_))
  dsimp only [i21, argsφ]
  have uu := And.intro hm (And.intro hd (And.intro @e2 (And.intro @rowsN_len (And.intro @keyI (And.intro @cellF (And.intro @agX (And.intro @eqK (And.intro @eqBf (And.intro @tabPg1_r (And.intro @tabPg1_k (And.intro @tabPg1_q32 (And.intro @pcloneG.eq_1 (@pcloneG.eq_2)))))))))))))
  refine WI.seq ?_
  refine WI.regB tabPg1_ok [0, 1, 2] ?_
  iterate 3 refine oS ?_
  refine oN ?_
  refine thenQ_normal ?_
  refine WI.seq ?_
  refine WI.block ?_
  refine WI.seq ?_
  refine WI.regB tabPg1_ok [0, 1, 2, 11] ?_
  refine oS ?_
  refine oG ?_
  refine oS ?_
  refine oN ?_
  refine thenQ_normal ?_
  refine WI.cond (b := _) rfl rfl (fun h0 => ?_) (fun h0 => ?_)
  · exfalso
    simp at h0
  · try simp only [zB] at h0
    refine WI.seq ?_
    refine WI.regB tabPg1_ok [0, 1, 2, 14] ?_
    refine oS ?_
    refine oG ?_
    refine oS ?_
    iterate 3 refine oG ?_
    refine oS ?_
    refine oN ?_
    refine thenQ_normal ?_
    refine WI.cond (b := _) rfl rfl (fun h1 => ?_) (fun h1 => ?_)
    · exfalso
      simp only [zB] at h1; omega
    · try simp only [zB] at h1
      refine WI.skip ?_
      refine blockQ_normal ?_
      refine thenQ_normal ?_
      refine WI.seq ?_
      refine WI.regB tabPg1_ok [0, 1, 2, 9, 10] ?_
      iterate 3 refine oS ?_
      refine oG ?_
      refine oS ?_
      refine oG ?_
      refine oS ?_
      iterate 2 refine oG ?_
      iterate 2 refine oS ?_
      refine oN ?_
      refine thenQ_normal ?_
      refine WI.seq ?_
      refine WI.seq ?_
      refine WI.regB tabPg1_ok [0, 1, 2, 9, 31] ?_
      refine oS ?_
      refine oG ?_
      refine oN ?_
      refine thenQ_normal ?_
      refine WI.cond (b := _) rfl rfl (fun h2 => ?_) (fun h2 => ?_)
      · exfalso
        simp at h2
      · try simp only [zB] at h2
        refine WI.skip ?_
        refine thenQ_normal ?_
        refine WI.seq ?_
        refine WI.regB tabPg1_ok [0, 1, 2, 9] ?_
        iterate 2 refine oS ?_
        iterate 2 refine oG ?_
        refine oS ?_
        refine oN ?_
        refine thenQ_normal ?_
        refine WI.seq ?_
        refine WI.seq ?_
        refine WI.regB tabPg1_ok [0, 1, 2, 9, 39] ?_
        iterate 2 refine oS ?_
        iterate 2 refine oG ?_
        refine oN ?_
        refine thenQ_normal ?_
        refine WI.cond (b := _) rfl rfl (fun h3 => ?_) (fun h3 => ?_)
        · try simp only [zB] at h3
          refine WI.seq ?_
          refine WI.regB tabPg1_ok [9] ?_
          iterate 3 refine oS ?_
          refine oG ?_
          refine oS ?_
          refine oG ?_
          refine oN ?_
          refine thenQ_normal ?_
          refine WI.seq ?_
          refine WI.regB tabPg1_ok [6, 7, 8] ?_
          iterate 4 refine oS ?_
          refine oN ?_
          refine thenQ_normal ?_
          refine WI.ret ?_
          refine thenQ_ret ?_
          first | refine lfR ?_ | refine lfR2 ?_
          first | rfl | exact ⟨rfl, rfl⟩ | trivial -- leaf 0
        · exfalso
          simp at h3
theorem next_part (m k c : Int) (n : Nat) (L : Pg) (l : List (List UInt8)) (h : 1 ≤ n ∧ n ≤ 1024) (hL : mlook L c = some l) (hn : n < l.length) (hl : l.length ≤ 1000000) : MCalls Try.prog 21 [.ptr 0 0, .x (.int .i64 c), .x (.int .i64 n)] [pgB m k, pgM L] (.tup [.x (.sl (rowsN (l.take n))), .x (.int .i64 c), .x (.int .i64 0)]) [pgB m k, pgM (mset L c (l.drop n))] := by
  have hm : mgetX (encP L) (.int .i64 c) = some [X.sl (rowsN l)] := by rw [encP_get, hL]; rfl
  have hs := encP_set L c (l.drop n)
  have ha := rowsN_all (l.take n)
  have hb := rowsN_all l
  have e2 : (if (l.length : Int) < (n : Int) then (l.length : Int) else (n : Int)) = (n : Int) := by split <;> omega
  refine FCalls.mcalls (fcallsG (fz := false) G_ok (p := i21) rfl _ (Nat.le_of_ble_eq_true rfl) _ (fun c E0 => ?_))
  dsimp only [i21, argsφ]
  have uu := And.intro hm (And.intro hs (And.intro ha (And.intro hb (And.intro @e2 (And.intro @rowsN_len (And.intro @rowsN_take (And.intro @rowsN_drop (And.intro @pcloneG.eq_1 (And.intro @pcloneG.eq_2 (And.intro @keyI (And.intro @cellF (And.intro @agX (And.intro @eqK (And.intro @eqBf (And.intro @tabPg1_r (And.intro @tabPg1_k (@tabPg1_q32)))))))))))))))))
  refine WI.seq ?_
  refine WI.regB tabPg1_ok [0, 1, 2] ?_
  iterate 3 refine oS ?_
  refine oN ?_
  refine thenQ_normal ?_
  refine WI.seq ?_
  refine WI.block ?_
  refine WI.seq ?_
  refine WI.regB tabPg1_ok [0, 1, 2, 11] ?_
  refine oS ?_
  refine oG ?_
  refine oS ?_
  refine oN ?_
  refine thenQ_normal ?_
  refine WI.cond (b := _) rfl rfl (fun h0 => ?_) (fun h0 => ?_)
  · exfalso
    simp at h0
  · try simp only [zB] at h0
    refine WI.seq ?_
    refine WI.regB tabPg1_ok [0, 1, 2, 14] ?_
    refine oS ?_
    refine oG ?_
    refine oS ?_
    iterate 3 refine oG ?_
    refine oS ?_
    refine oN ?_
    refine thenQ_normal ?_
    refine WI.cond (b := _) rfl rfl (fun h1 => ?_) (fun h1 => ?_)
    · exfalso
      simp only [zB] at h1; omega
    · try simp only [zB] at h1
      refine WI.skip ?_
      refine blockQ_normal ?_
      refine thenQ_normal ?_
      refine WI.seq ?_
      refine WI.regB tabPg1_ok [0, 1, 2, 9, 10] ?_
      iterate 3 refine oS ?_
      refine oG ?_
      refine oS ?_
      refine oG ?_
      refine oS ?_
      iterate 2 refine oG ?_
      iterate 2 refine oS ?_
      refine oN ?_
      refine thenQ_normal ?_
      refine WI.seq ?_
      refine WI.seq ?_
      refine WI.regB tabPg1_ok [0, 1, 2, 9, 31] ?_
      refine oS ?_
      refine oG ?_
      refine oN ?_
      refine thenQ_normal ?_
      refine WI.cond (b := _) rfl rfl (fun h2 => ?_) (fun h2 => ?_)
      · exfalso
        simp at h2
      · try simp only [zB] at h2
        refine WI.skip ?_
        refine thenQ_normal ?_
        refine WI.seq ?_
        refine WI.regB tabPg1_ok [0, 1, 2, 9] ?_
        iterate 2 refine oS ?_
        iterate 2 refine oG ?_
        refine oS ?_
        refine oN ?_
        refine thenQ_normal ?_
        refine WI.seq ?_
        refine WI.seq ?_
        refine WI.regB tabPg1_ok [0, 1, 2, 9, 39] ?_
        iterate 2 refine oS ?_
        iterate 2 refine oG ?_
        refine oN ?_
        refine thenQ_normal ?_
        refine WI.cond (b := _) rfl rfl (fun h3 => ?_) (fun h3 => ?_)
        · exfalso
          simp only [zB] at h3; omega
        · try simp only [zB] at h3
          refine WI.skip ?_
          refine thenQ_normal ?_
          refine WI.seq ?_
          refine WI.dregB tabPg1_ok [1, 2, 9] ?_
          iterate 3 refine dFS ?_
          refine dQG ?_
          iterate 3 refine dFS ?_
          refine dQG ?_
          refine dAG ?_
          refine dN ?_
          refine thenQ_normal ?_
          refine WI.seq ?_
          refine WI.regB tabPg1_ok [6, 7, 8] ?_
          iterate 2 refine oS ?_
          refine oG ?_
          refine oC ?_
          iterate 4 refine oS ?_
          refine oN ?_
          refine thenQ_normal ?_
          refine WI.ret ?_
          first | refine lfR ?_ | refine lfR2 ?_
          first | rfl | exact ⟨rfl, rfl⟩ | trivial -- leaf 0
end Go.Proofs.Ytogplpcamiicgaa
end
section
/- Pages: contracts as tables; the law's entries. -/
set_option linter.unusedSimpArgs false
set_option linter.unusedVariables false
namespace Go.Proofs.Ytogplpcamiicgaa
open Go.RowKit Go.Bo Go.Ab

def unN : List (List X) → Option (List (List UInt8))
  | [] => some []
  | [.str s, .nils] :: l => (unN l).map fun r => s :: r
  | _ => none
theorem un_N : ∀ l : List (List UInt8), unN (rowsN l) = some l
  | [] => rfl
  | s :: l => by have := un_N l; simp only [rowsN, List.map_cons, rowN, unN] at this ⊢; rw [this]; rfl
theorem unN_inv : ∀ {R : List (List X)} {l : List (List UInt8)}, unN R = some l → R = rowsN l
  | [], l, h => by cases h; rfl
  | r :: R, l, h => by
    unfold unN at h
    split at h
    · rename_i e; cases e
    · rename_i s R' e
      cases e
      obtain ⟨l', h1, rfl⟩ := Option.map_eq_some_iff.1 h
      rw [unN_inv h1]; rfl
    · cases h
def unP : List (X × List X) → Option Pg
  | [] => some []
  | (.int .i64 k, [.sl R]) :: M => (unN R).bind fun l => (unP M).map fun L => (k, l) :: L
  | _ => none
theorem un_P : ∀ L : Pg, unP (encP L) = some L
  | [] => rfl
  | p :: L => by have := un_P L; simp only [encP, List.map_cons, unP, un_N, Option.bind_some] at this ⊢; rw [this]; rfl
theorem unP_inv : ∀ {M : List (X × List X)} {L : Pg}, unP M = some L → M = encP L
  | [], L, h => by cases h; rfl
  | p :: M, L, h => by
    unfold unP at h
    split at h
    · rename_i e; cases e
    · rename_i k R M' e
      cases e
      obtain ⟨l, h1, h⟩ := Option.bind_eq_some_iff.1 h
      obtain ⟨L', h2, rfl⟩ := Option.map_eq_some_iff.1 h
      rw [unP_inv h2, unN_inv h1]; rfl
    · cases h
instance decOkB (m : Int) (L : Pg) (l : List (List UInt8)) : Decidable (okBegin m L l) := inferInstanceAs (Decidable (_ ∧ _))
def bgR (m k : Int) (L : Pg) (l : List (List UInt8)) : Int × Bool × Int × Pg := if okBegin m L l then (k + 1, true, k + 1, mset L (k + 1) l) else (0, false, k, L)
def nxR (L : Pg) (c n : Int) : List (List UInt8) × Int × Int × Pg :=
  if 1 ≤ n ∧ n ≤ 1024 then match mlook L c with
    | none => ([], 0, 8, L)
    | some l => if (l.length : Int) ≤ n then (l, 0, 0, mdel L c) else (l.take n.toNat, c, 0, mset L c (l.drop n.toNat))
  else ([], 0, 2, L)
theorem MCalls.nilR {f : FuncId} {args : List D} {os os' : List Ob} {a b : D} (h : MCalls Try.prog f args os (.tup [.x .nils, a, b]) os') : MCalls Try.prog f args os (.tup [.x (.sl []), a, b]) os' := by
  intro c E vs R hvl
  refine (h c E vs R hvl).mono ?_
  rintro e w' ⟨v, E', h1, h2, h3, h4, h5⟩
  refine ⟨v, E', h1, h2, h3, h4, ?_⟩
  cases h5 with
  | tup vs hl hv =>
    refine .tup vs (by simpa using hl) (fun j d u hd hu => ?_)
    match j with
    | 0 =>
      simp at hd; subst hd
      have := hv 0 (.x .nils) u rfl hu
      exact .x this.xx.nn
    | 1 => exact hv 1 d u (by simpa using hd) hu
    | 2 => exact hv 2 d u (by simpa using hd) hu
    | j + 3 => simp at hd
theorem begin_c (m k : Int) (L : Pg) (l : List (List UInt8)) (hk : 0 ≤ k ∧ k ≤ 1000000) (hl : l.length ≤ 1000000) : MCalls Try.prog 15 [.ptr 0 0, .x (.sl (rowsN l))] [pgB m k, pgM L] (.tup [.x (.int .i64 (bgR m k L l).1), .x (.bool (bgR m k L l).2.1)]) [pgB m (bgR m k L l).2.2.1, pgM (bgR m k L l).2.2.2] := by
  unfold bgR
  split
  · rename_i h; exact begin_ok m k L l h hk hl
  · rename_i h; exact begin_no m k L l h
theorem next_c (m k c n : Int) (L : Pg) (hl : ∀ p ∈ L, p.2.length ≤ 1000000) : MCalls Try.prog 21 [.ptr 0 0, .x (.int .i64 c), .x (.int .i64 n)] [pgB m k, pgM L] (.tup [.x (.sl (rowsN (nxR L c n).1)), .x (.int .i64 (nxR L c n).2.1), .x (.int .i64 (nxR L c n).2.2.1)]) [pgB m k, pgM (nxR L c n).2.2.2] := by
  unfold nxR
  split
  · rename_i h
    cases hL : mlook L c with
    | none => exact MCalls.nilR (next_none m k c n L h hL)
    | some l =>
      simp only
      split
      · rename_i h2; exact next_all m k c n L l h hL h2
      · rename_i h2
        have := next_part m k c n.toNat L l (by omega) hL (by omega) (hl _ (mlook_mem hL))
        rwa [Int.toNat_of_nonneg (by omega)] at this
  · rename_i h; exact MCalls.nilR (next_range m k c n L h)
theorem begin_nil (R : List (List X)) : MCalls Try.prog 15 [.x .nilp, .x (.sl R)] [] (.tup [.x (.int .i64 0), .x (.bool false)]) [] := by
  refine FCalls.mcalls (fcallsG (fz := false) G_ok (p := i15) rfl _ (Nat.le_of_ble_eq_true rfl) _ (fun c E0 => ?_))
  dsimp only [i15, argsφ]
  have uu := And.intro @tabPg1_r (And.intro @tabPg1_k (And.intro @tabPg1_q32 (And.intro @pcloneG.eq_1 (@pcloneG.eq_2))))
  refine WI.seq ?_
  refine WI.regB tabPg1_ok [0, 1] ?_
  iterate 2 refine oS ?_
  refine oN ?_
  refine thenQ_normal ?_
  refine WI.seq ?_
  refine WI.seq ?_
  refine WI.dregB tabPg1_ok [0, 1, 24] ?_
  refine dFS ?_
  refine dFG ?_
  refine dFS ?_
  refine dFG ?_
  refine dQG ?_
  iterate 2 refine dFG ?_
  refine dFS ?_
  iterate 3 refine dFG ?_
  iterate 2 refine dQG ?_
  iterate 3 refine dFG ?_
  refine dQG ?_
  iterate 2 refine dFG ?_
  refine dN ?_
  refine thenQ_normal ?_
  refine WI.cond (b := _) rfl rfl (fun h0 => ?_) (fun h0 => ?_)
  · try simp only [zB] at h0
    refine WI.seq ?_
    refine WI.regB tabPg1_ok [4, 5] ?_
    iterate 2 refine oS ?_
    refine oN ?_
    refine thenQ_normal ?_
    refine WI.ret ?_
    refine thenQ_ret ?_
    first | refine lfR ?_ | refine lfR2 ?_
    first | rfl | exact ⟨rfl, rfl⟩ | trivial -- leaf 0
  · exfalso
    simp at h0
theorem next_nil (c n : Int) : MCalls Try.prog 21 [.x .nilp, .x (.int .i64 c), .x (.int .i64 n)] [] (.tup [.x .nils, .x (.int .i64 0), .x (.int .i64 12)]) [] := by
  refine FCalls.mcalls (fcallsG (fz := false) G_ok (p := i21) rfl _ (Nat.le_of_ble_eq_true rfl) _ (fun c E0 => ?_))
  dsimp only [i21, argsφ]
  have uu := And.intro @tabPg1_r (And.intro @tabPg1_k (And.intro @tabPg1_q32 (And.intro @pcloneG.eq_1 (@pcloneG.eq_2))))
  refine WI.seq ?_
  refine WI.regB tabPg1_ok [0, 1, 2] ?_
  iterate 3 refine oS ?_
  refine oN ?_
  refine thenQ_normal ?_
  refine WI.seq ?_
  refine WI.block ?_
  refine WI.seq ?_
  refine WI.regB tabPg1_ok [0, 1, 2, 11] ?_
  refine oS ?_
  refine oG ?_
  refine oS ?_
  refine oN ?_
  refine thenQ_normal ?_
  refine WI.cond (b := _) rfl rfl (fun h0 => ?_) (fun h0 => ?_)
  · try simp only [zB] at h0
    refine WI.seq ?_
    refine WI.regB tabPg1_ok [6, 7, 8] ?_
    iterate 3 refine oS ?_
    refine oN ?_
    refine thenQ_normal ?_
    refine WI.ret ?_
    refine blockQ_ret ?_
    refine thenQ_ret ?_
    first | refine lfR ?_ | refine lfR2 ?_
    first | rfl | exact ⟨rfl, rfl⟩ | trivial -- leaf 0
  · exfalso
    simp at h0
theorem plen_nil : MCalls Try.prog 20 [.x .nilp] [] (.x (.int .i64 0)) [] := by
  refine FCalls.mcalls (fcallsG (fz := false) G_ok (p := i20) rfl _ (Nat.le_of_ble_eq_true rfl) _ (fun c E0 => ?_))
  dsimp only [i20, argsφ]
  have uu := trivial
  refine WI.seq ?_
  refine WI.regB noTabs_ok [0] ?_
  refine oS ?_
  refine oN ?_
  refine thenQ_normal ?_
  refine WI.seq ?_
  refine WI.seq ?_
  refine WI.regB noTabs_ok [0, 4] ?_
  refine oS ?_
  refine oG ?_
  refine oN ?_
  refine thenQ_normal ?_
  refine WI.cond (b := _) rfl rfl (fun h0 => ?_) (fun h0 => ?_)
  · try simp only [zB] at h0
    refine WI.seq ?_
    refine WI.regB noTabs_ok [2] ?_
    refine oS ?_
    refine oN ?_
    refine thenQ_normal ?_
    refine WI.ret ?_
    refine thenQ_ret ?_
    first | refine lfR ?_ | refine lfR2 ?_
    first | rfl | exact ⟨rfl, rfl⟩ | trivial -- leaf 0
  · exfalso
    simp at h0
theorem pdrop_nil (c : Int) : MCalls Try.prog 18 [.x .nilp, .x (.int .i64 c)] [] (.x (.bool false)) [] := by
  refine FCalls.mcalls (fcallsG (fz := false) G_ok (p := i18) rfl _ (Nat.le_of_ble_eq_true rfl) _ (fun c E0 => ?_))
  dsimp only [i18, argsφ]
  have uu := trivial
  refine WI.seq ?_
  refine WI.regB noTabs_ok [0, 1] ?_
  refine oS ?_
  refine oN ?_
  refine thenQ_normal ?_
  refine WI.seq ?_
  refine WI.seq ?_
  refine WI.regB noTabs_ok [0, 1, 8] ?_
  refine oS ?_
  refine oG ?_
  refine oN ?_
  refine thenQ_normal ?_
  refine WI.cond (b := _) rfl rfl (fun h0 => ?_) (fun h0 => ?_)
  · try simp only [zB] at h0
    refine WI.seq ?_
    refine WI.regB noTabs_ok [4] ?_
    refine oS ?_
    refine oN ?_
    refine thenQ_normal ?_
    refine WI.ret ?_
    refine thenQ_ret ?_
    first | refine lfR ?_ | refine lfR2 ?_
    first | rfl | exact ⟨rfl, rfl⟩ | trivial -- leaf 0
  · exfalso
    simp at h0
def newT38 : List D → List Ob → Option (Bool × D × List Ob)
  | [.x (.int .i64 m)], [] => if 1 ≤ m ∧ m ≤ 1024 then some (true, .tup [.ptr 1 0, .x (.int .i64 0)], [pgM [], .box [.mref 0, .x (.int .i64 m), .x (.int .i64 0)]]) else some (true, .tup [.x .nilp, .x (.int .i64 1)], [])
  | _, _ => none
theorem newT38_ok : ∀ args os r os', newT38 args os = some (true, r, os') → MCalls Try.prog 13 args os r os' := by
  intro args os r os' h
  unfold newT38 at h
  split at h
  · split at h
    · rename_i hm; cases h; exact new38_ok _ hm
    · rename_i hm; cases h; exact new38_bad _ hm
  · cases h
def beginT : List D → List Ob → Option (Bool × D × List Ob)
  | [.ptr 0 0, .x (.sl R)], [.box [.mref 1, .x (.int .i64 m), .x (.int .i64 k)], .mpo (some .i64) false M] => (unN R).bind fun l => (unP M).map fun L =>
      (decide (0 ≤ k ∧ k ≤ 1000000 ∧ l.length ≤ 1000000), .tup [.x (.int .i64 (bgR m k L l).1), .x (.bool (bgR m k L l).2.1)], [pgB m (bgR m k L l).2.2.1, pgM (bgR m k L l).2.2.2])
  | [.x .nilp, .x (.sl R)], [] => some (true, .tup [.x (.int .i64 0), .x (.bool false)], [])
  | _, _ => none
theorem beginT_ok : ∀ args os r os', beginT args os = some (true, r, os') → MCalls Try.prog 15 args os r os' := by
  intro args os r os' h
  unfold beginT at h
  split at h
  · obtain ⟨l, h1, h⟩ := Option.bind_eq_some_iff.1 h
    obtain ⟨L, h2, h⟩ := Option.map_eq_some_iff.1 h
    simp only [Prod.mk.injEq, decide_eq_true_eq] at h
    obtain ⟨⟨h3, h4, h5⟩, rfl, rfl⟩ := h
    rw [unN_inv h1, unP_inv h2]
    exact begin_c _ _ _ _ ⟨h3, h4⟩ h5
  · cases h; exact begin_nil _
  · cases h
def nextT : List D → List Ob → Option (Bool × D × List Ob)
  | [.ptr 0 0, .x (.int .i64 c), .x (.int .i64 n)], [.box [.mref 1, .x (.int .i64 m), .x (.int .i64 k)], .mpo (some .i64) false M] => (unP M).map fun L =>
      (decide (∀ p ∈ L, p.2.length ≤ 1000000), .tup [.x (.sl (rowsN (nxR L c n).1)), .x (.int .i64 (nxR L c n).2.1), .x (.int .i64 (nxR L c n).2.2.1)], [pgB m k, pgM (nxR L c n).2.2.2])
  | [.x .nilp, .x (.int .i64 c), .x (.int .i64 n)], [] => some (true, .tup [.x .nils, .x (.int .i64 0), .x (.int .i64 12)], [])
  | _, _ => none
theorem nextT_ok : ∀ args os r os', nextT args os = some (true, r, os') → MCalls Try.prog 21 args os r os' := by
  intro args os r os' h
  unfold nextT at h
  split at h
  · obtain ⟨L, h2, h⟩ := Option.map_eq_some_iff.1 h
    simp only [Prod.mk.injEq, decide_eq_true_eq] at h
    obtain ⟨h3, rfl, rfl⟩ := h
    rw [unP_inv h2]
    exact next_c _ _ _ _ _ h3
  · cases h; exact next_nil _ _
  · cases h
def plenT : List D → List Ob → Option (Bool × D × List Ob)
  | [.ptr 0 0], [.box [.mref 1, .x (.int .i64 m), .x (.int .i64 k)], .mpo (some .i64) false M] => (unP M).map fun L => (true, .x (.int .i64 L.length), [pgB m k, pgM L])
  | [.x .nilp], [] => some (true, .x (.int .i64 0), [])
  | _, _ => none
theorem plenT_ok : ∀ args os r os', plenT args os = some (true, r, os') → MCalls Try.prog 20 args os r os' := by
  intro args os r os' h
  unfold plenT at h
  split at h
  · obtain ⟨L, h2, h⟩ := Option.map_eq_some_iff.1 h
    cases h
    rw [unP_inv h2]
    exact plen_c _ _ _
  · cases h; exact plen_nil
  · cases h
def pdropT : List D → List Ob → Option (Bool × D × List Ob)
  | [.ptr 0 0, .x (.int .i64 c)], [.box [.mref 1, .x (.int .i64 m), .x (.int .i64 k)], .mpo (some .i64) false M] => (unP M).map fun L => (true, .x (.bool (mlook L c).isSome), [pgB m k, pgM (mdel L c)])
  | [.x .nilp, .x (.int .i64 c)], [] => some (true, .x (.bool false), [])
  | _, _ => none
theorem pdropT_ok : ∀ args os r os', pdropT args os = some (true, r, os') → MCalls Try.prog 18 args os r os' := by
  intro args os r os' h
  unfold pdropT at h
  split at h
  · obtain ⟨L, h2, h⟩ := Option.map_eq_some_iff.1 h
    cases h
    rw [unP_inv h2]
    exact pdrop_c _ _ _ _
  · cases h; exact pdrop_nil _
  · cases h
/-- The law's names. -/
def nm (i : Nat) : List UInt8 := [UInt8.ofNat (97 + i % 26)]
def nms (n : Nat) : List (List UInt8) := (List.range n).map nm
theorem nms_len (n : Nat) : (nms n).length = n := by simp [nms]
theorem nms_succ (n : Nat) : nms (n + 1) = nms n ++ [nm n] := by simp [nms, List.range_succ]
theorem nms_get (n i : Nat) (h : i < (nms n).length) : (nms n)[i] = nm i := by simp [nms]
theorem wrap_let (x : Nat) : IntKind.u8.wrap (97 + ((x % 26 : Nat) : Int)) = ((UInt8.ofNat (97 + x % 26)).toNat : Int) := by
  have h : x % 26 < 26 := Nat.mod_lt _ (by omega)
  rw [IntWalk.u8_in _ (by omega), UInt8.toNat_ofNat']
  omega
theorem some_c (n : Int) (h : n ≤ 100000) : PCalls Try.prog 14 [.x (.int .i64 n)] (.x (.sl (rowsN (nms n.toNat)))) := by
  refine FCalls.pure (fcallsG (fz := true) G_ok (p := i14) rfl _ (Nat.le_of_ble_eq_true rfl) _ (fun C0 E0 => ?_)) rfl
  dsimp only [i14, argsφ]
  have uu := trivial
  refine WI.seq ?_
  refine WI.regB noTabs_ok [0] ?_
  refine oS ?_
  refine oN ?_
  refine thenQ_normal ?_
  refine WI.seq ?_
  refine WI.regB noTabs_ok [0, 3] ?_
  refine oS ?_
  refine oN ?_
  refine thenQ_normal ?_
  refine WI.seq ?_
  refine WI.seq ?_
  refine WI.regB noTabs_ok [0, 3, 4] ?_
  refine oS ?_
  refine oN ?_
  refine thenQ_normal ?_
  refine WI.block ?_
  refine WI.ownA 3 38 2 ?_
  refine WI.loop (fun φ os => ∃ (j : Nat) (rs : List (List X)), φ = [(0, .x (.int .i64 n)), (3, .ref 0 rs.length 0 rs.length), (4, .x (.int .i64 j))] ∧ os = [.rows false 38 2 rs] ∧ rs = rowsN (nms j) ∧ rs.length = j ∧ (j : Int) ≤ max n 0) (down n.toNat 4) ?_ (fun φ os hI => ?_)
  · exact ⟨0, [], rfl, rfl, rfl, rfl, by omega⟩
  · obtain ⟨j, rs, rfl, rfl, hrs, hrl, hj⟩ := hI
    refine WI.seq ?_
    refine WI.seq ?_
    refine WI.regB noTabs_ok [0, 3, 4, 7] ?_
    iterate 2 refine oS ?_
    refine oG ?_
    refine oN ?_
    refine thenQ_normal ?_
    refine WI.cond (b := _) rfl rfl (fun h0 => ?_) (fun h0 => ?_)
    · try simp only [zB] at h0
      refine WI.skip ?_
      refine thenQ_normal ?_
      refine WI.seq ?_
      refine WI.block ?_
      have e2 : (j : Int).tmod 26 = ((j % 26 : Nat) : Int) := (Int.ofNat_tmod j 26).symm
      have e3 := wrap_let j
      have uu := And.intro e2 e3
      have e4 : rowN (nm j) = [X.str [rowByte [X.int .u8 ((UInt8.ofNat (97 + j % 26)).toNat : Int)]], X.nils] := by rw [show rowByte [X.int .u8 ((UInt8.ofNat (97 + j % 26)).toNat : Int)] = _ from br_of _]; rfl
      refine WI.regB noTabs_ok [0, 3, 4] ?_
      iterate 2 refine oS ?_
      iterate 8 refine oG ?_
      refine oS ?_
      refine oN ?_
      refine blockQ_normal ?_
      refine thenQ_normal ?_
      refine WI.post ?_
      refine WI.regB noTabs_ok [0, 3, 4] ?_
      refine oS ?_
      refine oG ?_
      refine oS ?_
      refine oP ?_
      refine pPick [0] ?_
      refine pEnd ?_
      refine thenQ_normal ?_
      exact ⟨⟨j + 1, rs ++ [rowN (nm j)], by simp, by rw [e4], by rw [hrs, nms_succ]; simp [rowsN], by simp [hrl], by omega⟩, by simp [down, Ab.get, D.val, intOf?]; omega⟩
    · try simp only [zB] at h0
      refine WI.exit ?_
      refine thenQ_exit ?_
      refine thenQ_exit ?_
      refine blockQ_hit ?_
      refine thenQ_normal ?_
      refine WI.seq ?_
      refine WI.regB noTabs_ok [2] ?_
      iterate 2 refine oS ?_
      refine oN ?_
      refine thenQ_normal ?_
      refine WI.nnA ?_
      refine WI.ret ?_
      first | refine lfR ?_ | refine lfR2 ?_
      rw [hrs, show j = n.toNat by omega] -- leaf 0
def someG : List D → Option (Bool × D)
  | [.x (.int .i64 n)] => some (decide (n ≤ 100000), .x (.sl (rowsN (nms n.toNat))))
  | _ => none
theorem someG_ok : ∀ args r, someG args = some (true, r) → PCalls Try.prog 14 args r := by
  intro args r h
  unfold someG at h
  split at h
  · rename_i n
    simp only [Option.some.injEq, Prod.mk.injEq, Bool.and_eq_true, decide_eq_true_eq, true_and] at h
    obtain ⟨h1, rfl⟩ := h
    exact some_c n h1
  · cases h
end Go.Proofs.Ytogplpcamiicgaa
end
section
/- Pages: the example; a pager that is none; all parts. -/
set_option linter.unusedSimpArgs false
set_option linter.unusedVariables false
namespace Go.Proofs.Ytogplpcamiicgaa
open Go.RowKit Go.Bo Go.Ab

def tabPg4 : Tabs := addQ (addT (addT (addT (addT (addT (noTabs) 13 newT38) 15 beginT) 21 nextT) 20 plenT) 18 pdropT) 14 someG
theorem tabPg4_ok : SsOk Try.prog tabPg4 := addQ_ok (addT_ok (addT_ok (addT_ok (addT_ok (addT_ok (noTabs_ok) (G_enters G_ok (p := i13) rfl) newT38_ok) (G_enters G_ok (p := i15) rfl) beginT_ok) (G_enters G_ok (p := i21) rfl) nextT_ok) (G_enters G_ok (p := i20) rfl) plenT_ok) (G_enters G_ok (p := i18) rfl) pdropT_ok) (G_enters G_ok (p := i14) rfl) someG_ok
theorem tabPg4_q13 (a : List D) : tabPg4.q 13 a = none := rfl
theorem tabPg4_t13 (a : List D) (o : List Ob) : tabPg4.t 13 a o = liftT newT38 a o := rfl
theorem tabPg4_q15 (a : List D) : tabPg4.q 15 a = none := rfl
theorem tabPg4_t15 (a : List D) (o : List Ob) : tabPg4.t 15 a o = liftT beginT a o := rfl
theorem tabPg4_q21 (a : List D) : tabPg4.q 21 a = none := rfl
theorem tabPg4_t21 (a : List D) (o : List Ob) : tabPg4.t 21 a o = liftT nextT a o := rfl
theorem tabPg4_q20 (a : List D) : tabPg4.q 20 a = none := rfl
theorem tabPg4_t20 (a : List D) (o : List Ob) : tabPg4.t 20 a o = liftT plenT a o := rfl
theorem tabPg4_q18 (a : List D) : tabPg4.q 18 a = none := rfl
theorem tabPg4_t18 (a : List D) (o : List Ob) : tabPg4.t 18 a o = liftT pdropT a o := rfl
theorem tabPg4_q14 (a : List D) : tabPg4.q 14 a = someG a := rfl
theorem tabPg4_r (f : FuncId) (a : List D) (o : List Ob) : tabPg4.r f a o = none := rfl
theorem tabPg4_k (f : FuncId) (a : List D) (o : List Ob) : tabPg4.k f a o = none := rfl
theorem s38a : bgR 1 0 [] (nms 3) = (1, true, 1, [(1, [[97], [98], [99]])]) := by kernel_rfl
theorem s38b : bgR 1 1 [(1, [[97], [98], [99]])] (nms 1) = (0, false, 1, [(1, [[97], [98], [99]])]) := by kernel_rfl
theorem s38c : nxR [(1, [[97], [98], [99]])] 1 2 = ([[97], [98]], 1, 0, [(1, [[99]])]) := by kernel_rfl
theorem s38d : nxR [(1, [[99]])] 1 2 = ([[99]], 0, 0, []) := by kernel_rfl
theorem s38e : nxR [] 1 2 = ([], 0, 8, []) := by kernel_rfl
theorem awake38_c : PCalls Try.prog 12 [] (.x (.bool true)) := by
  have l3 : (nms 3).length ≤ 1000000 := by rw [nms_len]; omega
  have l1 : (nms 1).length ≤ 1000000 := by rw [nms_len]; omega
  refine FCalls.pure (fcallsG (fz := true) G_ok (p := i12) rfl _ (Nat.le_of_ble_eq_true rfl) _ (fun C0 E0 => ?_)) rfl
  dsimp only [i12, argsφ]
  have uu := And.intro @newT38.eq_1 (And.intro @newT38.eq_2 (And.intro @beginT.eq_1 (And.intro @nextT.eq_1 (And.intro @nextT.eq_2 (And.intro @plenT.eq_1 (And.intro @plenT.eq_2 (And.intro @plenT.eq_3 (And.intro @pdropT.eq_1 (And.intro @pdropT.eq_2 (And.intro @pdropT.eq_3 (And.intro @someG.eq_1 (And.intro @someG.eq_2 (And.intro @un_N (And.intro @un_P (And.intro @rowsN_len (And.intro @s38a (And.intro @s38b (And.intro @s38c (And.intro @s38d (And.intro @s38e (And.intro @tabPg4_r (And.intro @tabPg4_k (And.intro @tabPg4_q13 (And.intro @tabPg4_q14 (And.intro @tabPg4_q15 (And.intro @tabPg4_q18 (And.intro @tabPg4_q20 (And.intro @tabPg4_q21 (And.intro @tabPg4_t13 (And.intro @tabPg4_t15 (And.intro @tabPg4_t21 (And.intro @tabPg4_t20 (@tabPg4_t18)))))))))))))))))))))))))))))))))
  refine WI.seq ?_
  refine WI.regB tabPg4_ok [] ?_
  refine oS ?_
  refine oN ?_
  refine thenQ_normal ?_
  refine WI.seq ?_
  refine WI.regB tabPg4_ok [1, 2] ?_
  refine oC (hok := by first | with_reducible rfl | omega | (simp [nms_len]; done) | (simp [nms_len]; omega) | (exact decide_eq_true (by simp)) | (simp; done) | (simp; omega) | rfl) ?_
  refine oS ?_
  iterate 2 refine oG (hok := by first | with_reducible rfl | omega | (simp [nms_len]; done) | (simp [nms_len]; omega) | (exact decide_eq_true (by simp)) | (simp; done) | (simp; omega) | rfl) ?_
  iterate 2 refine oS ?_
  refine oN ?_
  refine thenQ_normal ?_
  refine WI.seq ?_
  refine WI.regB tabPg4_ok [1, 2, 4] ?_
  refine oC (hok := by first | with_reducible rfl | omega | (simp [nms_len]; done) | (simp [nms_len]; omega) | (exact decide_eq_true (by simp)) | (simp; done) | (simp; omega) | rfl) ?_
  refine oS ?_
  iterate 2 refine oG (hok := by first | with_reducible rfl | omega | (simp [nms_len]; done) | (simp [nms_len]; omega) | (exact decide_eq_true (by simp)) | (simp; done) | (simp; omega) | rfl) ?_
  iterate 2 refine oS ?_
  refine oN ?_
  refine thenQ_normal ?_
  refine WI.seq ?_
  refine WI.seq ?_
  refine WI.regB tabPg4_ok [1, 2, 4, 27] ?_
  refine oS ?_
  refine oG (hok := by first | with_reducible rfl | omega | (simp [nms_len]; done) | (simp [nms_len]; omega) | (exact decide_eq_true (by simp)) | (simp; done) | (simp; omega) | rfl) ?_
  refine oN ?_
  refine thenQ_normal ?_
  refine WI.cond (b := _) rfl rfl (fun h0 => ?_) (fun h0 => ?_)
  · try simp only [zB] at h0
    refine WI.seq ?_
    refine WI.regB tabPg4_ok [0] ?_
    refine oS ?_
    refine oN ?_
    refine thenQ_normal ?_
    refine WI.ret ?_
    refine thenQ_ret ?_
    first | refine lfR ?_ | refine lfR2 ?_
    first | rfl | exact ⟨rfl, rfl⟩ | trivial -- leaf 0
  · try simp only [zB] at h0
    refine WI.skip ?_
    refine thenQ_normal ?_
    refine WI.seq ?_
    refine WI.regB tabPg4_ok [1, 2, 4, 5, 6] ?_
    refine oS ?_
    iterate 2 refine oC (hok := by first | with_reducible rfl | omega | (simp [nms_len]; done) | (simp [nms_len]; omega) | (exact decide_eq_true (by simp)) | (simp; done) | (simp; omega) | rfl) ?_
    refine oS ?_
    iterate 2 refine oG (hok := by first | with_reducible rfl | omega | (simp [nms_len]; done) | (simp [nms_len]; omega) | (exact decide_eq_true (by simp)) | (simp; done) | (simp; omega) | rfl) ?_
    iterate 2 refine oS ?_
    refine oN ?_
    refine thenQ_normal ?_
    refine WI.seq ?_
    refine WI.regB tabPg4_ok [1, 2, 4, 5, 6, 8] ?_
    refine oS ?_
    iterate 2 refine oC (hok := by first | with_reducible rfl | omega | (simp [nms_len]; done) | (simp [nms_len]; omega) | (exact decide_eq_true (by simp)) | (simp; done) | (simp; omega) | rfl) ?_
    refine oS ?_
    iterate 2 refine oG (hok := by first | with_reducible rfl | omega | (simp [nms_len]; done) | (simp [nms_len]; omega) | (exact decide_eq_true (by simp)) | (simp; done) | (simp; omega) | rfl) ?_
    iterate 2 refine oS ?_
    refine oN ?_
    refine thenQ_normal ?_
    refine WI.seq ?_
    refine WI.regB tabPg4_ok [1, 2, 4, 5, 6, 8, 9, 10, 11] ?_
    iterate 2 refine oS ?_
    refine oC (hok := by first | with_reducible rfl | omega | (simp [nms_len]; done) | (simp [nms_len]; omega) | (exact decide_eq_true (by simp)) | (simp; done) | (simp; omega) | rfl) ?_
    refine oS ?_
    iterate 3 refine oG (hok := by first | with_reducible rfl | omega | (simp [nms_len]; done) | (simp [nms_len]; omega) | (exact decide_eq_true (by simp)) | (simp; done) | (simp; omega) | rfl) ?_
    iterate 3 refine oS ?_
    refine oN ?_
    refine thenQ_normal ?_
    refine WI.seq ?_
    refine WI.regB tabPg4_ok [1, 2, 4, 5, 6, 8, 9, 10, 11, 12, 13, 14] ?_
    iterate 2 refine oS ?_
    refine oC (hok := by first | with_reducible rfl | omega | (simp [nms_len]; done) | (simp [nms_len]; omega) | (exact decide_eq_true (by simp)) | (simp; done) | (simp; omega) | rfl) ?_
    refine oS ?_
    iterate 3 refine oG (hok := by first | with_reducible rfl | omega | (simp [nms_len]; done) | (simp [nms_len]; omega) | (exact decide_eq_true (by simp)) | (simp; done) | (simp; omega) | rfl) ?_
    iterate 3 refine oS ?_
    refine oN ?_
    refine thenQ_normal ?_
    refine WI.seq ?_
    refine WI.regB tabPg4_ok [1, 2, 4, 5, 6, 8, 9, 10, 11, 12, 13, 14, 17] ?_
    iterate 2 refine oS ?_
    refine oC (hok := by first | with_reducible rfl | omega | (simp [nms_len]; done) | (simp [nms_len]; omega) | (exact decide_eq_true (by simp)) | (simp; done) | (simp; omega) | rfl) ?_
    refine oS ?_
    iterate 3 refine oG (hok := by first | with_reducible rfl | omega | (simp [nms_len]; done) | (simp [nms_len]; omega) | (exact decide_eq_true (by simp)) | (simp; done) | (simp; omega) | rfl) ?_
    iterate 3 refine oS ?_
    refine oN ?_
    refine thenQ_normal ?_
    refine WI.seq ?_
    refine WI.regB tabPg4_ok [0] ?_
    refine oS ?_
    refine oG (hok := by first | with_reducible rfl | omega | (simp [nms_len]; done) | (simp [nms_len]; omega) | (exact decide_eq_true (by simp)) | (simp; done) | (simp; omega) | rfl) ?_
    refine oS ?_
    iterate 3 refine oG (hok := by first | with_reducible rfl | omega | (simp [nms_len]; done) | (simp [nms_len]; omega) | (exact decide_eq_true (by simp)) | (simp; done) | (simp; omega) | rfl) ?_
    refine oS ?_
    iterate 3 refine oG (hok := by first | with_reducible rfl | omega | (simp [nms_len]; done) | (simp [nms_len]; omega) | (exact decide_eq_true (by simp)) | (simp; done) | (simp; omega) | rfl) ?_
    refine oS ?_
    iterate 2 refine oG (hok := by first | with_reducible rfl | omega | (simp [nms_len]; done) | (simp [nms_len]; omega) | (exact decide_eq_true (by simp)) | (simp; done) | (simp; omega) | rfl) ?_
    refine oS ?_
    iterate 3 refine oG (hok := by first | with_reducible rfl | omega | (simp [nms_len]; done) | (simp [nms_len]; omega) | (exact decide_eq_true (by simp)) | (simp; done) | (simp; omega) | rfl) ?_
    refine oS ?_
    iterate 4 refine oG (hok := by first | with_reducible rfl | omega | (simp [nms_len]; done) | (simp [nms_len]; omega) | (exact decide_eq_true (by simp)) | (simp; done) | (simp; omega) | rfl) ?_
    refine oS ?_
    iterate 3 refine oG (hok := by first | with_reducible rfl | omega | (simp [nms_len]; done) | (simp [nms_len]; omega) | (exact decide_eq_true (by simp)) | (simp; done) | (simp; omega) | rfl) ?_
    refine oS ?_
    iterate 3 refine oG (hok := by first | with_reducible rfl | omega | (simp [nms_len]; done) | (simp [nms_len]; omega) | (exact decide_eq_true (by simp)) | (simp; done) | (simp; omega) | rfl) ?_
    refine oS ?_
    iterate 4 refine oG (hok := by first | with_reducible rfl | omega | (simp [nms_len]; done) | (simp [nms_len]; omega) | (exact decide_eq_true (by simp)) | (simp; done) | (simp; omega) | rfl) ?_
    refine oS ?_
    iterate 3 refine oG (hok := by first | with_reducible rfl | omega | (simp [nms_len]; done) | (simp [nms_len]; omega) | (exact decide_eq_true (by simp)) | (simp; done) | (simp; omega) | rfl) ?_
    refine oS ?_
    iterate 3 refine oG (hok := by first | with_reducible rfl | omega | (simp [nms_len]; done) | (simp [nms_len]; omega) | (exact decide_eq_true (by simp)) | (simp; done) | (simp; omega) | rfl) ?_
    refine oS ?_
    iterate 3 refine oG (hok := by first | with_reducible rfl | omega | (simp [nms_len]; done) | (simp [nms_len]; omega) | (exact decide_eq_true (by simp)) | (simp; done) | (simp; omega) | rfl) ?_
    refine oS ?_
    refine oG (hok := by first | with_reducible rfl | omega | (simp [nms_len]; done) | (simp [nms_len]; omega) | (exact decide_eq_true (by simp)) | (simp; done) | (simp; omega) | rfl) ?_
    refine oC (hok := by first | with_reducible rfl | omega | (simp [nms_len]; done) | (simp [nms_len]; omega) | (exact decide_eq_true (by simp)) | (simp; done) | (simp; omega) | rfl) ?_
    iterate 2 refine oG (hok := by first | with_reducible rfl | omega | (simp [nms_len]; done) | (simp [nms_len]; omega) | (exact decide_eq_true (by simp)) | (simp; done) | (simp; omega) | rfl) ?_
    refine oS ?_
    refine oG (hok := by first | with_reducible rfl | omega | (simp [nms_len]; done) | (simp [nms_len]; omega) | (exact decide_eq_true (by simp)) | (simp; done) | (simp; omega) | rfl) ?_
    refine oC (hok := by first | with_reducible rfl | omega | (simp [nms_len]; done) | (simp [nms_len]; omega) | (exact decide_eq_true (by simp)) | (simp; done) | (simp; omega) | rfl) ?_
    iterate 2 refine oG (hok := by first | with_reducible rfl | omega | (simp [nms_len]; done) | (simp [nms_len]; omega) | (exact decide_eq_true (by simp)) | (simp; done) | (simp; omega) | rfl) ?_
    refine oS ?_
    refine oN ?_
    refine thenQ_normal ?_
    refine WI.ret ?_
    first | refine lfR ?_ | refine lfR2 ?_
    first | rfl | exact ⟨rfl, rfl⟩ | trivial -- leaf 1
def awake38G : List D → Option (Bool × D)
  | [] => some (true, .x (.bool true))
  | _ => none
theorem awake38G_ok : ∀ args r, awake38G args = some (true, r) → PCalls Try.prog 12 args r := by
  intro args r h
  unfold awake38G at h
  split at h
  · simp only [Option.some.injEq, Prod.mk.injEq, Bool.and_eq_true, decide_eq_true_eq, true_and] at h
    obtain rfl := h
    exact awake38_c 
  · cases h
def tabPg5 : Tabs := addQ (addQ (addT (addT (addT (addT (addT (noTabs) 13 newT38) 15 beginT) 21 nextT) 20 plenT) 18 pdropT) 14 someG) 12 awake38G
theorem tabPg5_ok : SsOk Try.prog tabPg5 := addQ_ok (addQ_ok (addT_ok (addT_ok (addT_ok (addT_ok (addT_ok (noTabs_ok) (G_enters G_ok (p := i13) rfl) newT38_ok) (G_enters G_ok (p := i15) rfl) beginT_ok) (G_enters G_ok (p := i21) rfl) nextT_ok) (G_enters G_ok (p := i20) rfl) plenT_ok) (G_enters G_ok (p := i18) rfl) pdropT_ok) (G_enters G_ok (p := i14) rfl) someG_ok) (G_enters G_ok (p := i12) rfl) awake38G_ok
theorem tabPg5_q13 (a : List D) : tabPg5.q 13 a = none := rfl
theorem tabPg5_t13 (a : List D) (o : List Ob) : tabPg5.t 13 a o = liftT newT38 a o := rfl
theorem tabPg5_q15 (a : List D) : tabPg5.q 15 a = none := rfl
theorem tabPg5_t15 (a : List D) (o : List Ob) : tabPg5.t 15 a o = liftT beginT a o := rfl
theorem tabPg5_q21 (a : List D) : tabPg5.q 21 a = none := rfl
theorem tabPg5_t21 (a : List D) (o : List Ob) : tabPg5.t 21 a o = liftT nextT a o := rfl
theorem tabPg5_q20 (a : List D) : tabPg5.q 20 a = none := rfl
theorem tabPg5_t20 (a : List D) (o : List Ob) : tabPg5.t 20 a o = liftT plenT a o := rfl
theorem tabPg5_q18 (a : List D) : tabPg5.q 18 a = none := rfl
theorem tabPg5_t18 (a : List D) (o : List Ob) : tabPg5.t 18 a o = liftT pdropT a o := rfl
theorem tabPg5_q14 (a : List D) : tabPg5.q 14 a = someG a := rfl
theorem tabPg5_q12 (a : List D) : tabPg5.q 12 a = awake38G a := rfl
theorem tabPg5_r (f : FuncId) (a : List D) (o : List Ob) : tabPg5.r f a o = none := rfl
theorem tabPg5_k (f : FuncId) (a : List D) (o : List Ob) : tabPg5.k f a o = none := rfl
theorem pagesNone_c (d : Int × Int × Int × Unit) : PCalls Try.prog 4 [.agg [.x (.int .i64 d.1), .x (.int .i64 d.2.1), .x (.int .i64 d.2.2.1)]] (.x (.bool true)) := by
  refine FCalls.pure (fcallsG (fz := true) G_ok (p := i4) rfl _ (Nat.le_of_ble_eq_true rfl) _ (fun C0 E0 => ?_)) rfl
  dsimp only [i4, argsφ]
  have uu := And.intro @beginT.eq_1 (And.intro @nextT.eq_1 (And.intro @nextT.eq_2 (And.intro @plenT.eq_1 (And.intro @plenT.eq_2 (And.intro @plenT.eq_3 (And.intro @pdropT.eq_1 (And.intro @pdropT.eq_2 (And.intro @pdropT.eq_3 (And.intro @someG.eq_1 (And.intro @someG.eq_2 (And.intro @awake38G.eq_1 (And.intro @awake38G.eq_2 (And.intro @tabPg5_r (And.intro @tabPg5_k (And.intro @tabPg5_q12 (And.intro @tabPg5_q13 (And.intro @tabPg5_q14 (And.intro @tabPg5_q15 (And.intro @tabPg5_q18 (And.intro @tabPg5_q20 (And.intro @tabPg5_q21 (And.intro @tabPg5_t13 (And.intro @tabPg5_t15 (And.intro @tabPg5_t21 (And.intro @tabPg5_t20 (And.intro @tabPg5_t18 (And.intro @newT38.eq_1 (@newT38.eq_2))))))))))))))))))))))))))))
  refine WI.seq ?_
  refine WI.regB tabPg5_ok [1] ?_
  refine oG ?_
  refine oS ?_
  refine oN ?_
  refine thenQ_normal ?_
  refine WI.seq ?_
  refine WI.regB tabPg5_ok [1, 3] ?_
  refine oS ?_
  refine oN ?_
  refine thenQ_normal ?_
  refine WI.seq ?_
  refine WI.regB tabPg5_ok [1, 3, 4, 5] ?_
  refine oS ?_
  iterate 2 refine oC ?_
  refine oS ?_
  iterate 2 refine oG ?_
  iterate 2 refine oS ?_
  refine oN ?_
  refine thenQ_normal ?_
  refine WI.seq ?_
  refine WI.regB tabPg5_ok [1, 3, 4, 5, 6, 7, 8] ?_
  iterate 2 refine oS ?_
  refine oG ?_
  refine oS ?_
  refine oG ?_
  refine oC ?_
  refine oS ?_
  iterate 3 refine oG ?_
  iterate 3 refine oS ?_
  refine oN ?_
  refine thenQ_normal ?_
  refine WI.seq ?_
  refine WI.regB tabPg5_ok [2] ?_
  iterate 2 refine oS ?_
  refine oG ?_
  refine oS ?_
  iterate 2 refine oG ?_
  refine oS ?_
  refine oC ?_
  iterate 2 refine oG ?_
  refine oS ?_
  iterate 3 refine oG ?_
  refine oS ?_
  iterate 3 refine oG ?_
  refine oS ?_
  iterate 3 refine oG ?_
  refine oC ?_
  iterate 2 refine oG ?_
  refine oS ?_
  refine oC ?_
  refine oG ?_
  refine oS ?_
  refine oN ?_
  refine thenQ_normal ?_
  refine WI.ret ?_
  first | refine lfR ?_ | refine lfR2 ?_
  first | rfl | exact ⟨rfl, rfl⟩ | trivial -- leaf 0
/-- The next ones of what is left. -/
theorem nx_left (R : List (List UInt8)) (n : Int) (hn : 1 ≤ n ∧ n ≤ 1024) (hR : R ≠ []) : ∃ (m : List (List UInt8)) (d : Int) (L : Pg), nxR [(1, R)] 1 n = (m, d, 0, L) ∧ m = R.take m.length ∧ m.length ≤ R.length ∧ ((d = 0 ∧ m.length = R.length ∧ L = []) ∨ (d = 1 ∧ m.length < R.length ∧ L = [(1, R.drop m.length)])) := by
  have hl : mlook [((1 : Int), R)] 1 = some R := by simp [mlook]
  unfold nxR
  rw [if_pos hn, hl]
  simp only
  split
  · rename_i h
    exact ⟨R, 0, _, rfl, by simp, Nat.le_refl _, .inl ⟨rfl, rfl, by simp [mdel]⟩⟩
  · rename_i h
    have e : (R.take n.toNat).length = n.toNat := by rw [List.length_take]; omega
    exact ⟨R.take n.toNat, 1, _, rfl, by rw [e], by omega, .inr ⟨rfl, by omega, by rw [e]; simp [mset]⟩⟩
theorem bg_all (l : List (List UInt8)) (h : l ≠ []) : bgR 4 0 [] l = (1, true, 1, [(1, l)]) := by
  unfold bgR; rw [if_pos ⟨h, by simp⟩]; rfl
theorem toNat_add (a b : Nat) : ((a : Int) + (b : Int)).toNat = a + b := by omega
theorem bg_none : bgR 4 0 [] (nms 0) = (0, false, 0, []) := rfl
theorem pagesAll_c (n : Int) (hn : 0 ≤ n ∧ n ≤ 255) (st : List Int) (hs : ∀ z ∈ st, 0 ≤ z ∧ z ≤ 255) : PCalls Try.prog 5 [.x (.int .u8 n), .x (.sl (rows (rInt .u8) st))] (.x (.bool true)) := by
  by_cases h0 : n = 0
  · subst h0
    have hb := bg_none
    refine FCalls.pure (fcallsG (fz := true) G_ok (p := i5) rfl _ (Nat.le_of_ble_eq_true rfl) _ (fun C0 E0 => ?_)) rfl
    dsimp only [i5, argsφ]
    have uu := And.intro @newT38.eq_1 (And.intro @newT38.eq_2 (And.intro @beginT.eq_1 (And.intro @nextT.eq_1 (And.intro @nextT.eq_2 (And.intro @plenT.eq_1 (And.intro @plenT.eq_2 (And.intro @plenT.eq_3 (And.intro @pdropT.eq_1 (And.intro @pdropT.eq_2 (And.intro @pdropT.eq_3 (And.intro @someG.eq_1 (And.intro @someG.eq_2 (And.intro @awake38G.eq_1 (And.intro @awake38G.eq_2 (And.intro @un_N (And.intro @un_P (And.intro @rowsN_len (And.intro hb (And.intro @tabPg5_r (And.intro @tabPg5_k (And.intro @tabPg5_q12 (And.intro @tabPg5_q13 (And.intro @tabPg5_q14 (And.intro @tabPg5_q15 (And.intro @tabPg5_q18 (And.intro @tabPg5_q20 (And.intro @tabPg5_q21 (And.intro @tabPg5_t13 (And.intro @tabPg5_t15 (And.intro @tabPg5_t21 (And.intro @tabPg5_t20 (@tabPg5_t18))))))))))))))))))))))))))))))))
    refine WI.seq ?_
    refine WI.regB tabPg5_ok [0, 1] ?_
    refine oS ?_
    refine oN ?_
    refine thenQ_normal ?_
    refine WI.seq ?_
    refine WI.regB tabPg5_ok [0, 1, 5] ?_
    refine oC (hok := by first | with_reducible rfl | omega | (simp [nms_len]; done) | (simp [nms_len]; omega) | (simp; done) | (simp; omega) | rfl) ?_
    refine oS ?_
    iterate 2 refine oG (hok := by first | with_reducible rfl | omega | (simp [nms_len]; done) | (simp [nms_len]; omega) | (simp; done) | (simp; omega) | rfl) ?_
    iterate 2 refine oS ?_
    refine oN ?_
    refine thenQ_normal ?_
    refine WI.seq ?_
    refine WI.seq ?_
    refine WI.regB tabPg5_ok [0, 1, 5, 26] ?_
    refine oS ?_
    refine oG (hok := by first | with_reducible rfl | omega | (simp [nms_len]; done) | (simp [nms_len]; omega) | (simp; done) | (simp; omega) | rfl) ?_
    refine oS ?_
    iterate 4 refine oG (hok := by first | with_reducible rfl | omega | (simp [nms_len]; done) | (simp [nms_len]; omega) | (simp; done) | (simp; omega) | rfl) ?_
    refine oN ?_
    refine thenQ_normal ?_
    refine WI.cond (b := _) rfl rfl (fun h0 => ?_) (fun h0 => ?_)
    · try simp only [zB] at h0
      refine WI.seq ?_
      refine WI.regB tabPg5_ok [4] ?_
      refine oS ?_
      refine oG (hok := by first | with_reducible rfl | omega | (simp [nms_len]; done) | (simp [nms_len]; omega) | (simp; done) | (simp; omega) | rfl) ?_
      refine oS ?_
      refine oC (hok := by first | with_reducible rfl | omega | (simp [nms_len]; done) | (simp [nms_len]; omega) | (simp; done) | (simp; omega) | rfl) ?_
      refine oG (hok := by first | with_reducible rfl | omega | (simp [nms_len]; done) | (simp [nms_len]; omega) | (simp; done) | (simp; omega) | rfl) ?_
      refine oS ?_
      refine oN ?_
      refine thenQ_normal ?_
      refine WI.ret ?_
      refine thenQ_ret ?_
      first | refine lfR ?_ | refine lfR2 ?_
      first | rfl | exact ⟨rfl, rfl⟩ | trivial -- leaf 0
    · try simp only [zB] at h0
      refine WI.skip ?_
      refine thenQ_normal ?_
      refine WI.seq ?_
      refine WI.regB tabPg5_ok [0, 1, 5, 7] ?_
      refine oS ?_
      refine oG (hok := by first | with_reducible rfl | omega | (simp [nms_len]; done) | (simp [nms_len]; omega) | (simp; done) | (simp; omega) | rfl) ?_
      refine oC (hok := by first | with_reducible rfl | omega | (simp [nms_len]; done) | (simp [nms_len]; omega) | (simp; done) | (simp; omega) | rfl) ?_
      refine oS ?_
      refine oN ?_
      refine thenQ_normal ?_
      refine WI.seq ?_
      refine WI.regB tabPg5_ok [0, 1, 5, 7, 8, 9] ?_
      iterate 2 refine oS ?_
      refine oC (hok := by first | with_reducible rfl | omega | (simp [nms_len]; done) | (simp [nms_len]; omega) | (simp; done) | (simp; omega) | rfl) ?_
      refine oS ?_
      iterate 2 refine oG (hok := by first | with_reducible rfl | omega | (simp [nms_len]; done) | (simp [nms_len]; omega) | (simp; done) | (simp; omega) | rfl) ?_
      iterate 2 refine oS ?_
      refine oN ?_
      refine thenQ_normal ?_
      refine WI.seq ?_
      refine WI.seq ?_
      refine WI.regB tabPg5_ok [0, 1, 5, 7, 8, 42] ?_
      refine oS ?_
      refine oG (hok := by first | with_reducible rfl | omega | (simp [nms_len]; done) | (simp [nms_len]; omega) | (simp; done) | (simp; omega) | rfl) ?_
      refine oN ?_
      refine thenQ_normal ?_
      refine WI.cond (b := _) rfl rfl (fun h1 => ?_) (fun h1 => ?_)
      · try simp only [zB] at h1
        refine WI.seq ?_
        refine WI.regB tabPg5_ok [4] ?_
        refine oS ?_
        refine oG (hok := by first | with_reducible rfl | omega | (simp [nms_len]; done) | (simp [nms_len]; omega) | (simp; done) | (simp; omega) | rfl) ?_
        refine oS ?_
        refine oC (hok := by first | with_reducible rfl | omega | (simp [nms_len]; done) | (simp [nms_len]; omega) | (simp; done) | (simp; omega) | rfl) ?_
        refine oG (hok := by first | with_reducible rfl | omega | (simp [nms_len]; done) | (simp [nms_len]; omega) | (simp; done) | (simp; omega) | rfl) ?_
        refine oS ?_
        refine oN ?_
        refine thenQ_normal ?_
        refine WI.ret ?_
        refine thenQ_ret ?_
        first | refine lfR ?_ | refine lfR2 ?_
        first | rfl | exact ⟨rfl, rfl⟩ | trivial -- leaf 1
      · exfalso
        simp at h1
  · obtain ⟨k, rfl⟩ := Int.eq_ofNat_of_zero_le hn.1
    have hnz : nms k ≠ [] := by intro h; have := congrArg List.length h; rw [nms_len] at this; simp at this; omega
    have hb := bg_all (nms k) hnz
    have e1 : IntKind.i64.wrap (k : Int) = k := IntWalk.i64_in _ (by omega)
    refine FCalls.pure (fcallsG (fz := true) G_ok (p := i5) rfl _ (Nat.le_of_ble_eq_true rfl) _ (fun C0 E0 => ?_)) rfl
    dsimp only [i5, argsφ]
    have uu := And.intro @newT38.eq_1 (And.intro @newT38.eq_2 (And.intro @beginT.eq_1 (And.intro @nextT.eq_1 (And.intro @nextT.eq_2 (And.intro @plenT.eq_1 (And.intro @plenT.eq_2 (And.intro @plenT.eq_3 (And.intro @pdropT.eq_1 (And.intro @pdropT.eq_2 (And.intro @pdropT.eq_3 (And.intro @someG.eq_1 (And.intro @someG.eq_2 (And.intro @awake38G.eq_1 (And.intro @awake38G.eq_2 (And.intro @un_N (And.intro @un_P (And.intro @rowsN_len (And.intro @nms_len (And.intro hb (And.intro @e1 (And.intro @rowsN_get (And.intro @toNat_add (And.intro @tabPg5_r (And.intro @tabPg5_k (And.intro @tabPg5_q12 (And.intro @tabPg5_q13 (And.intro @tabPg5_q14 (And.intro @tabPg5_q15 (And.intro @tabPg5_q18 (And.intro @tabPg5_q20 (And.intro @tabPg5_q21 (And.intro @tabPg5_t13 (And.intro @tabPg5_t15 (And.intro @tabPg5_t21 (And.intro @tabPg5_t20 (@tabPg5_t18))))))))))))))))))))))))))))))))))))
    refine WI.seq ?_
    refine WI.regB tabPg5_ok [0, 1] ?_
    refine oS ?_
    refine oN ?_
    refine thenQ_normal ?_
    refine WI.seq ?_
    refine WI.regB tabPg5_ok [0, 1, 5] ?_
    refine oC (hok := by first | with_reducible rfl | omega | (simp [nms_len]; done) | (simp [nms_len]; omega) | (exact decide_eq_true (by simp [nms_len]; omega)) | (simp; done) | (simp; omega) | rfl) ?_
    refine oS ?_
    iterate 2 refine oG (hok := by first | with_reducible rfl | omega | (simp [nms_len]; done) | (simp [nms_len]; omega) | (exact decide_eq_true (by simp [nms_len]; omega)) | (simp; done) | (simp; omega) | rfl) ?_
    iterate 2 refine oS ?_
    refine oN ?_
    refine thenQ_normal ?_
    refine WI.seq ?_
    refine WI.seq ?_
    refine WI.regB tabPg5_ok [0, 1, 5, 26] ?_
    refine oS ?_
    refine oG (hok := by first | with_reducible rfl | omega | (simp [nms_len]; done) | (simp [nms_len]; omega) | (exact decide_eq_true (by simp [nms_len]; omega)) | (simp; done) | (simp; omega) | rfl) ?_
    refine oS ?_
    iterate 4 refine oG (hok := by first | with_reducible rfl | omega | (simp [nms_len]; done) | (simp [nms_len]; omega) | (exact decide_eq_true (by simp [nms_len]; omega)) | (simp; done) | (simp; omega) | rfl) ?_
    refine oN ?_
    refine thenQ_normal ?_
    refine WI.cond (b := _) rfl rfl (fun h0 => ?_) (fun h0 => ?_)
    · try simp only [zB] at h0
      refine WI.seq ?_
      refine WI.regB tabPg5_ok [4] ?_
      refine oS ?_
      refine oG (hok := by first | with_reducible rfl | omega | (simp [nms_len]; done) | (simp [nms_len]; omega) | (exact decide_eq_true (by simp [nms_len]; omega)) | (simp; done) | (simp; omega) | rfl) ?_
      refine oS ?_
      refine oC (hok := by first | with_reducible rfl | omega | (simp [nms_len]; done) | (simp [nms_len]; omega) | (exact decide_eq_true (by simp [nms_len]; omega)) | (simp; done) | (simp; omega) | rfl) ?_
      refine oG (hok := by first | with_reducible rfl | omega | (simp [nms_len]; done) | (simp [nms_len]; omega) | (exact decide_eq_true (by simp [nms_len]; omega)) | (simp; done) | (simp; omega) | rfl) ?_
      refine oS ?_
      refine oN ?_
      refine thenQ_normal ?_
      refine WI.ret ?_
      refine thenQ_ret ?_
      first | refine lfR ?_ | refine lfR2 ?_
      first | rfl | exact ⟨rfl, rfl⟩ | trivial -- leaf 0
    · try simp only [zB] at h0
      refine WI.skip ?_
      refine thenQ_normal ?_
      refine WI.seq ?_
      refine WI.regB tabPg5_ok [0, 1, 5, 7] ?_
      refine oS ?_
      refine oG (hok := by first | with_reducible rfl | omega | (simp [nms_len]; done) | (simp [nms_len]; omega) | (exact decide_eq_true (by simp [nms_len]; omega)) | (simp; done) | (simp; omega) | rfl) ?_
      refine oC (hok := by first | with_reducible rfl | omega | (simp [nms_len]; done) | (simp [nms_len]; omega) | (exact decide_eq_true (by simp [nms_len]; omega)) | (simp; done) | (simp; omega) | rfl) ?_
      refine oS ?_
      refine oN ?_
      refine thenQ_normal ?_
      refine WI.seq ?_
      refine WI.regB tabPg5_ok [0, 1, 5, 7, 8, 9] ?_
      iterate 2 refine oS ?_
      refine oC (hok := by first | with_reducible rfl | omega | (simp [nms_len]; done) | (simp [nms_len]; omega) | (exact decide_eq_true (by simp [nms_len]; omega)) | (simp; done) | (simp; omega) | rfl) ?_
      refine oS ?_
      iterate 2 refine oG (hok := by first | with_reducible rfl | omega | (simp [nms_len]; done) | (simp [nms_len]; omega) | (exact decide_eq_true (by simp [nms_len]; omega)) | (simp; done) | (simp; omega) | rfl) ?_
      iterate 2 refine oS ?_
      refine oN ?_
      refine thenQ_normal ?_
      refine WI.seq ?_
      refine WI.seq ?_
      refine WI.regB tabPg5_ok [0, 1, 5, 7, 8, 42] ?_
      refine oS ?_
      refine oG (hok := by first | with_reducible rfl | omega | (simp [nms_len]; done) | (simp [nms_len]; omega) | (exact decide_eq_true (by simp [nms_len]; omega)) | (simp; done) | (simp; omega) | rfl) ?_
      refine oN ?_
      refine thenQ_normal ?_
      refine WI.cond (b := _) rfl rfl (fun h1 => ?_) (fun h1 => ?_)
      · exfalso
        simp at h1
      · try simp only [zB] at h1
        refine WI.skip ?_
        refine thenQ_normal ?_
        refine WI.seq ?_
        refine WI.regB tabPg5_ok [1, 5, 7, 8, 10] ?_
        refine oS ?_
        refine oN ?_
        refine thenQ_normal ?_
        refine WI.seq ?_
        refine WI.seq ?_
        refine WI.regB tabPg5_ok [1, 5, 7, 8, 10, 11] ?_
        refine oS ?_
        refine oN ?_
        refine thenQ_normal ?_
        refine WI.block ?_
        refine WI.loop (fun φ os => ∃ (i q : Nat) (c : Int) (L : Pg), φ = [(1, .x (.sl (rows (rInt .u8) st))), (5, .ptr 1 0), (7, .x (.sl (rowsN (nms k)))), (8, .x (.int .i64 c)), (10, .x (.int .i64 q)), (11, .x (.int .i64 i))] ∧ os = [pgM L, .box [.mref 0, .x (.int .i64 4), .x (.int .i64 1)]] ∧ i ≤ st.length ∧ ((c = 0 ∧ q = k) ∨ (c = 1 ∧ q < k ∧ L = [(1, (nms k).drop q)]))) (down st.length 11) ?_ (fun φ os hI => ?_)
        · exact ⟨0, 0, 1, _, rfl, rfl, by omega, .inr ⟨rfl, by omega, rfl⟩⟩
        · obtain ⟨i, q, c, L, rfl, rfl, hi, hc⟩ := hI
          refine WI.seq ?_
          refine WI.seq ?_
          refine WI.regB tabPg5_ok [1, 5, 7, 8, 10, 11, 55] ?_
          iterate 2 refine oS ?_
          iterate 2 refine oG (hok := by first | with_reducible rfl | omega | (simp [nms_len]; done) | (simp [nms_len]; omega) | (exact decide_eq_true (by simp [nms_len]; omega)) | (simp; done) | (simp; omega) | rfl) ?_
          refine oS ?_
          iterate 3 refine oG (hok := by first | with_reducible rfl | omega | (simp [nms_len]; done) | (simp [nms_len]; omega) | (exact decide_eq_true (by simp [nms_len]; omega)) | (simp; done) | (simp; omega) | rfl) ?_
          refine oN ?_
          refine thenQ_normal ?_
          refine WI.cond (b := _) rfl rfl (fun h2 => ?_) (fun h2 => ?_)
          · try simp only [zB] at h2
            refine WI.skip ?_
            refine thenQ_normal ?_
            refine WI.seq ?_
            refine WI.block ?_
            refine WI.seq ?_
            obtain ⟨rfl, hq, rfl⟩ : c = 1 ∧ q < k ∧ L = [(1, (nms k).drop q)] := hc.resolve_left (fun h => h2.2 h.1)
            have hi4 : i < st.length := by omega
            have hz0 := hs _ (List.getElem_mem hi4)
            obtain ⟨z, hz⟩ := Int.eq_ofNat_of_zero_le hz0.1
            have e3 : (z : Int).tmod 20 = ((z % 20 : Nat) : Int) := (Int.ofNat_tmod z 20).symm
            have hnl := nms_len k
            have hdl : ((nms k).drop q).length = k - q := by rw [List.length_drop, hnl]
            obtain ⟨m, d, L', hnx, hm, hml, hd⟩ := nx_left ((nms k).drop q) (((z % 20 : Nat) : Int) + 1) ⟨by omega, by omega⟩ (by intro h; rw [h] at hdl; simp at hdl; omega)
            rw [hdl] at hml hd
            have uu := And.intro uu (And.intro hz (And.intro e3 hnx))
            refine WI.regB tabPg5_ok [1, 5, 7, 10, 11, 12, 13, 14] ?_
            iterate 4 refine oS ?_
            iterate 5 refine oG (hok := by first | with_reducible rfl | omega | (simp [nms_len]; done) | (simp [nms_len]; omega) | (exact decide_eq_true (by simp [nms_len]; omega)) | (simp; done) | (simp; omega) | rfl) ?_
            refine oC (hok := by first | with_reducible rfl | omega | (simp [nms_len]; done) | (simp [nms_len]; omega) | (exact decide_eq_true (by simp [nms_len]; omega)) | (simp; done) | (simp; omega) | rfl) ?_
            refine oS ?_
            iterate 3 refine oG (hok := by first | with_reducible rfl | omega | (simp [nms_len]; done) | (simp [nms_len]; omega) | (exact decide_eq_true (by simp [nms_len]; omega)) | (simp; done) | (simp; omega) | rfl) ?_
            iterate 3 refine oS ?_
            refine oN ?_
            refine thenQ_normal ?_
            refine WI.seq ?_
            refine WI.seq ?_
            refine WI.regB tabPg5_ok [1, 5, 7, 10, 11, 12, 13, 82] ?_
            refine oS ?_
            refine oG (hok := by first | with_reducible rfl | omega | (simp [nms_len]; done) | (simp [nms_len]; omega) | (exact decide_eq_true (by simp [nms_len]; omega)) | (simp; done) | (simp; omega) | rfl) ?_
            refine oS ?_
            iterate 8 refine oG (hok := by first | with_reducible rfl | omega | (simp [nms_len]; done) | (simp [nms_len]; omega) | (exact decide_eq_true (by simp [nms_len]; omega)) | (simp; done) | (simp; omega) | rfl) ?_
            refine oN ?_
            refine thenQ_normal ?_
            refine WI.cond (b := _) rfl rfl (fun h3 => ?_) (fun h3 => ?_)
            · exfalso
              simp only [zB] at h3; omega
            · try simp only [zB] at h3
              refine WI.skip ?_
              refine thenQ_normal ?_
              refine WI.seq ?_
              refine WI.seq ?_
              refine WI.regB tabPg5_ok [1, 5, 7, 10, 11, 12, 13, 15] ?_
              refine oS ?_
              refine oN ?_
              refine thenQ_normal ?_
              refine WI.block ?_
              refine WI.loop (fun φ os => ∃ (j : Nat), φ = [(1, .x (.sl (rows (rInt .u8) st))), (5, .ptr 1 0), (7, .x (.sl (rowsN (nms k)))), (10, .x (.int .i64 q)), (11, .x (.int .i64 i)), (12, .x (.sl (rowsN m))), (13, .x (.int .i64 d)), (15, .x (.int .i64 j))] ∧ os = [pgM L', .box [.mref 0, .x (.int .i64 4), .x (.int .i64 1)]] ∧ j ≤ m.length) (down m.length 15) ?_ (fun φ os hI => ?_)
              · exact ⟨0, rfl, rfl, by omega⟩
              · obtain ⟨j, rfl, rfl, hj⟩ := hI
                refine WI.seq ?_
                refine WI.seq ?_
                refine WI.regB tabPg5_ok [1, 5, 7, 10, 11, 12, 13, 15, 86] ?_
                iterate 2 refine oS ?_
                iterate 2 refine oG (hok := by first | with_reducible rfl | omega | (simp [nms_len]; done) | (simp [nms_len]; omega) | (exact decide_eq_true (by simp [nms_len]; omega)) | (simp; done) | (simp; omega) | rfl) ?_
                refine oN ?_
                refine thenQ_normal ?_
                refine WI.cond (b := _) rfl rfl (fun h4 => ?_) (fun h4 => ?_)
                · try simp only [zB] at h4
                  refine WI.skip ?_
                  refine thenQ_normal ?_
                  refine WI.seq ?_
                  refine WI.block ?_
                  refine WI.seq ?_
                  refine WI.dregB tabPg5_ok [1, 5, 7, 10, 11, 12, 13, 15, 101] ?_
                  iterate 2 refine dFS ?_
                  refine dQG (hok := by first | with_reducible rfl | omega | (simp [nms_len]; done) | (simp [nms_len]; omega) | (exact decide_eq_true (by simp [nms_len]; omega)) | (simp; done) | (simp; omega) | rfl) ?_
                  refine dFS ?_
                  refine dQG (hok := by first | with_reducible rfl | omega | (simp [nms_len]; done) | (simp [nms_len]; omega) | (exact decide_eq_true (by simp [nms_len]; omega)) | (simp; done) | (simp; omega) | rfl) ?_
                  iterate 3 refine dFS ?_
                  refine dFG (hok := by first | with_reducible rfl | omega | (simp [nms_len]; done) | (simp [nms_len]; omega) | (exact decide_eq_true (by simp [nms_len]; omega)) | (simp; done) | (simp; omega) | rfl) ?_
                  refine dQG (hok := by first | with_reducible rfl | omega | (simp [nms_len]; done) | (simp [nms_len]; omega) | (exact decide_eq_true (by simp [nms_len]; omega)) | (simp; done) | (simp; omega) | rfl) ?_
                  refine dFS ?_
                  refine dQG (hok := by first | with_reducible rfl | omega | (simp [nms_len]; done) | (simp [nms_len]; omega) | (exact decide_eq_true (by simp [nms_len]; omega)) | (simp; done) | (simp; omega) | rfl) ?_
                  refine dFG (hok := by first | with_reducible rfl | omega | (simp [nms_len]; done) | (simp [nms_len]; omega) | (exact decide_eq_true (by simp [nms_len]; omega)) | (simp; done) | (simp; omega) | rfl) ?_
                  refine dN ?_
                  refine thenQ_normal ?_
                  refine WI.cond (b := _) rfl rfl (fun h5 => ?_) (fun h5 => ?_)
                  · exfalso
                    simp only [zB] at h5
                    refine h5 ?_
                    have hj5 : j < (((nms k).drop q).take m.length).length := by rw [← hm]; omega
                    have e5 : m[j] = (((nms k).drop q).take m.length)[j] := by congr 1
                    rw [e5, List.getElem_take, List.getElem_drop]
                  · try simp only [zB] at h5
                    refine WI.skip ?_
                    refine blockQ_normal ?_
                    refine thenQ_normal ?_
                    refine WI.regB tabPg5_ok [1, 5, 7, 10, 11, 12, 13, 15] ?_
                    refine oS ?_
                    refine oG (hok := by first | with_reducible rfl | omega | (simp [nms_len]; done) | (simp [nms_len]; omega) | (exact decide_eq_true (by simp [nms_len]; omega)) | (simp; done) | (simp; omega) | rfl) ?_
                    refine oS ?_
                    refine oN ?_
                    refine thenQ_normal ?_
                    exact ⟨⟨j + 1, by simp, rfl, by omega⟩, by simp [down, Ab.get, D.val, intOf?]; omega⟩
                · try simp only [zB] at h4
                  refine WI.exit ?_
                  refine thenQ_exit ?_
                  refine thenQ_exit ?_
                  refine blockQ_hit ?_
                  refine thenQ_normal ?_
                  refine WI.seq ?_
                  refine WI.regB tabPg5_ok [1, 5, 7, 10, 11, 13] ?_
                  iterate 2 refine oS ?_
                  iterate 2 refine oG (hok := by first | with_reducible rfl | omega | (simp [nms_len]; done) | (simp [nms_len]; omega) | (exact decide_eq_true (by simp [nms_len]; omega)) | (simp; done) | (simp; omega) | rfl) ?_
                  refine oS ?_
                  refine oN ?_
                  refine thenQ_normal ?_
                  refine WI.regB tabPg5_ok [1, 5, 7, 8, 10, 11] ?_
                  iterate 2 refine oS ?_
                  refine oN ?_
                  refine blockQ_normal ?_
                  refine thenQ_normal ?_
                  refine WI.orderA [1, 5, 7, 8, 10, 11] ?_
                  refine WI.regB tabPg5_ok [1, 5, 7, 8, 10, 11] ?_
                  refine oS ?_
                  refine oG (hok := by first | with_reducible rfl | omega | (simp [nms_len]; done) | (simp [nms_len]; omega) | (exact decide_eq_true (by simp [nms_len]; omega)) | (simp; done) | (simp; omega) | rfl) ?_
                  refine oS ?_
                  refine oN ?_
                  refine thenQ_normal ?_
                  exact ⟨⟨i + 1, q + m.length, d, L', by simp, rfl, by omega, by rcases hd with ⟨hd1, hd2, hd3⟩ | ⟨hd1, hd2, hd3⟩; exact .inl ⟨hd1, by omega⟩; exact .inr ⟨hd1, by omega, by rw [hd3, List.drop_drop]⟩⟩, by simp [down, Ab.get, D.val, intOf?]; omega⟩
          · try simp only [zB] at h2
            refine WI.exit ?_
            refine thenQ_exit ?_
            refine thenQ_exit ?_
            refine blockQ_hit ?_
            refine thenQ_normal ?_
            refine WI.seq ?_
            refine WI.regB tabPg5_ok [4] ?_
            refine oS ?_
            refine oG (hok := by first | with_reducible rfl | omega | (simp [nms_len]; done) | (simp [nms_len]; omega) | (exact decide_eq_true (by simp [nms_len]; omega)) | (simp; done) | (simp; omega) | rfl) ?_
            iterate 2 refine oS ?_
            iterate 3 refine oG (hok := by first | with_reducible rfl | omega | (simp [nms_len]; done) | (simp [nms_len]; omega) | (exact decide_eq_true (by simp [nms_len]; omega)) | (simp; done) | (simp; omega) | rfl) ?_
            refine oS ?_
            refine oC (hok := by first | with_reducible rfl | omega | (simp [nms_len]; done) | (simp [nms_len]; omega) | (exact decide_eq_true (by simp [nms_len]; omega)) | (simp; done) | (simp; omega) | rfl) ?_
            refine oG (hok := by first | with_reducible rfl | omega | (simp [nms_len]; done) | (simp [nms_len]; omega) | (exact decide_eq_true (by simp [nms_len]; omega)) | (simp; done) | (simp; omega) | rfl) ?_
            refine oS ?_
            refine oN ?_
            refine thenQ_normal ?_
            refine WI.ret ?_
            first | refine lfR ?_ | refine lfR2 ?_
            rcases hc with ⟨rfl, rfl⟩ | ⟨rfl, hq, _⟩
            · simp
            · rw [show ((1 : Int) == 0) = false from rfl, show (((q : Nat) : Int) == ((k : Nat) : Int)) = false from beq_eq_false_iff_ne.2 (by omega)]; rfl -- leaf 1
end Go.Proofs.Ytogplpcamiicgaa
end
