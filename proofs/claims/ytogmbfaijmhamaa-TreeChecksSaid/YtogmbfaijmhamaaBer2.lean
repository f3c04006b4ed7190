/- Ber: Put, long, Head. -/
import Derived.Test.YtogmbfaijmhamaaBer1
set_option linter.unusedSimpArgs false
set_option linter.unusedVariables false
namespace Go.Proofs.Ytogmbfaijmhamaa
open Go.RowKit Go.Bo Go.Ab

def tabBer1 : Tabs := addQ (addQ (noTabs) 42 badG) 43 lengthG
theorem tabBer1_ok : SsOk Try.prog tabBer1 := addQ_ok (addQ_ok (noTabs_ok) (G_enters G_ok (p := i42) rfl) badG_ok) (G_enters G_ok (p := i43) rfl) lengthG_ok
theorem tabBer1_q42 (a : List D) : tabBer1.q 42 a = badG a := rfl
theorem tabBer1_q43 (a : List D) : tabBer1.q 43 a = lengthG a := rfl
theorem tabBer1_r (f : FuncId) (a : List D) (o : List Ob) : tabBer1.r f a o = none := rfl
theorem tabBer1_k (f : FuncId) (a : List D) (o : List Ob) : tabBer1.k f a o = none := rfl
def tabBer1R : Tabs := addQ (addQ (noTabs) 44 taggedG) 45 lengthRG
theorem tabBer1R_ok : SsOk Try.prog tabBer1R := addQ_ok (addQ_ok (noTabs_ok) (G_enters G_ok (p := i44) rfl) taggedG_ok) (G_enters G_ok (p := i45) rfl) lengthRG_ok
theorem tabBer1R_q44 (a : List D) : tabBer1R.q 44 a = taggedG a := rfl
theorem tabBer1R_q45 (a : List D) : tabBer1R.q 45 a = lengthRG a := rfl
theorem tabBer1R_r (f : FuncId) (a : List D) (o : List Ob) : tabBer1R.r f a o = none := rfl
theorem tabBer1R_k (f : FuncId) (a : List D) (o : List Ob) : tabBer1R.k f a o = none := rfl

def putB (t : Int) (s : List UInt8) : List UInt8 × Int :=
  if tagB t = true then if s.length ≤ 65536 then (UInt8.ofNat t.toNat :: (lenB s.length ++ s), 0) else ([], 3) else ([], 6)
theorem tagB_nat {t : Int} (h : tagB t = true) : ∃ n : Nat, t = n ∧ n < 255 := by
  simp [tagB] at h
  exact ⟨t.toNat, by omega, by omega⟩
theorem put_c (t : Int) (s : List UInt8) : PCalls Try.prog 14 [.x (.int .i64 t), .x (.str s)] (.tup [.x (.str (putB t s).1), .x (.int .i64 (putB t s).2)]) := by
  have e : ∀ n : Nat, tagB n = true → putB n s = if s.length ≤ 65536 then (UInt8.ofNat n :: (lenB s.length ++ s), 0) else ([], 3) := by
    intro n h; rw [putB, if_pos h]; rfl
  by_cases hb : tagB t = true
  · obtain ⟨n, rfl, hn⟩ := tagB_nat hb
    rw [e n hb]
    refine FCalls.pure (fcallsG (fz := true) G_ok (p := i14) rfl _ (Nat.le_of_ble_eq_true rfl) _ (fun C0 E0 => ?_)) rfl
    dsimp only [i14, argsφ]
    refine WI.seq ?_
    refine WI.regA tabBer1_ok [0, 1] (fun K hK => ?_)
    refine osS (by simp only [zC, stepOp, aval, opv, Ab.get, Ab.put, putO, Nat.reduceEqDiff, ↓reduceIte, D.val, D.cond, reduceCtorEq]; rfl) rfl ?_
    refine osS (by simp only [zC, stepOp, aval, opv, Ab.get, Ab.put, putO, Nat.reduceEqDiff, ↓reduceIte, D.val, D.cond, reduceCtorEq]; rfl) rfl ?_
    refine osN ?_
    simp only [keep, memN, Nat.reduceEqDiff, if_true, if_false, ↓reduceIte, Option.getD_none, Option.getD_some, List.append_nil, List.cons_append, List.nil_append, Bool.false_eq_true]
    refine hK _ _ ?_
    clear hK K
    refine thenQ_normal ?_
    refine WI.seq ?_
    refine WI.block ?_
    refine WI.seq ?_
    refine WI.regA tabBer1_ok [0, 1, 6] (fun K hK => ?_)
    refine osS (by simp only [zC, stepOp, aval, opv, Ab.get, Ab.put, putO, Nat.reduceEqDiff, ↓reduceIte, D.val, D.cond, reduceCtorEq]; rfl) rfl ?_
    refine osS (by simp (disch := omega) only [zS, viaNN, viaNNT, D.nn, addQ, addT, IE.isCall, Nat.reduceAdd, Nat.reduceSub, Nat.reduceMul, Nat.reduceLeDiff, Nat.reduceLT, Nat.reduceBEq, Int.reduceToNat, Int.reduceLE, Int.reduceLT, Int.reduceAdd, Int.reduceSub, Int.reduceMul, Int.reduceNeg, Int.reduceEq, Nat.reduceEqDiff, runOpsA, runDA, stepOp, aval, aact, opv, Ab.get, Ab.put, putO, keep, memN, D.val, D.cond, D.cells?, D.scalar, X.scalar, D.plain, D.isX, binD, bitsD, eqD, eqFs, eqX, unD, intOf?, lenD, okRef, rowsOf, viewD, viewX, freezeD, freezeL, partsD, buildD, slcStrD, slcSlD, Ob.slice?, ↓reduceIte, reduceCtorEq, evQ, evK, evC, evA, avalR, prefB, eqR, nzD, actT, callT1, callR1, callK1, valsL, condsL, optV, noTabs, IE.frame, memB, zeroO, IntWalk.i64_in, badG, lengthG, hb, br_wrap, br_len, br_is, br_of, br_rev, tabBer1_r, tabBer1_k, tabBer1_q42, tabBer1_q43]; rfl) (by first | with_reducible rfl | omega | (simp; done) | (simp; omega) | rfl) ?_
    refine osS (by simp only [zC, stepOp, aval, opv, Ab.get, Ab.put, putO, Nat.reduceEqDiff, ↓reduceIte, D.val, D.cond, reduceCtorEq]; rfl) rfl ?_
    refine osN ?_
    simp only [keep, memN, Nat.reduceEqDiff, if_true, if_false, ↓reduceIte, Option.getD_none, Option.getD_some, List.append_nil, List.cons_append, List.nil_append, Bool.false_eq_true]
    refine hK _ _ ?_
    clear hK K
    refine thenQ_normal ?_
    refine WI.cond (b := _) rfl rfl (fun h0 => ?_) (fun h0 => ?_)
    · exfalso
      simp at h0
    · try simp only [zB] at h0
      refine WI.seq ?_
      refine WI.regA tabBer1_ok [0, 1, 9] (fun K hK => ?_)
      refine osS (by simp only [zC, stepOp, aval, opv, Ab.get, Ab.put, putO, Nat.reduceEqDiff, ↓reduceIte, D.val, D.cond, reduceCtorEq]; rfl) rfl ?_
      refine osS (by simp (disch := omega) only [zL, zR, zC, stepOp, aval, opv, Ab.get, Ab.put, putO, Nat.reduceEqDiff, ↓reduceIte, D.val, D.cond, reduceCtorEq, lenD, okRef, Nat.reduceAdd, Nat.reduceLeDiff, Ob.slice?, badG, lengthG, hb, br_wrap, bytes_row, bytes_all, br_len, br_is, br_of, br_rev]; rfl) (by first | with_reducible rfl | omega | (simp; done) | (simp; omega) | rfl) ?_
      refine osS (by simp (disch := omega) only [zG, zN, zC, stepOp, aval, opv, Ab.get, Ab.put, putO, Nat.reduceEqDiff, ↓reduceIte, D.val, D.cond, reduceCtorEq, binD, bitsD, Nat.reduceAdd, Nat.reduceSub, Nat.reduceMul, Nat.reduceLeDiff, Int.reduceToNat, Int.reduceLE, Int.reduceLT, Int.reduceAdd, Int.reduceSub, Int.reduceMul, Int.reduceNeg, Int.reduceEq, bne_self_eq_false, badG, lengthG, hb, br_wrap, bytes_row, bytes_all, br_len, br_is, br_of, br_rev]; rfl) (by first | with_reducible rfl | omega | (simp; done) | (simp; omega) | rfl) ?_
      refine osS (by simp only [zC, stepOp, aval, opv, Ab.get, Ab.put, putO, Nat.reduceEqDiff, ↓reduceIte, D.val, D.cond, reduceCtorEq]; rfl) rfl ?_
      refine osN ?_
      simp only [keep, memN, Nat.reduceEqDiff, if_true, if_false, ↓reduceIte, Option.getD_none, Option.getD_some, List.append_nil, List.cons_append, List.nil_append, Bool.false_eq_true]
      refine hK _ _ ?_
      clear hK K
      refine thenQ_normal ?_
      refine WI.cond (b := _) rfl rfl (fun h1 => ?_) (fun h1 => ?_)
      · try simp only [zB] at h1
        refine WI.seq ?_
        refine WI.regA tabBer1_ok [4, 5] (fun K hK => ?_)
        refine osS (by simp only [zC, stepOp, aval, opv, Ab.get, Ab.put, putO, Nat.reduceEqDiff, ↓reduceIte, D.val, D.cond, reduceCtorEq]; rfl) rfl ?_
        refine osS (by simp only [zC, stepOp, aval, opv, Ab.get, Ab.put, putO, Nat.reduceEqDiff, ↓reduceIte, D.val, D.cond, reduceCtorEq]; rfl) rfl ?_
        refine osN ?_
        simp only [keep, memN, Nat.reduceEqDiff, if_true, if_false, ↓reduceIte, Option.getD_none, Option.getD_some, List.append_nil, List.cons_append, List.nil_append, Bool.false_eq_true]
        refine hK _ _ ?_
        clear hK K
        refine thenQ_normal ?_
        refine WI.ret ?_
        refine blockQ_ret ?_
        refine thenQ_ret ?_
        refine ⟨.inr rfl, ?_⟩
        -- leaf 0
        simp (disch := omega) only [zF, retD, resD, finD, plainD, freezeD, freezeL, aval, opv, Ab.get, Nat.reduceEqDiff, ↓reduceIte, D.val, D.cond, Nat.reduceAdd, Nat.reduceLeDiff, Ob.slice?, badG, lengthG, hb, br_wrap, bytes_row, bytes_all, br_len, br_is, br_of, br_rev]
        refine ⟨_, _, rfl, ?_⟩
        simp only [mkR]
        rw [if_neg (by omega)]
      · try simp only [zB] at h1
        refine WI.skip ?_
        refine blockQ_normal ?_
        refine thenQ_normal ?_
        refine WI.seq ?_
        have hL := lenB_le s.length (by omega)
        refine WI.dregA tabBer1_ok [4, 5] (fun K hK => ?_)
        refine dsF rfl (by simp only [zC, evQ, evA, avalR, prefB, Ob.beq_refl, stepOp, aval, opv, Ab.get, Ab.put, putO, Nat.reduceEqDiff, ↓reduceIte, D.val, D.cond, reduceCtorEq]; rfl) rfl ?_
        refine dsF rfl (by simp (disch := omega) only [zM, evQ, evA, avalR, prefB, Ob.beq_refl, stepOp, aval, opv, Ab.get, Ab.put, putO, Nat.reduceEqDiff, ↓reduceIte, D.val, D.cond, reduceCtorEq, aact, actT, IE.isCall, D.cells?, Nat.reduceAdd, Nat.reduceLeDiff, Ob.slice?, Nat.reduceSub, Nat.reduceMul, Int.reduceToNat, Int.reduceLE, Int.reduceLT, Int.reduceAdd, Int.reduceSub, Int.reduceMul, Int.reduceNeg, Int.reduceEq, rowsOf, srcOf, okRef, intOf?, partsD, freezeL, freezeD, buildD, slcStrD, slcSlD, optV, zeroO, eqR, eqD, eqFs, eqX, nzD, binD, unD, lenD, evK, evC, Nat.reduceLT, badG, lengthG, hb, br_wrap, br_len, br_is, br_of, br_rev]; rfl) (by first | with_reducible rfl | omega | (simp; done) | (simp; omega) | rfl) ?_
        refine dsK rfl rfl rfl (by simp (disch := omega) only [zS, viaNN, viaNNT, D.nn, addQ, addT, IE.isCall, Nat.reduceAdd, Nat.reduceSub, Nat.reduceMul, Nat.reduceLeDiff, Nat.reduceLT, Nat.reduceBEq, Int.reduceToNat, Int.reduceLE, Int.reduceLT, Int.reduceAdd, Int.reduceSub, Int.reduceMul, Int.reduceNeg, Int.reduceEq, Nat.reduceEqDiff, runOpsA, runDA, stepOp, aval, aact, opv, Ab.get, Ab.put, putO, keep, memN, D.val, D.cond, D.cells?, D.scalar, X.scalar, D.plain, D.isX, binD, bitsD, eqD, eqFs, eqX, unD, intOf?, lenD, okRef, rowsOf, viewD, viewX, freezeD, freezeL, partsD, buildD, slcStrD, slcSlD, Ob.slice?, ↓reduceIte, reduceCtorEq, evQ, evK, evC, evA, avalR, prefB, eqR, nzD, actT, callT1, callR1, callK1, valsL, condsL, optV, noTabs, IE.frame, memB, zeroO, IntWalk.i64_in, badG, lengthG, hb, br_wrap, br_len, br_is, br_of, br_rev, tabBer1_r, tabBer1_k, tabBer1_q42, tabBer1_q43]) (by simp (disch := omega) only [zM, evQ, evA, avalR, prefB, Ob.beq_refl, stepOp, aval, opv, Ab.get, Ab.put, putO, Nat.reduceEqDiff, ↓reduceIte, D.val, D.cond, reduceCtorEq, aact, actT, IE.isCall, D.cells?, Nat.reduceAdd, Nat.reduceLeDiff, Ob.slice?, Nat.reduceSub, Nat.reduceMul, Int.reduceToNat, Int.reduceLE, Int.reduceLT, Int.reduceAdd, Int.reduceSub, Int.reduceMul, Int.reduceNeg, Int.reduceEq, rowsOf, srcOf, okRef, intOf?, partsD, freezeL, freezeD, buildD, slcStrD, slcSlD, optV, zeroO, eqR, eqD, eqFs, eqX, nzD, binD, unD, lenD, evK, evC, Nat.reduceLT, badG, lengthG, hb, br_wrap, br_len, br_is, br_of, br_rev]; rfl) (by first | with_reducible rfl | omega | (simp; done) | (simp; omega) | rfl) ?_
        refine dsM rfl rfl rfl (by simp (disch := omega) only [zM, evQ, evA, avalR, prefB, Ob.beq_refl, stepOp, aval, opv, Ab.get, Ab.put, putO, Nat.reduceEqDiff, ↓reduceIte, D.val, D.cond, reduceCtorEq, aact, actT, IE.isCall, D.cells?, Nat.reduceAdd, Nat.reduceLeDiff, Ob.slice?, Nat.reduceSub, Nat.reduceMul, Int.reduceToNat, Int.reduceLE, Int.reduceLT, Int.reduceAdd, Int.reduceSub, Int.reduceMul, Int.reduceNeg, Int.reduceEq, rowsOf, srcOf, okRef, intOf?, partsD, freezeL, freezeD, buildD, slcStrD, slcSlD, optV, zeroO, eqR, eqD, eqFs, eqX, nzD, binD, unD, lenD, evK, evC, Nat.reduceLT, badG, lengthG, hb, br_wrap, br_len, br_is, br_of, br_rev, List.getElem?_nil] <;> rfl) (by simp (disch := omega) only [zM, evQ, evA, avalR, prefB, Ob.beq_refl, stepOp, aval, opv, Ab.get, Ab.put, putO, Nat.reduceEqDiff, ↓reduceIte, D.val, D.cond, reduceCtorEq, aact, actT, IE.isCall, D.cells?, Nat.reduceAdd, Nat.reduceLeDiff, Ob.slice?, Nat.reduceSub, Nat.reduceMul, Int.reduceToNat, Int.reduceLE, Int.reduceLT, Int.reduceAdd, Int.reduceSub, Int.reduceMul, Int.reduceNeg, Int.reduceEq, rowsOf, srcOf, okRef, intOf?, partsD, freezeL, freezeD, buildD, slcStrD, slcSlD, optV, zeroO, eqR, eqD, eqFs, eqX, nzD, binD, unD, lenD, evK, evC, Nat.reduceLT, badG, lengthG, hb, br_wrap, br_len, br_is, br_of, br_rev, nearQ, List.getElem?_nil]; rfl) (by first | with_reducible rfl | omega | (simp; done) | (simp; omega) | rfl) ?_
        refine dsF rfl (by simp only [zC, evQ, evA, avalR, prefB, Ob.beq_refl, stepOp, aval, opv, Ab.get, Ab.put, putO, Nat.reduceEqDiff, ↓reduceIte, D.val, D.cond, reduceCtorEq]; rfl) rfl ?_
        refine dsF rfl (by simp (disch := omega) only [zL, zR, zC, evQ, evA, avalR, prefB, Ob.beq_refl, stepOp, aval, opv, Ab.get, Ab.put, putO, Nat.reduceEqDiff, ↓reduceIte, D.val, D.cond, reduceCtorEq, lenD, okRef, Nat.reduceAdd, Nat.reduceLeDiff, Ob.slice?, badG, lengthG, hb, br_wrap, bytes_row, bytes_all, br_len, br_is, br_of, br_rev]; rfl) (by first | with_reducible rfl | omega | (simp; done) | (simp; omega) | rfl) ?_
        refine dsQ rfl rfl rfl (by simp (disch := omega) only [zS, viaNN, viaNNT, D.nn, addQ, addT, IE.isCall, Nat.reduceAdd, Nat.reduceSub, Nat.reduceMul, Nat.reduceLeDiff, Nat.reduceLT, Nat.reduceBEq, Int.reduceToNat, Int.reduceLE, Int.reduceLT, Int.reduceAdd, Int.reduceSub, Int.reduceMul, Int.reduceNeg, Int.reduceEq, Nat.reduceEqDiff, runOpsA, runDA, stepOp, aval, aact, opv, Ab.get, Ab.put, putO, keep, memN, D.val, D.cond, D.cells?, D.scalar, X.scalar, D.plain, D.isX, binD, bitsD, eqD, eqFs, eqX, unD, intOf?, lenD, okRef, rowsOf, viewD, viewX, freezeD, freezeL, partsD, buildD, slcStrD, slcSlD, Ob.slice?, ↓reduceIte, reduceCtorEq, evQ, evK, evC, evA, avalR, prefB, eqR, nzD, actT, callT1, callR1, callK1, valsL, condsL, optV, noTabs, IE.frame, memB, zeroO, IntWalk.i64_in, badG, lengthG, hb, br_wrap, br_len, br_is, br_of, br_rev, tabBer1_r, tabBer1_k, tabBer1_q42, tabBer1_q43]; rfl) (by first | with_reducible rfl | omega | (simp; done) | (simp; omega) | rfl) ?_
        refine dsF rfl (by simp (disch := omega) only [zG, zN, zC, evQ, evA, avalR, prefB, Ob.beq_refl, stepOp, aval, opv, Ab.get, Ab.put, putO, Nat.reduceEqDiff, ↓reduceIte, D.val, D.cond, reduceCtorEq, binD, bitsD, Nat.reduceAdd, Nat.reduceSub, Nat.reduceMul, Nat.reduceLeDiff, Int.reduceToNat, Int.reduceLE, Int.reduceLT, Int.reduceAdd, Int.reduceSub, Int.reduceMul, Int.reduceNeg, Int.reduceEq, bne_self_eq_false, badG, lengthG, hb, br_wrap, bytes_row, bytes_all, br_len, br_is, br_of, br_rev]; rfl) (by first | with_reducible rfl | omega | (simp; done) | (simp; omega) | rfl) ?_
        refine dsF rfl (by simp only [zC, evQ, evA, avalR, prefB, Ob.beq_refl, stepOp, aval, opv, Ab.get, Ab.put, putO, Nat.reduceEqDiff, ↓reduceIte, D.val, D.cond, reduceCtorEq]; rfl) rfl ?_
        refine dsF rfl (by simp (disch := omega) only [zG, zN, zC, evQ, evA, avalR, prefB, Ob.beq_refl, stepOp, aval, opv, Ab.get, Ab.put, putO, Nat.reduceEqDiff, ↓reduceIte, D.val, D.cond, reduceCtorEq, binD, bitsD, Nat.reduceAdd, Nat.reduceSub, Nat.reduceMul, Nat.reduceLeDiff, Int.reduceToNat, Int.reduceLE, Int.reduceLT, Int.reduceAdd, Int.reduceSub, Int.reduceMul, Int.reduceNeg, Int.reduceEq, bne_self_eq_false, badG, lengthG, hb, br_wrap, bytes_row, bytes_all, br_len, br_is, br_of, br_rev]; rfl) (by first | with_reducible rfl | omega | (simp; done) | (simp; omega) | rfl) ?_
        refine dsF rfl (by simp only [zC, evQ, evA, avalR, prefB, Ob.beq_refl, stepOp, aval, opv, Ab.get, Ab.put, putO, Nat.reduceEqDiff, ↓reduceIte, D.val, D.cond, reduceCtorEq]; rfl) rfl ?_
        refine dsF rfl (by simp only [zC, evQ, evA, avalR, prefB, Ob.beq_refl, stepOp, aval, opv, Ab.get, Ab.put, putO, Nat.reduceEqDiff, ↓reduceIte, D.val, D.cond, reduceCtorEq]; rfl) rfl ?_
        refine dsN ?_
        simp only [keep, memN, Nat.reduceEqDiff, if_true, if_false, ↓reduceIte, Option.getD_none, Option.getD_some, List.append_nil, List.cons_append, List.nil_append, Bool.false_eq_true]
        refine hK _ _ ?_
        clear hK K
        refine thenQ_normal ?_
        refine WI.ret ?_
        refine ⟨.inr rfl, ?_⟩
        -- leaf 1
        simp (disch := omega) only [zF, retD, resD, finD, plainD, freezeD, freezeL, aval, opv, Ab.get, Nat.reduceEqDiff, ↓reduceIte, D.val, D.cond, Nat.reduceAdd, Nat.reduceLeDiff, Ob.slice?, badG, lengthG, hb, br_wrap, bytes_row, bytes_all, br_len, br_is, br_of, br_rev]
        refine ⟨_, _, rfl, ?_⟩
        simp only [mkR]
        rw [if_pos (by omega)]
  · rw [putB, if_neg hb]
    simp only [Bool.not_eq_true] at hb
    refine FCalls.pure (fcallsG (fz := true) G_ok (p := i14) rfl _ (Nat.le_of_ble_eq_true rfl) _ (fun C0 E0 => ?_)) rfl
    dsimp only [i14, argsφ]
    refine WI.seq ?_
    refine WI.regA tabBer1_ok [0, 1] (fun K hK => ?_)
    refine osS (by simp only [zC, stepOp, aval, opv, Ab.get, Ab.put, putO, Nat.reduceEqDiff, ↓reduceIte, D.val, D.cond, reduceCtorEq]; rfl) rfl ?_
    refine osS (by simp only [zC, stepOp, aval, opv, Ab.get, Ab.put, putO, Nat.reduceEqDiff, ↓reduceIte, D.val, D.cond, reduceCtorEq]; rfl) rfl ?_
    refine osN ?_
    simp only [keep, memN, Nat.reduceEqDiff, if_true, if_false, ↓reduceIte, Option.getD_none, Option.getD_some, List.append_nil, List.cons_append, List.nil_append, Bool.false_eq_true]
    refine hK _ _ ?_
    clear hK K
    refine thenQ_normal ?_
    refine WI.seq ?_
    refine WI.block ?_
    refine WI.seq ?_
    refine WI.regA tabBer1_ok [0, 1, 6] (fun K hK => ?_)
    refine osS (by simp only [zC, stepOp, aval, opv, Ab.get, Ab.put, putO, Nat.reduceEqDiff, ↓reduceIte, D.val, D.cond, reduceCtorEq]; rfl) rfl ?_
    refine osS (by simp (disch := omega) only [zS, viaNN, viaNNT, D.nn, addQ, addT, IE.isCall, Nat.reduceAdd, Nat.reduceSub, Nat.reduceMul, Nat.reduceLeDiff, Nat.reduceLT, Nat.reduceBEq, Int.reduceToNat, Int.reduceLE, Int.reduceLT, Int.reduceAdd, Int.reduceSub, Int.reduceMul, Int.reduceNeg, Int.reduceEq, Nat.reduceEqDiff, runOpsA, runDA, stepOp, aval, aact, opv, Ab.get, Ab.put, putO, keep, memN, D.val, D.cond, D.cells?, D.scalar, X.scalar, D.plain, D.isX, binD, bitsD, eqD, eqFs, eqX, unD, intOf?, lenD, okRef, rowsOf, viewD, viewX, freezeD, freezeL, partsD, buildD, slcStrD, slcSlD, Ob.slice?, ↓reduceIte, reduceCtorEq, evQ, evK, evC, evA, avalR, prefB, eqR, nzD, actT, callT1, callR1, callK1, valsL, condsL, optV, noTabs, IE.frame, memB, zeroO, IntWalk.i64_in, badG, lengthG, hb, br_wrap, br_len, br_is, br_of, br_rev, tabBer1_r, tabBer1_k, tabBer1_q42, tabBer1_q43]; rfl) (by first | with_reducible rfl | omega | (simp; done) | (simp; omega) | rfl) ?_
    refine osS (by simp only [zC, stepOp, aval, opv, Ab.get, Ab.put, putO, Nat.reduceEqDiff, ↓reduceIte, D.val, D.cond, reduceCtorEq]; rfl) rfl ?_
    refine osN ?_
    simp only [keep, memN, Nat.reduceEqDiff, if_true, if_false, ↓reduceIte, Option.getD_none, Option.getD_some, List.append_nil, List.cons_append, List.nil_append, Bool.false_eq_true]
    refine hK _ _ ?_
    clear hK K
    refine thenQ_normal ?_
    refine WI.cond (b := _) rfl rfl (fun h0 => ?_) (fun h0 => ?_)
    · try simp only [zB] at h0
      refine WI.seq ?_
      refine WI.regA tabBer1_ok [4, 5] (fun K hK => ?_)
      refine osS (by simp only [zC, stepOp, aval, opv, Ab.get, Ab.put, putO, Nat.reduceEqDiff, ↓reduceIte, D.val, D.cond, reduceCtorEq]; rfl) rfl ?_
      refine osS (by simp only [zC, stepOp, aval, opv, Ab.get, Ab.put, putO, Nat.reduceEqDiff, ↓reduceIte, D.val, D.cond, reduceCtorEq]; rfl) rfl ?_
      refine osN ?_
      simp only [keep, memN, Nat.reduceEqDiff, if_true, if_false, ↓reduceIte, Option.getD_none, Option.getD_some, List.append_nil, List.cons_append, List.nil_append, Bool.false_eq_true]
      refine hK _ _ ?_
      clear hK K
      refine thenQ_normal ?_
      refine WI.ret ?_
      refine blockQ_ret ?_
      refine thenQ_ret ?_
      refine ⟨.inr rfl, ?_⟩
      -- leaf 0
      simp (disch := omega) only [zF, retD, resD, finD, plainD, freezeD, freezeL, aval, opv, Ab.get, Nat.reduceEqDiff, ↓reduceIte, D.val, D.cond, Nat.reduceAdd, Nat.reduceLeDiff, Ob.slice?, badG, lengthG, hb, br_wrap, bytes_row, bytes_all, br_len, br_is, br_of, br_rev]
      refine ⟨_, _, rfl, ?_⟩
      simp only [mkR]
      all_goals first | exact ⟨rfl, rfl⟩ | exact ⟨trivial, trivial⟩ | rfl | trivial
    · exfalso
      simp at h0
theorem putR_c (t : Int) (s : List UInt8) : PCalls Try.prog 15 [.x (.int .i64 t), .x (.str s)] (.tup [.x (.str (putB t s).1), .x (.int .i64 (putB t s).2)]) := by
  have e : ∀ n : Nat, tagB n = true → putB n s = if s.length ≤ 65536 then (UInt8.ofNat n :: (lenB s.length ++ s), 0) else ([], 3) := by
    intro n h; rw [putB, if_pos h]; rfl
  by_cases hb : tagB t = true
  · obtain ⟨n, rfl, hn⟩ := tagB_nat hb
    rw [e n hb]
    refine FCalls.pure (fcallsG (fz := true) G_ok (p := i15) rfl _ (Nat.le_of_ble_eq_true rfl) _ (fun C0 E0 => ?_)) rfl
    dsimp only [i15, argsφ]
    refine WI.seq ?_
    refine WI.regA tabBer1R_ok [0, 1] (fun K hK => ?_)
    refine osS (by simp only [zC, stepOp, aval, opv, Ab.get, Ab.put, putO, Nat.reduceEqDiff, ↓reduceIte, D.val, D.cond, reduceCtorEq]; rfl) rfl ?_
    refine osS (by simp only [zC, stepOp, aval, opv, Ab.get, Ab.put, putO, Nat.reduceEqDiff, ↓reduceIte, D.val, D.cond, reduceCtorEq]; rfl) rfl ?_
    refine osN ?_
    simp only [keep, memN, Nat.reduceEqDiff, if_true, if_false, ↓reduceIte, Option.getD_none, Option.getD_some, List.append_nil, List.cons_append, List.nil_append, Bool.false_eq_true]
    refine hK _ _ ?_
    clear hK K
    refine thenQ_normal ?_
    refine WI.seq ?_
    refine WI.block ?_
    refine WI.seq ?_
    refine WI.regA tabBer1R_ok [0, 1, 6] (fun K hK => ?_)
    refine osS (by simp only [zC, stepOp, aval, opv, Ab.get, Ab.put, putO, Nat.reduceEqDiff, ↓reduceIte, D.val, D.cond, reduceCtorEq]; rfl) rfl ?_
    refine osS (by simp (disch := omega) only [zS, viaNN, viaNNT, D.nn, addQ, addT, IE.isCall, Nat.reduceAdd, Nat.reduceSub, Nat.reduceMul, Nat.reduceLeDiff, Nat.reduceLT, Nat.reduceBEq, Int.reduceToNat, Int.reduceLE, Int.reduceLT, Int.reduceAdd, Int.reduceSub, Int.reduceMul, Int.reduceNeg, Int.reduceEq, Nat.reduceEqDiff, runOpsA, runDA, stepOp, aval, aact, opv, Ab.get, Ab.put, putO, keep, memN, D.val, D.cond, D.cells?, D.scalar, X.scalar, D.plain, D.isX, binD, bitsD, eqD, eqFs, eqX, unD, intOf?, lenD, okRef, rowsOf, viewD, viewX, freezeD, freezeL, partsD, buildD, slcStrD, slcSlD, Ob.slice?, ↓reduceIte, reduceCtorEq, evQ, evK, evC, evA, avalR, prefB, eqR, nzD, actT, callT1, callR1, callK1, valsL, condsL, optV, noTabs, IE.frame, memB, zeroO, IntWalk.i64_in, taggedG, lengthRG, hb, br_wrap, br_len, br_is, br_of, br_rev, tabBer1R_r, tabBer1R_k, tabBer1R_q44, tabBer1R_q45]; rfl) (by first | with_reducible rfl | omega | (simp; done) | (simp; omega) | rfl) ?_
    refine osS (by simp (disch := omega) only [zG, zC, stepOp, aval, opv, Ab.get, Ab.put, putO, Nat.reduceEqDiff, ↓reduceIte, D.val, D.cond, reduceCtorEq, unD, taggedG, lengthRG, hb, br_wrap, bytes_row, bytes_all, br_len, br_is, br_of, br_rev]; rfl) (by first | with_reducible rfl | omega | (simp; done) | (simp; omega) | rfl) ?_
    refine osS (by simp only [zC, stepOp, aval, opv, Ab.get, Ab.put, putO, Nat.reduceEqDiff, ↓reduceIte, D.val, D.cond, reduceCtorEq]; rfl) rfl ?_
    refine osN ?_
    simp only [keep, memN, Nat.reduceEqDiff, if_true, if_false, ↓reduceIte, Option.getD_none, Option.getD_some, List.append_nil, List.cons_append, List.nil_append, Bool.false_eq_true]
    refine hK _ _ ?_
    clear hK K
    refine thenQ_normal ?_
    refine WI.cond (b := _) rfl rfl (fun h0 => ?_) (fun h0 => ?_)
    · exfalso
      simp at h0
    · try simp only [zB] at h0
      refine WI.seq ?_
      refine WI.regA tabBer1R_ok [0, 1, 10] (fun K hK => ?_)
      refine osS (by simp only [zC, stepOp, aval, opv, Ab.get, Ab.put, putO, Nat.reduceEqDiff, ↓reduceIte, D.val, D.cond, reduceCtorEq]; rfl) rfl ?_
      refine osS (by simp (disch := omega) only [zL, zR, zC, stepOp, aval, opv, Ab.get, Ab.put, putO, Nat.reduceEqDiff, ↓reduceIte, D.val, D.cond, reduceCtorEq, lenD, okRef, Nat.reduceAdd, Nat.reduceLeDiff, Ob.slice?, taggedG, lengthRG, hb, br_wrap, bytes_row, bytes_all, br_len, br_is, br_of, br_rev]; rfl) (by first | with_reducible rfl | omega | (simp; done) | (simp; omega) | rfl) ?_
      refine osS (by simp (disch := omega) only [zG, zN, zC, stepOp, aval, opv, Ab.get, Ab.put, putO, Nat.reduceEqDiff, ↓reduceIte, D.val, D.cond, reduceCtorEq, binD, bitsD, Nat.reduceAdd, Nat.reduceSub, Nat.reduceMul, Nat.reduceLeDiff, Int.reduceToNat, Int.reduceLE, Int.reduceLT, Int.reduceAdd, Int.reduceSub, Int.reduceMul, Int.reduceNeg, Int.reduceEq, bne_self_eq_false, taggedG, lengthRG, hb, br_wrap, bytes_row, bytes_all, br_len, br_is, br_of, br_rev]; rfl) (by first | with_reducible rfl | omega | (simp; done) | (simp; omega) | rfl) ?_
      refine osS (by simp only [zC, stepOp, aval, opv, Ab.get, Ab.put, putO, Nat.reduceEqDiff, ↓reduceIte, D.val, D.cond, reduceCtorEq]; rfl) rfl ?_
      refine osN ?_
      simp only [keep, memN, Nat.reduceEqDiff, if_true, if_false, ↓reduceIte, Option.getD_none, Option.getD_some, List.append_nil, List.cons_append, List.nil_append, Bool.false_eq_true]
      refine hK _ _ ?_
      clear hK K
      refine thenQ_normal ?_
      refine WI.cond (b := _) rfl rfl (fun h1 => ?_) (fun h1 => ?_)
      · try simp only [zB] at h1
        refine WI.seq ?_
        refine WI.regA tabBer1R_ok [4, 5] (fun K hK => ?_)
        refine osS (by simp only [zC, stepOp, aval, opv, Ab.get, Ab.put, putO, Nat.reduceEqDiff, ↓reduceIte, D.val, D.cond, reduceCtorEq]; rfl) rfl ?_
        refine osS (by simp only [zC, stepOp, aval, opv, Ab.get, Ab.put, putO, Nat.reduceEqDiff, ↓reduceIte, D.val, D.cond, reduceCtorEq]; rfl) rfl ?_
        refine osN ?_
        simp only [keep, memN, Nat.reduceEqDiff, if_true, if_false, ↓reduceIte, Option.getD_none, Option.getD_some, List.append_nil, List.cons_append, List.nil_append, Bool.false_eq_true]
        refine hK _ _ ?_
        clear hK K
        refine thenQ_normal ?_
        refine WI.ret ?_
        refine blockQ_ret ?_
        refine thenQ_ret ?_
        refine ⟨.inr rfl, ?_⟩
        -- leaf 0
        simp (disch := omega) only [zF, retD, resD, finD, plainD, freezeD, freezeL, aval, opv, Ab.get, Nat.reduceEqDiff, ↓reduceIte, D.val, D.cond, Nat.reduceAdd, Nat.reduceLeDiff, Ob.slice?, taggedG, lengthRG, hb, br_wrap, bytes_row, bytes_all, br_len, br_is, br_of, br_rev]
        refine ⟨_, _, rfl, ?_⟩
        simp only [mkR]
        rw [if_neg (by omega)]
      · try simp only [zB] at h1
        refine WI.skip ?_
        refine blockQ_normal ?_
        refine thenQ_normal ?_
        refine WI.seq ?_
        have hL := lenB_le s.length (by omega)
        refine WI.dregA tabBer1R_ok [4, 5] (fun K hK => ?_)
        refine dsF rfl (by simp only [zC, evQ, evA, avalR, prefB, Ob.beq_refl, stepOp, aval, opv, Ab.get, Ab.put, putO, Nat.reduceEqDiff, ↓reduceIte, D.val, D.cond, reduceCtorEq]; rfl) rfl ?_
        refine dsF rfl (by simp (disch := omega) only [zM, evQ, evA, avalR, prefB, Ob.beq_refl, stepOp, aval, opv, Ab.get, Ab.put, putO, Nat.reduceEqDiff, ↓reduceIte, D.val, D.cond, reduceCtorEq, aact, actT, IE.isCall, D.cells?, Nat.reduceAdd, Nat.reduceLeDiff, Ob.slice?, Nat.reduceSub, Nat.reduceMul, Int.reduceToNat, Int.reduceLE, Int.reduceLT, Int.reduceAdd, Int.reduceSub, Int.reduceMul, Int.reduceNeg, Int.reduceEq, rowsOf, srcOf, okRef, intOf?, partsD, freezeL, freezeD, buildD, slcStrD, slcSlD, optV, zeroO, eqR, eqD, eqFs, eqX, nzD, binD, unD, lenD, evK, evC, Nat.reduceLT, taggedG, lengthRG, hb, br_wrap, br_len, br_is, br_of, br_rev]; rfl) (by first | with_reducible rfl | omega | (simp; done) | (simp; omega) | rfl) ?_
        refine dsK rfl rfl rfl (by simp (disch := omega) only [zS, viaNN, viaNNT, D.nn, addQ, addT, IE.isCall, Nat.reduceAdd, Nat.reduceSub, Nat.reduceMul, Nat.reduceLeDiff, Nat.reduceLT, Nat.reduceBEq, Int.reduceToNat, Int.reduceLE, Int.reduceLT, Int.reduceAdd, Int.reduceSub, Int.reduceMul, Int.reduceNeg, Int.reduceEq, Nat.reduceEqDiff, runOpsA, runDA, stepOp, aval, aact, opv, Ab.get, Ab.put, putO, keep, memN, D.val, D.cond, D.cells?, D.scalar, X.scalar, D.plain, D.isX, binD, bitsD, eqD, eqFs, eqX, unD, intOf?, lenD, okRef, rowsOf, viewD, viewX, freezeD, freezeL, partsD, buildD, slcStrD, slcSlD, Ob.slice?, ↓reduceIte, reduceCtorEq, evQ, evK, evC, evA, avalR, prefB, eqR, nzD, actT, callT1, callR1, callK1, valsL, condsL, optV, noTabs, IE.frame, memB, zeroO, IntWalk.i64_in, taggedG, lengthRG, hb, br_wrap, br_len, br_is, br_of, br_rev, tabBer1R_r, tabBer1R_k, tabBer1R_q44, tabBer1R_q45]) (by simp (disch := omega) only [zM, evQ, evA, avalR, prefB, Ob.beq_refl, stepOp, aval, opv, Ab.get, Ab.put, putO, Nat.reduceEqDiff, ↓reduceIte, D.val, D.cond, reduceCtorEq, aact, actT, IE.isCall, D.cells?, Nat.reduceAdd, Nat.reduceLeDiff, Ob.slice?, Nat.reduceSub, Nat.reduceMul, Int.reduceToNat, Int.reduceLE, Int.reduceLT, Int.reduceAdd, Int.reduceSub, Int.reduceMul, Int.reduceNeg, Int.reduceEq, rowsOf, srcOf, okRef, intOf?, partsD, freezeL, freezeD, buildD, slcStrD, slcSlD, optV, zeroO, eqR, eqD, eqFs, eqX, nzD, binD, unD, lenD, evK, evC, Nat.reduceLT, taggedG, lengthRG, hb, br_wrap, br_len, br_is, br_of, br_rev]; rfl) (by first | with_reducible rfl | omega | (simp; done) | (simp; omega) | rfl) ?_
        refine dsM rfl rfl rfl (by simp (disch := omega) only [zM, evQ, evA, avalR, prefB, Ob.beq_refl, stepOp, aval, opv, Ab.get, Ab.put, putO, Nat.reduceEqDiff, ↓reduceIte, D.val, D.cond, reduceCtorEq, aact, actT, IE.isCall, D.cells?, Nat.reduceAdd, Nat.reduceLeDiff, Ob.slice?, Nat.reduceSub, Nat.reduceMul, Int.reduceToNat, Int.reduceLE, Int.reduceLT, Int.reduceAdd, Int.reduceSub, Int.reduceMul, Int.reduceNeg, Int.reduceEq, rowsOf, srcOf, okRef, intOf?, partsD, freezeL, freezeD, buildD, slcStrD, slcSlD, optV, zeroO, eqR, eqD, eqFs, eqX, nzD, binD, unD, lenD, evK, evC, Nat.reduceLT, taggedG, lengthRG, hb, br_wrap, br_len, br_is, br_of, br_rev, List.getElem?_nil] <;> rfl) (by simp (disch := omega) only [zM, evQ, evA, avalR, prefB, Ob.beq_refl, stepOp, aval, opv, Ab.get, Ab.put, putO, Nat.reduceEqDiff, ↓reduceIte, D.val, D.cond, reduceCtorEq, aact, actT, IE.isCall, D.cells?, Nat.reduceAdd, Nat.reduceLeDiff, Ob.slice?, Nat.reduceSub, Nat.reduceMul, Int.reduceToNat, Int.reduceLE, Int.reduceLT, Int.reduceAdd, Int.reduceSub, Int.reduceMul, Int.reduceNeg, Int.reduceEq, rowsOf, srcOf, okRef, intOf?, partsD, freezeL, freezeD, buildD, slcStrD, slcSlD, optV, zeroO, eqR, eqD, eqFs, eqX, nzD, binD, unD, lenD, evK, evC, Nat.reduceLT, taggedG, lengthRG, hb, br_wrap, br_len, br_is, br_of, br_rev, nearQ, List.getElem?_nil]; rfl) (by first | with_reducible rfl | omega | (simp; done) | (simp; omega) | rfl) ?_
        refine dsF rfl (by simp only [zC, evQ, evA, avalR, prefB, Ob.beq_refl, stepOp, aval, opv, Ab.get, Ab.put, putO, Nat.reduceEqDiff, ↓reduceIte, D.val, D.cond, reduceCtorEq]; rfl) rfl ?_
        refine dsF rfl (by simp (disch := omega) only [zL, zR, zC, evQ, evA, avalR, prefB, Ob.beq_refl, stepOp, aval, opv, Ab.get, Ab.put, putO, Nat.reduceEqDiff, ↓reduceIte, D.val, D.cond, reduceCtorEq, lenD, okRef, Nat.reduceAdd, Nat.reduceLeDiff, Ob.slice?, taggedG, lengthRG, hb, br_wrap, bytes_row, bytes_all, br_len, br_is, br_of, br_rev]; rfl) (by first | with_reducible rfl | omega | (simp; done) | (simp; omega) | rfl) ?_
        refine dsQ rfl rfl rfl (by simp (disch := omega) only [zS, viaNN, viaNNT, D.nn, addQ, addT, IE.isCall, Nat.reduceAdd, Nat.reduceSub, Nat.reduceMul, Nat.reduceLeDiff, Nat.reduceLT, Nat.reduceBEq, Int.reduceToNat, Int.reduceLE, Int.reduceLT, Int.reduceAdd, Int.reduceSub, Int.reduceMul, Int.reduceNeg, Int.reduceEq, Nat.reduceEqDiff, runOpsA, runDA, stepOp, aval, aact, opv, Ab.get, Ab.put, putO, keep, memN, D.val, D.cond, D.cells?, D.scalar, X.scalar, D.plain, D.isX, binD, bitsD, eqD, eqFs, eqX, unD, intOf?, lenD, okRef, rowsOf, viewD, viewX, freezeD, freezeL, partsD, buildD, slcStrD, slcSlD, Ob.slice?, ↓reduceIte, reduceCtorEq, evQ, evK, evC, evA, avalR, prefB, eqR, nzD, actT, callT1, callR1, callK1, valsL, condsL, optV, noTabs, IE.frame, memB, zeroO, IntWalk.i64_in, taggedG, lengthRG, hb, br_wrap, br_len, br_is, br_of, br_rev, tabBer1R_r, tabBer1R_k, tabBer1R_q44, tabBer1R_q45]; rfl) (by first | with_reducible rfl | omega | (simp; done) | (simp; omega) | rfl) ?_
        refine dsF rfl (by simp (disch := omega) only [zG, zN, zC, evQ, evA, avalR, prefB, Ob.beq_refl, stepOp, aval, opv, Ab.get, Ab.put, putO, Nat.reduceEqDiff, ↓reduceIte, D.val, D.cond, reduceCtorEq, binD, bitsD, Nat.reduceAdd, Nat.reduceSub, Nat.reduceMul, Nat.reduceLeDiff, Int.reduceToNat, Int.reduceLE, Int.reduceLT, Int.reduceAdd, Int.reduceSub, Int.reduceMul, Int.reduceNeg, Int.reduceEq, bne_self_eq_false, taggedG, lengthRG, hb, br_wrap, bytes_row, bytes_all, br_len, br_is, br_of, br_rev]; rfl) (by first | with_reducible rfl | omega | (simp; done) | (simp; omega) | rfl) ?_
        refine dsF rfl (by simp only [zC, evQ, evA, avalR, prefB, Ob.beq_refl, stepOp, aval, opv, Ab.get, Ab.put, putO, Nat.reduceEqDiff, ↓reduceIte, D.val, D.cond, reduceCtorEq]; rfl) rfl ?_
        refine dsF rfl (by simp (disch := omega) only [zG, zN, zC, evQ, evA, avalR, prefB, Ob.beq_refl, stepOp, aval, opv, Ab.get, Ab.put, putO, Nat.reduceEqDiff, ↓reduceIte, D.val, D.cond, reduceCtorEq, binD, bitsD, Nat.reduceAdd, Nat.reduceSub, Nat.reduceMul, Nat.reduceLeDiff, Int.reduceToNat, Int.reduceLE, Int.reduceLT, Int.reduceAdd, Int.reduceSub, Int.reduceMul, Int.reduceNeg, Int.reduceEq, bne_self_eq_false, taggedG, lengthRG, hb, br_wrap, bytes_row, bytes_all, br_len, br_is, br_of, br_rev]; rfl) (by first | with_reducible rfl | omega | (simp; done) | (simp; omega) | rfl) ?_
        refine dsF rfl (by simp only [zC, evQ, evA, avalR, prefB, Ob.beq_refl, stepOp, aval, opv, Ab.get, Ab.put, putO, Nat.reduceEqDiff, ↓reduceIte, D.val, D.cond, reduceCtorEq]; rfl) rfl ?_
        refine dsF rfl (by simp only [zC, evQ, evA, avalR, prefB, Ob.beq_refl, stepOp, aval, opv, Ab.get, Ab.put, putO, Nat.reduceEqDiff, ↓reduceIte, D.val, D.cond, reduceCtorEq]; rfl) rfl ?_
        refine dsN ?_
        simp only [keep, memN, Nat.reduceEqDiff, if_true, if_false, ↓reduceIte, Option.getD_none, Option.getD_some, List.append_nil, List.cons_append, List.nil_append, Bool.false_eq_true]
        refine hK _ _ ?_
        clear hK K
        refine thenQ_normal ?_
        refine WI.ret ?_
        refine ⟨.inr rfl, ?_⟩
        -- leaf 1
        simp (disch := omega) only [zF, retD, resD, finD, plainD, freezeD, freezeL, aval, opv, Ab.get, Nat.reduceEqDiff, ↓reduceIte, D.val, D.cond, Nat.reduceAdd, Nat.reduceLeDiff, Ob.slice?, taggedG, lengthRG, hb, br_wrap, bytes_row, bytes_all, br_len, br_is, br_of, br_rev]
        refine ⟨_, _, rfl, ?_⟩
        simp only [mkR]
        rw [if_pos (by omega)]
  · rw [putB, if_neg hb]
    simp only [Bool.not_eq_true] at hb
    refine FCalls.pure (fcallsG (fz := true) G_ok (p := i15) rfl _ (Nat.le_of_ble_eq_true rfl) _ (fun C0 E0 => ?_)) rfl
    dsimp only [i15, argsφ]
    refine WI.seq ?_
    refine WI.regA tabBer1R_ok [0, 1] (fun K hK => ?_)
    refine osS (by simp only [zC, stepOp, aval, opv, Ab.get, Ab.put, putO, Nat.reduceEqDiff, ↓reduceIte, D.val, D.cond, reduceCtorEq]; rfl) rfl ?_
    refine osS (by simp only [zC, stepOp, aval, opv, Ab.get, Ab.put, putO, Nat.reduceEqDiff, ↓reduceIte, D.val, D.cond, reduceCtorEq]; rfl) rfl ?_
    refine osN ?_
    simp only [keep, memN, Nat.reduceEqDiff, if_true, if_false, ↓reduceIte, Option.getD_none, Option.getD_some, List.append_nil, List.cons_append, List.nil_append, Bool.false_eq_true]
    refine hK _ _ ?_
    clear hK K
    refine thenQ_normal ?_
    refine WI.seq ?_
    refine WI.block ?_
    refine WI.seq ?_
    refine WI.regA tabBer1R_ok [0, 1, 6] (fun K hK => ?_)
    refine osS (by simp only [zC, stepOp, aval, opv, Ab.get, Ab.put, putO, Nat.reduceEqDiff, ↓reduceIte, D.val, D.cond, reduceCtorEq]; rfl) rfl ?_
    refine osS (by simp (disch := omega) only [zS, viaNN, viaNNT, D.nn, addQ, addT, IE.isCall, Nat.reduceAdd, Nat.reduceSub, Nat.reduceMul, Nat.reduceLeDiff, Nat.reduceLT, Nat.reduceBEq, Int.reduceToNat, Int.reduceLE, Int.reduceLT, Int.reduceAdd, Int.reduceSub, Int.reduceMul, Int.reduceNeg, Int.reduceEq, Nat.reduceEqDiff, runOpsA, runDA, stepOp, aval, aact, opv, Ab.get, Ab.put, putO, keep, memN, D.val, D.cond, D.cells?, D.scalar, X.scalar, D.plain, D.isX, binD, bitsD, eqD, eqFs, eqX, unD, intOf?, lenD, okRef, rowsOf, viewD, viewX, freezeD, freezeL, partsD, buildD, slcStrD, slcSlD, Ob.slice?, ↓reduceIte, reduceCtorEq, evQ, evK, evC, evA, avalR, prefB, eqR, nzD, actT, callT1, callR1, callK1, valsL, condsL, optV, noTabs, IE.frame, memB, zeroO, IntWalk.i64_in, taggedG, lengthRG, hb, br_wrap, br_len, br_is, br_of, br_rev, tabBer1R_r, tabBer1R_k, tabBer1R_q44, tabBer1R_q45]; rfl) (by first | with_reducible rfl | omega | (simp; done) | (simp; omega) | rfl) ?_
    refine osS (by simp (disch := omega) only [zG, zC, stepOp, aval, opv, Ab.get, Ab.put, putO, Nat.reduceEqDiff, ↓reduceIte, D.val, D.cond, reduceCtorEq, unD, taggedG, lengthRG, hb, br_wrap, bytes_row, bytes_all, br_len, br_is, br_of, br_rev]; rfl) (by first | with_reducible rfl | omega | (simp; done) | (simp; omega) | rfl) ?_
    refine osS (by simp only [zC, stepOp, aval, opv, Ab.get, Ab.put, putO, Nat.reduceEqDiff, ↓reduceIte, D.val, D.cond, reduceCtorEq]; rfl) rfl ?_
    refine osN ?_
    simp only [keep, memN, Nat.reduceEqDiff, if_true, if_false, ↓reduceIte, Option.getD_none, Option.getD_some, List.append_nil, List.cons_append, List.nil_append, Bool.false_eq_true]
    refine hK _ _ ?_
    clear hK K
    refine thenQ_normal ?_
    refine WI.cond (b := _) rfl rfl (fun h0 => ?_) (fun h0 => ?_)
    · try simp only [zB] at h0
      refine WI.seq ?_
      refine WI.regA tabBer1R_ok [4, 5] (fun K hK => ?_)
      refine osS (by simp only [zC, stepOp, aval, opv, Ab.get, Ab.put, putO, Nat.reduceEqDiff, ↓reduceIte, D.val, D.cond, reduceCtorEq]; rfl) rfl ?_
      refine osS (by simp only [zC, stepOp, aval, opv, Ab.get, Ab.put, putO, Nat.reduceEqDiff, ↓reduceIte, D.val, D.cond, reduceCtorEq]; rfl) rfl ?_
      refine osN ?_
      simp only [keep, memN, Nat.reduceEqDiff, if_true, if_false, ↓reduceIte, Option.getD_none, Option.getD_some, List.append_nil, List.cons_append, List.nil_append, Bool.false_eq_true]
      refine hK _ _ ?_
      clear hK K
      refine thenQ_normal ?_
      refine WI.ret ?_
      refine blockQ_ret ?_
      refine thenQ_ret ?_
      refine ⟨.inr rfl, ?_⟩
      -- leaf 0
      simp (disch := omega) only [zF, retD, resD, finD, plainD, freezeD, freezeL, aval, opv, Ab.get, Nat.reduceEqDiff, ↓reduceIte, D.val, D.cond, Nat.reduceAdd, Nat.reduceLeDiff, Ob.slice?, taggedG, lengthRG, hb, br_wrap, bytes_row, bytes_all, br_len, br_is, br_of, br_rev]
      refine ⟨_, _, rfl, ?_⟩
      simp only [mkR]
      all_goals first | exact ⟨rfl, rfl⟩ | exact ⟨trivial, trivial⟩ | rfl | trivial
    · exfalso
      simp at h0
def putG : List D → Option (Bool × D)
  | [.x (.int .i64 t), .x (.str s)] => some (true, .tup [.x (.str (putB t s).1), .x (.int .i64 (putB t s).2)])
  | _ => none
theorem putG_ok : ∀ args r, putG args = some (true, r) → PCalls Try.prog 14 args r := by
  intro args r h
  unfold putG at h
  split at h
  · rename_i t s
    simp only [Option.some.injEq, Prod.mk.injEq, Bool.and_eq_true, decide_eq_true_eq, true_and] at h
    obtain rfl := h
    exact put_c t s
  · cases h
def putRG : List D → Option (Bool × D)
  | [.x (.int .i64 t), .x (.str s)] => some (true, .tup [.x (.str (putB t s).1), .x (.int .i64 (putB t s).2)])
  | _ => none
theorem putRG_ok : ∀ args r, putRG args = some (true, r) → PCalls Try.prog 15 args r := by
  intro args r h
  unfold putRG at h
  split at h
  · rename_i t s
    simp only [Option.some.injEq, Prod.mk.injEq, Bool.and_eq_true, decide_eq_true_eq, true_and] at h
    obtain rfl := h
    exact putR_c t s
  · cases h

/-- The number of big-endian bytes. -/
def valB (l : List UInt8) : Nat := l.foldl (fun n c => n * 256 + c.toNat) 0
theorem valB_snoc (l : List UInt8) (c : UInt8) : valB (l ++ [c]) = valB l * 256 + c.toNat := by simp [valB]
theorem valF (l : List UInt8) : ∀ a, l.foldl (fun n c => n * 256 + c.toNat) a + 1 ≤ (a + 1) * 256 ^ l.length := by
  induction l with
  | nil => intro a; simp
  | cons c l ih =>
    intro a
    have h1 := ih (a * 256 + c.toNat)
    have h2 := c.toNat_lt
    have h3 : (a * 256 + c.toNat + 1) * 256 ^ l.length ≤ ((a + 1) * 256) * 256 ^ l.length := Nat.mul_le_mul_right _ (by omega)
    rw [List.foldl_cons, List.length_cons, Nat.pow_succ, Nat.mul_comm (256 ^ l.length) 256, ← Nat.mul_assoc]
    omega
theorem valB_lt (l : List UInt8) (k : Nat) (h : l.length ≤ k) : valB l < 256 ^ k := by
  have h1 := valF l 0
  have h2 : 256 ^ l.length ≤ 256 ^ k := Nat.pow_le_pow_right (by decide) h
  unfold valB; omega
theorem or8 (n : Nat) (c : UInt8) (hn : n < 16777216) : IntKind.i64.wrap ((BitVec.ofInt IntKind.i64.bits (IntKind.i64.wrap ((n : Int) * 2 ^ min 8 IntKind.i64.bits)) ||| BitVec.ofInt IntKind.i64.bits (c.toNat : Int)).toNat : Int) = ((n * 256 + c.toNat : Nat) : Int) := by
  have hc := c.toNat_lt
  have e1 : (n : Int) * 2 ^ min 8 IntKind.i64.bits = ((n * 256 : Nat) : Int) := by show (n : Int) * 256 = _; omega
  rw [e1, show IntKind.i64.wrap ((n * 256 : Nat) : Int) = ((n * 256 : Nat) : Int) from IntWalk.i64_in _ (by omega)]
  have h1 : (BitVec.ofInt IntKind.i64.bits ((n * 256 : Nat) : Int)).toNat = n * 256 := by
    rw [BitVec.toNat_ofInt]; show ((((n * 256 : Nat) : Int)) % 18446744073709551616).toNat = _; omega
  have h2 : (BitVec.ofInt IntKind.i64.bits (c.toNat : Int)).toNat = c.toNat := by
    rw [BitVec.toNat_ofInt]; show (((c.toNat : Int)) % 18446744073709551616).toNat = _; omega
  rw [BitVec.toNat_or, h1, h2, show n * 256 = n <<< 8 by rw [Nat.shiftLeft_eq], ← Nat.shiftLeft_add_eq_or_of_lt hc, Nat.shiftLeft_eq, IntWalk.i64_in _ (by omega)]
theorem one_toNat (m : Nat) : (1 + (m : Int)).toNat = m + 1 := by omega
theorem two_toNat (m : Nat) : (2 + (m : Int)).toNat = m + 2 := by omega
/-- A length of several bytes. -/
def longB (c : UInt8) (r : List UInt8) : Nat × Nat × Int :=
  let m := c.toNat - 128
  if m = 0 ∨ 4 < m then (0, 0, 5) else if r.length < m then (0, 0, 4) else
    let n := valB (r.take m)
    if lenB n ≠ c :: r.take m then (0, 0, 5) else if 65536 < n then (0, 0, 3) else (n, 1 + m, 0)
def headB : List UInt8 → Nat × Nat × Nat × Int
  | [] => (0, 0, 0, 4)
  | t :: s => if tagB t.toNat = true then match s with
    | [] => (0, 0, 0, 4)
    | c :: r => if c.toNat < 128 then (t.toNat, c.toNat, 2, 0) else
      if (longB c r).2.2 = 0 then (t.toNat, (longB c r).1, 1 + (longB c r).2.1, 0) else (0, 0, 0, (longB c r).2.2)
    else (0, 0, 0, 6)
set_option maxHeartbeats 1000000 in
theorem long_c (c : UInt8) (r : List UInt8) (h : 128 ≤ c.toNat) : PCalls Try.prog 46 [.x (.str (c :: r))] (.tup [.x (.int .i64 (longB c r).1), .x (.int .i64 (longB c r).2.1), .x (.int .i64 (longB c r).2.2)]) := by
  have hc := c.toNat_lt
  have hm : (c.toNat : Int) - 128 = ((c.toNat - 128 : Nat) : Int) := by omega
  have hm4 : c.toNat - 128 < 128 := by omega
  have eL : longB c r = if c.toNat - 128 = 0 ∨ 4 < c.toNat - 128 then (0, 0, 5) else if r.length < c.toNat - 128 then (0, 0, 4) else
      if lenB (valB (r.take (c.toNat - 128))) ≠ c :: r.take (c.toNat - 128) then (0, 0, 5) else if 65536 < valB (r.take (c.toNat - 128)) then (0, 0, 3) else (valB (r.take (c.toNat - 128)), 1 + (c.toNat - 128), 0) := rfl
  generalize hmm : c.toNat - 128 = m at *
  refine FCalls.pure (fcallsG (fz := true) G_ok (p := i46) rfl _ (Nat.le_of_ble_eq_true rfl) _ (fun C0 E0 => ?_)) rfl
  dsimp only [i46, argsφ]
  refine WI.seq ?_
  refine WI.regA tabBer1_ok [0] (fun K hK => ?_)
  refine osS (by simp only [zC, stepOp, aval, opv, Ab.get, Ab.put, putO, Nat.reduceEqDiff, ↓reduceIte, D.val, D.cond, reduceCtorEq]; rfl) rfl ?_
  refine osS (by simp only [zC, stepOp, aval, opv, Ab.get, Ab.put, putO, Nat.reduceEqDiff, ↓reduceIte, D.val, D.cond, reduceCtorEq]; rfl) rfl ?_
  refine osS (by simp only [zC, stepOp, aval, opv, Ab.get, Ab.put, putO, Nat.reduceEqDiff, ↓reduceIte, D.val, D.cond, reduceCtorEq]; rfl) rfl ?_
  refine osN ?_
  simp only [keep, memN, Nat.reduceEqDiff, if_true, if_false, ↓reduceIte, Option.getD_none, Option.getD_some, List.append_nil, List.cons_append, List.nil_append, Bool.false_eq_true]
  refine hK _ _ ?_
  clear hK K
  refine thenQ_normal ?_
  refine WI.seq ?_
  refine WI.regA tabBer1_ok [0, 5] (fun K hK => ?_)
  refine osS (by simp only [zC, stepOp, aval, opv, Ab.get, Ab.put, putO, Nat.reduceEqDiff, ↓reduceIte, D.val, D.cond, reduceCtorEq]; rfl) rfl ?_
  refine osS (by simp (disch := omega) only [zM, stepOp, aval, opv, Ab.get, Ab.put, putO, Nat.reduceEqDiff, ↓reduceIte, D.val, D.cond, reduceCtorEq, aact, actT, IE.isCall, D.cells?, Nat.reduceAdd, Nat.reduceLeDiff, Ob.slice?, Nat.reduceSub, Nat.reduceMul, Int.reduceToNat, Int.reduceLE, Int.reduceLT, Int.reduceAdd, Int.reduceSub, Int.reduceMul, Int.reduceNeg, Int.reduceEq, rowsOf, srcOf, okRef, intOf?, partsD, freezeL, freezeD, buildD, slcStrD, slcSlD, optV, zeroO, eqR, eqD, eqFs, eqX, nzD, binD, unD, lenD, evK, evC, Nat.reduceLT, lengthG, hm, List.getD_cons_zero, one_toNat, or8]; rfl) (by first | with_reducible rfl | omega | (simp; done) | (simp; omega) | rfl) ?_
  refine osS (by simp (disch := omega) only [zM, stepOp, aval, opv, Ab.get, Ab.put, putO, Nat.reduceEqDiff, ↓reduceIte, D.val, D.cond, reduceCtorEq, aact, actT, IE.isCall, D.cells?, Nat.reduceAdd, Nat.reduceLeDiff, Ob.slice?, Nat.reduceSub, Nat.reduceMul, Int.reduceToNat, Int.reduceLE, Int.reduceLT, Int.reduceAdd, Int.reduceSub, Int.reduceMul, Int.reduceNeg, Int.reduceEq, rowsOf, srcOf, okRef, intOf?, partsD, freezeL, freezeD, buildD, slcStrD, slcSlD, optV, zeroO, eqR, eqD, eqFs, eqX, nzD, binD, unD, lenD, evK, evC, Nat.reduceLT, lengthG, hm, List.getD_cons_zero, one_toNat, or8]; rfl) (by first | with_reducible rfl | omega | (simp; done) | (simp; omega) | rfl) ?_
  refine osS (by simp (disch := omega) only [zG, zN, zC, stepOp, aval, opv, Ab.get, Ab.put, putO, Nat.reduceEqDiff, ↓reduceIte, D.val, D.cond, reduceCtorEq, binD, bitsD, Nat.reduceAdd, Nat.reduceSub, Nat.reduceMul, Nat.reduceLeDiff, Int.reduceToNat, Int.reduceLE, Int.reduceLT, Int.reduceAdd, Int.reduceSub, Int.reduceMul, Int.reduceNeg, Int.reduceEq, bne_self_eq_false, lengthG, hm, List.getD_cons_zero, one_toNat, bytes_get, or8]; rfl) (by first | with_reducible rfl | omega | (simp; done) | (simp; omega) | rfl) ?_
  refine osS (by simp only [zC, stepOp, aval, opv, Ab.get, Ab.put, putO, Nat.reduceEqDiff, ↓reduceIte, D.val, D.cond, reduceCtorEq]; rfl) rfl ?_
  refine osN ?_
  simp only [keep, memN, Nat.reduceEqDiff, if_true, if_false, ↓reduceIte, Option.getD_none, Option.getD_some, List.append_nil, List.cons_append, List.nil_append, Bool.false_eq_true]
  refine hK _ _ ?_
  clear hK K
  refine thenQ_normal ?_
  refine WI.seq ?_
  refine WI.block ?_
  refine WI.seq ?_
  refine WI.regA tabBer1_ok [0, 5, 13] (fun K hK => ?_)
  refine osS (by simp only [zC, stepOp, aval, opv, Ab.get, Ab.put, putO, Nat.reduceEqDiff, ↓reduceIte, D.val, D.cond, reduceCtorEq]; rfl) rfl ?_
  refine osS (by simp (disch := omega) only [zG, zN, zC, stepOp, aval, opv, Ab.get, Ab.put, putO, Nat.reduceEqDiff, ↓reduceIte, D.val, D.cond, reduceCtorEq, binD, bitsD, Nat.reduceAdd, Nat.reduceSub, Nat.reduceMul, Nat.reduceLeDiff, Int.reduceToNat, Int.reduceLE, Int.reduceLT, Int.reduceAdd, Int.reduceSub, Int.reduceMul, Int.reduceNeg, Int.reduceEq, bne_self_eq_false, lengthG, hm, List.getD_cons_zero, one_toNat, bytes_get, or8]; rfl) (by first | with_reducible rfl | omega | (simp; done) | (simp; omega) | rfl) ?_
  refine osS (by simp only [zC, stepOp, aval, opv, Ab.get, Ab.put, putO, Nat.reduceEqDiff, ↓reduceIte, D.val, D.cond, reduceCtorEq]; rfl) rfl ?_
  refine osS (by simp (disch := omega) only [zG, zC, stepOp, aval, opv, Ab.get, Ab.put, putO, Nat.reduceEqDiff, ↓reduceIte, D.val, D.cond, reduceCtorEq, lengthG, hm, List.getD_cons_zero, one_toNat, bytes_get, or8]; rfl) rfl ?_
  refine osS (by simp (disch := omega) only [zG, zN, zC, stepOp, aval, opv, Ab.get, Ab.put, putO, Nat.reduceEqDiff, ↓reduceIte, D.val, D.cond, reduceCtorEq, binD, bitsD, Nat.reduceAdd, Nat.reduceSub, Nat.reduceMul, Nat.reduceLeDiff, Int.reduceToNat, Int.reduceLE, Int.reduceLT, Int.reduceAdd, Int.reduceSub, Int.reduceMul, Int.reduceNeg, Int.reduceEq, bne_self_eq_false, lengthG, hm, List.getD_cons_zero, one_toNat, bytes_get, or8]; rfl) (by first | with_reducible rfl | omega | (simp; done) | (simp; omega) | rfl) ?_
  refine osS (by simp (disch := omega) only [zG, zC, stepOp, aval, opv, Ab.get, Ab.put, putO, Nat.reduceEqDiff, ↓reduceIte, D.val, D.cond, reduceCtorEq, Bool.cond_true_left, Bool.cond_false_right, cond_true, cond_false, lengthG, hm, List.getD_cons_zero, one_toNat, bytes_get, or8]; rfl) (by first | with_reducible rfl | omega | (simp; done) | (simp; omega) | rfl) ?_
  refine osS (by simp only [zC, stepOp, aval, opv, Ab.get, Ab.put, putO, Nat.reduceEqDiff, ↓reduceIte, D.val, D.cond, reduceCtorEq]; rfl) rfl ?_
  refine osN ?_
  simp only [keep, memN, Nat.reduceEqDiff, if_true, if_false, ↓reduceIte, Option.getD_none, Option.getD_some, List.append_nil, List.cons_append, List.nil_append, Bool.false_eq_true]
  refine hK _ _ ?_
  clear hK K
  refine thenQ_normal ?_
  refine WI.cond (b := _) rfl rfl (fun h0 => ?_) (fun h0 => ?_)
  · try simp only [zB] at h0
    refine WI.seq ?_
    refine WI.regA tabBer1_ok [2, 3, 4] (fun K hK => ?_)
    refine osS (by simp only [zC, stepOp, aval, opv, Ab.get, Ab.put, putO, Nat.reduceEqDiff, ↓reduceIte, D.val, D.cond, reduceCtorEq]; rfl) rfl ?_
    refine osS (by simp only [zC, stepOp, aval, opv, Ab.get, Ab.put, putO, Nat.reduceEqDiff, ↓reduceIte, D.val, D.cond, reduceCtorEq]; rfl) rfl ?_
    refine osS (by simp only [zC, stepOp, aval, opv, Ab.get, Ab.put, putO, Nat.reduceEqDiff, ↓reduceIte, D.val, D.cond, reduceCtorEq]; rfl) rfl ?_
    refine osN ?_
    simp only [keep, memN, Nat.reduceEqDiff, if_true, if_false, ↓reduceIte, Option.getD_none, Option.getD_some, List.append_nil, List.cons_append, List.nil_append, Bool.false_eq_true]
    refine hK _ _ ?_
    clear hK K
    refine thenQ_normal ?_
    refine WI.ret ?_
    refine blockQ_ret ?_
    refine thenQ_ret ?_
    refine ⟨.inr rfl, ?_⟩
    -- leaf 0
    simp (disch := omega) only [zF, retD, resD, finD, plainD, freezeD, freezeL, aval, opv, Ab.get, Nat.reduceEqDiff, ↓reduceIte, D.val, D.cond, Nat.reduceAdd, Nat.reduceLeDiff, Ob.slice?, lengthG, hm, List.getD_cons_zero, one_toNat, or8]
    refine ⟨_, _, rfl, ?_⟩
    simp only [mkR]
    rw [eL, if_pos (by omega)]; rfl
  · try simp only [zB] at h0
    refine WI.seq ?_
    refine WI.regA tabBer1_ok [0, 5, 20] (fun K hK => ?_)
    refine osS (by simp only [zC, stepOp, aval, opv, Ab.get, Ab.put, putO, Nat.reduceEqDiff, ↓reduceIte, D.val, D.cond, reduceCtorEq]; rfl) rfl ?_
    refine osS (by simp (disch := omega) only [zL, zR, zC, stepOp, aval, opv, Ab.get, Ab.put, putO, Nat.reduceEqDiff, ↓reduceIte, D.val, D.cond, reduceCtorEq, lenD, okRef, Nat.reduceAdd, Nat.reduceLeDiff, Ob.slice?, lengthG, hm, List.getD_cons_zero, one_toNat, or8]; rfl) (by first | with_reducible rfl | omega | (simp; done) | (simp; omega) | rfl) ?_
    refine osS (by simp only [zC, stepOp, aval, opv, Ab.get, Ab.put, putO, Nat.reduceEqDiff, ↓reduceIte, D.val, D.cond, reduceCtorEq]; rfl) rfl ?_
    refine osS (by simp (disch := omega) only [zG, zN, zC, stepOp, aval, opv, Ab.get, Ab.put, putO, Nat.reduceEqDiff, ↓reduceIte, D.val, D.cond, reduceCtorEq, binD, bitsD, Nat.reduceAdd, Nat.reduceSub, Nat.reduceMul, Nat.reduceLeDiff, Int.reduceToNat, Int.reduceLE, Int.reduceLT, Int.reduceAdd, Int.reduceSub, Int.reduceMul, Int.reduceNeg, Int.reduceEq, bne_self_eq_false, lengthG, hm, List.getD_cons_zero, one_toNat, bytes_get, or8]; rfl) (by first | with_reducible rfl | omega | (simp; done) | (simp; omega) | rfl) ?_
    refine osS (by simp (disch := omega) only [zG, zN, zC, stepOp, aval, opv, Ab.get, Ab.put, putO, Nat.reduceEqDiff, ↓reduceIte, D.val, D.cond, reduceCtorEq, binD, bitsD, Nat.reduceAdd, Nat.reduceSub, Nat.reduceMul, Nat.reduceLeDiff, Int.reduceToNat, Int.reduceLE, Int.reduceLT, Int.reduceAdd, Int.reduceSub, Int.reduceMul, Int.reduceNeg, Int.reduceEq, bne_self_eq_false, lengthG, hm, List.getD_cons_zero, one_toNat, bytes_get, or8]; rfl) (by first | with_reducible rfl | omega | (simp; done) | (simp; omega) | rfl) ?_
    refine osS (by simp only [zC, stepOp, aval, opv, Ab.get, Ab.put, putO, Nat.reduceEqDiff, ↓reduceIte, D.val, D.cond, reduceCtorEq]; rfl) rfl ?_
    refine osN ?_
    simp only [keep, memN, Nat.reduceEqDiff, if_true, if_false, ↓reduceIte, Option.getD_none, Option.getD_some, List.append_nil, List.cons_append, List.nil_append, Bool.false_eq_true]
    refine hK _ _ ?_
    clear hK K
    refine thenQ_normal ?_
    refine WI.cond (b := _) rfl rfl (fun h1 => ?_) (fun h1 => ?_)
    · try simp only [zB] at h1
      refine WI.seq ?_
      refine WI.regA tabBer1_ok [2, 3, 4] (fun K hK => ?_)
      refine osS (by simp only [zC, stepOp, aval, opv, Ab.get, Ab.put, putO, Nat.reduceEqDiff, ↓reduceIte, D.val, D.cond, reduceCtorEq]; rfl) rfl ?_
      refine osS (by simp only [zC, stepOp, aval, opv, Ab.get, Ab.put, putO, Nat.reduceEqDiff, ↓reduceIte, D.val, D.cond, reduceCtorEq]; rfl) rfl ?_
      refine osS (by simp only [zC, stepOp, aval, opv, Ab.get, Ab.put, putO, Nat.reduceEqDiff, ↓reduceIte, D.val, D.cond, reduceCtorEq]; rfl) rfl ?_
      refine osN ?_
      simp only [keep, memN, Nat.reduceEqDiff, if_true, if_false, ↓reduceIte, Option.getD_none, Option.getD_some, List.append_nil, List.cons_append, List.nil_append, Bool.false_eq_true]
      refine hK _ _ ?_
      clear hK K
      refine thenQ_normal ?_
      refine WI.ret ?_
      refine blockQ_ret ?_
      refine thenQ_ret ?_
      refine ⟨.inr rfl, ?_⟩
      -- leaf 1
      simp (disch := omega) only [zF, retD, resD, finD, plainD, freezeD, freezeL, aval, opv, Ab.get, Nat.reduceEqDiff, ↓reduceIte, D.val, D.cond, Nat.reduceAdd, Nat.reduceLeDiff, Ob.slice?, lengthG, hm, List.getD_cons_zero, one_toNat, or8]
      refine ⟨_, _, rfl, ?_⟩
      simp only [mkR]
      rw [eL, if_neg (by omega), if_pos (by omega)]; rfl
    · try simp only [zB] at h1
      refine WI.skip ?_
      refine blockQ_normal ?_
      refine thenQ_normal ?_
      refine WI.seq ?_
      have hq : (r.take m).length = m := by simp; omega
      refine WI.regA tabBer1_ok [0, 5, 6] (fun K hK => ?_)
      refine osS (by simp only [zC, stepOp, aval, opv, Ab.get, Ab.put, putO, Nat.reduceEqDiff, ↓reduceIte, D.val, D.cond, reduceCtorEq]; rfl) rfl ?_
      refine osN ?_
      simp only [keep, memN, Nat.reduceEqDiff, if_true, if_false, ↓reduceIte, Option.getD_none, Option.getD_some, List.append_nil, List.cons_append, List.nil_append, Bool.false_eq_true]
      refine hK _ _ ?_
      clear hK K
      refine thenQ_normal ?_
      refine WI.seq ?_
      refine WI.seq ?_
      refine WI.regA tabBer1_ok [0, 5, 6, 30, 31, 32] (fun K hK => ?_)
      refine osS (by simp only [zC, stepOp, aval, opv, Ab.get, Ab.put, putO, Nat.reduceEqDiff, ↓reduceIte, D.val, D.cond, reduceCtorEq]; rfl) rfl ?_
      refine osS (by simp only [zC, stepOp, aval, opv, Ab.get, Ab.put, putO, Nat.reduceEqDiff, ↓reduceIte, D.val, D.cond, reduceCtorEq]; rfl) rfl ?_
      refine osS (by simp (disch := omega) only [zG, zN, zC, stepOp, aval, opv, Ab.get, Ab.put, putO, Nat.reduceEqDiff, ↓reduceIte, D.val, D.cond, reduceCtorEq, binD, bitsD, Nat.reduceAdd, Nat.reduceSub, Nat.reduceMul, Nat.reduceLeDiff, Int.reduceToNat, Int.reduceLE, Int.reduceLT, Int.reduceAdd, Int.reduceSub, Int.reduceMul, Int.reduceNeg, Int.reduceEq, bne_self_eq_false, lengthG, hm, List.getD_cons_zero, one_toNat, bytes_get, or8]; rfl) (by first | with_reducible rfl | omega | (simp; done) | (simp; omega) | rfl) ?_
      refine osS (by simp (disch := omega) only [zM, stepOp, aval, opv, Ab.get, Ab.put, putO, Nat.reduceEqDiff, ↓reduceIte, D.val, D.cond, reduceCtorEq, aact, actT, IE.isCall, D.cells?, Nat.reduceAdd, Nat.reduceLeDiff, Ob.slice?, Nat.reduceSub, Nat.reduceMul, Int.reduceToNat, Int.reduceLE, Int.reduceLT, Int.reduceAdd, Int.reduceSub, Int.reduceMul, Int.reduceNeg, Int.reduceEq, rowsOf, srcOf, okRef, intOf?, partsD, freezeL, freezeD, buildD, slcStrD, slcSlD, optV, zeroO, eqR, eqD, eqFs, eqX, nzD, binD, unD, lenD, evK, evC, Nat.reduceLT, lengthG, hm, List.getD_cons_zero, one_toNat, or8]; rfl) (by first | with_reducible rfl | omega | (simp; done) | (simp; omega) | rfl) ?_
      refine osS (by simp (disch := omega) only [zM, stepOp, aval, opv, Ab.get, Ab.put, putO, Nat.reduceEqDiff, ↓reduceIte, D.val, D.cond, reduceCtorEq, aact, actT, IE.isCall, D.cells?, Nat.reduceAdd, Nat.reduceLeDiff, Ob.slice?, Nat.reduceSub, Nat.reduceMul, Int.reduceToNat, Int.reduceLE, Int.reduceLT, Int.reduceAdd, Int.reduceSub, Int.reduceMul, Int.reduceNeg, Int.reduceEq, rowsOf, srcOf, okRef, intOf?, partsD, freezeL, freezeD, buildD, slcStrD, slcSlD, optV, zeroO, eqR, eqD, eqFs, eqX, nzD, binD, unD, lenD, evK, evC, Nat.reduceLT, lengthG, hm, List.getD_cons_zero, one_toNat, or8]; rfl) (by first | with_reducible rfl | omega | (simp; done) | (simp; omega) | rfl) ?_
      generalize hqe : r.take m = q at *
      refine osS (by simp (disch := omega) only [zL, zR, zC, stepOp, aval, opv, Ab.get, Ab.put, putO, Nat.reduceEqDiff, ↓reduceIte, D.val, D.cond, reduceCtorEq, lenD, okRef, Nat.reduceAdd, Nat.reduceLeDiff, Ob.slice?, lengthG, hm, List.getD_cons_zero, one_toNat, or8]; rfl) (by first | with_reducible rfl | omega | (simp; done) | (simp; omega) | rfl) ?_
      refine osS (by simp only [zC, stepOp, aval, opv, Ab.get, Ab.put, putO, Nat.reduceEqDiff, ↓reduceIte, D.val, D.cond, reduceCtorEq]; rfl) rfl ?_
      refine osN ?_
      simp only [keep, memN, Nat.reduceEqDiff, if_true, if_false, ↓reduceIte, Option.getD_none, Option.getD_some, List.append_nil, List.cons_append, List.nil_append, Bool.false_eq_true]
      refine hK _ _ ?_
      clear hK K
      refine thenQ_normal ?_
      refine WI.block ?_
      refine WI.loop (fun φ os => ∃ j : Nat, φ = [(0, .x (.str (c :: r))), (5, .x (.int .i64 m)), (6, .x (.int .i64 (valB (q.take j)))), (30, .ref 0 q.length 0 q.length), (31, .x (.int .i64 q.length)), (32, .x (.int .i64 j))] ∧ os = [.rows true 5 1 (q.map byteRow)] ∧ j ≤ m) (down m 32) ?_ (fun φ os hI => ?_)
      · exact ⟨0, rfl, rfl, by omega⟩
      · obtain ⟨j, rfl, rfl, hj⟩ := hI
        refine WI.seq ?_
        refine WI.regA tabBer1_ok [0, 5, 6, 30, 31, 32, 33] (fun K hK => ?_)
        refine osS (by simp (disch := omega) only [zG, zN, zC, stepOp, aval, opv, Ab.get, Ab.put, putO, Nat.reduceEqDiff, ↓reduceIte, D.val, D.cond, reduceCtorEq, binD, bitsD, Nat.reduceAdd, Nat.reduceSub, Nat.reduceMul, Nat.reduceLeDiff, Int.reduceToNat, Int.reduceLE, Int.reduceLT, Int.reduceAdd, Int.reduceSub, Int.reduceMul, Int.reduceNeg, Int.reduceEq, bne_self_eq_false, lengthG, hm, List.getD_cons_zero, one_toNat, bytes_get, or8]; rfl) (by first | with_reducible rfl | omega | (simp; done) | (simp; omega) | rfl) ?_
        refine osN ?_
        simp only [keep, memN, Nat.reduceEqDiff, if_true, if_false, ↓reduceIte, Option.getD_none, Option.getD_some, List.append_nil, List.cons_append, List.nil_append, Bool.false_eq_true]
        refine hK _ _ ?_
        clear hK K
        refine thenQ_normal ?_
        refine WI.seq ?_
        refine WI.cond (b := _) rfl rfl (fun h2 => ?_) (fun h2 => ?_)
        · try simp only [zB] at h2
          refine WI.skip ?_
          refine thenQ_normal ?_
          refine WI.seq ?_
          refine WI.block ?_
          refine WI.seq ?_
          refine WI.regA tabBer1_ok [0, 5, 6, 8, 30, 31, 32] (fun K hK => ?_)
          refine osS (by simp (disch := omega) only [zL, zR, zC, stepOp, aval, opv, Ab.get, Ab.put, putO, Nat.reduceEqDiff, ↓reduceIte, D.val, D.cond, reduceCtorEq, intOf?, Nat.reduceAdd, Nat.reduceLeDiff, Ob.slice?, Nat.reduceSub, Nat.reduceMul, Int.reduceToNat, Int.reduceLE, Int.reduceLT, Int.reduceAdd, Int.reduceSub, Int.reduceMul, Int.reduceNeg, Int.reduceEq, decide_false, IntWalk.i64_in, lengthG, hm, List.getD_cons_zero, one_toNat, or8]; rfl) (by first | with_reducible rfl | omega | (simp; done) | (simp; omega) | rfl) ?_
          refine osS (by simp (disch := omega) only [zL, zR, zC, stepOp, aval, opv, Ab.get, Ab.put, putO, Nat.reduceEqDiff, ↓reduceIte, D.val, D.cond, reduceCtorEq, Nat.reduceAdd, Nat.reduceLeDiff, Ob.slice?, lengthG, hm, List.getD_cons_zero, one_toNat, or8]; rfl) (by first | with_reducible rfl | omega | (simp; done) | (simp; omega) | rfl) ?_
          refine osS (by simp only [zC, stepOp, aval, opv, Ab.get, Ab.put, putO, Nat.reduceEqDiff, ↓reduceIte, D.val, D.cond, reduceCtorEq]; rfl) rfl ?_
          refine osN ?_
          simp only [keep, memN, Nat.reduceEqDiff, if_true, if_false, ↓reduceIte, Option.getD_none, Option.getD_some, List.append_nil, List.cons_append, List.nil_append, Bool.false_eq_true]
          refine hK _ _ ?_
          clear hK K
          refine thenQ_normal ?_
          have hv := valB_lt (q.take j) 3 (by simp; omega)
          have hcj := (q[j]'(by omega)).toNat_lt
          have ht : q.take (j + 1) = q.take j ++ [q[j]'(by omega)] := (List.take_append_getElem (by omega)).symm
          refine WI.regA tabBer1_ok [0, 5, 6, 30, 31, 32] (fun K hK => ?_)
          refine osS (by simp only [zC, stepOp, aval, opv, Ab.get, Ab.put, putO, Nat.reduceEqDiff, ↓reduceIte, D.val, D.cond, reduceCtorEq]; rfl) rfl ?_
          refine osS (by simp (disch := omega) only [zG, zN, zC, stepOp, aval, opv, Ab.get, Ab.put, putO, Nat.reduceEqDiff, ↓reduceIte, D.val, D.cond, reduceCtorEq, binD, bitsD, Nat.reduceAdd, Nat.reduceSub, Nat.reduceMul, Nat.reduceLeDiff, Int.reduceToNat, Int.reduceLE, Int.reduceLT, Int.reduceAdd, Int.reduceSub, Int.reduceMul, Int.reduceNeg, Int.reduceEq, bne_self_eq_false, lengthG, hm, List.getD_cons_zero, one_toNat, bytes_get, or8]; rfl) (by first | with_reducible rfl | omega | (simp; done) | (simp; omega) | rfl) ?_
          refine osS (by simp only [zC, stepOp, aval, opv, Ab.get, Ab.put, putO, Nat.reduceEqDiff, ↓reduceIte, D.val, D.cond, reduceCtorEq]; rfl) rfl ?_
          refine osS (by simp (disch := omega) only [zM, stepOp, aval, opv, Ab.get, Ab.put, putO, Nat.reduceEqDiff, ↓reduceIte, D.val, D.cond, reduceCtorEq, aact, actT, IE.isCall, D.cells?, Nat.reduceAdd, Nat.reduceLeDiff, Ob.slice?, Nat.reduceSub, Nat.reduceMul, Int.reduceToNat, Int.reduceLE, Int.reduceLT, Int.reduceAdd, Int.reduceSub, Int.reduceMul, Int.reduceNeg, Int.reduceEq, rowsOf, srcOf, okRef, intOf?, partsD, freezeL, freezeD, buildD, slcStrD, slcSlD, optV, zeroO, eqR, eqD, eqFs, eqX, nzD, binD, unD, lenD, evK, evC, Nat.reduceLT, lengthG, hm, List.getD_cons_zero, one_toNat, or8]; rfl) (by first | with_reducible rfl | omega | (simp; done) | (simp; omega) | rfl) ?_
          refine osS (by simp (disch := omega) only [zG, zN, zC, stepOp, aval, opv, Ab.get, Ab.put, putO, Nat.reduceEqDiff, ↓reduceIte, D.val, D.cond, reduceCtorEq, binD, bitsD, Nat.reduceAdd, Nat.reduceSub, Nat.reduceMul, Nat.reduceLeDiff, Int.reduceToNat, Int.reduceLE, Int.reduceLT, Int.reduceAdd, Int.reduceSub, Int.reduceMul, Int.reduceNeg, Int.reduceEq, bne_self_eq_false, lengthG, hm, List.getD_cons_zero, one_toNat, bytes_get, or8]; rfl) (by first | with_reducible rfl | omega | (simp; done) | (simp; omega) | rfl) ?_
          refine osS (by simp only [zC, stepOp, aval, opv, Ab.get, Ab.put, putO, Nat.reduceEqDiff, ↓reduceIte, D.val, D.cond, reduceCtorEq]; rfl) rfl ?_
          refine osN ?_
          simp only [keep, memN, Nat.reduceEqDiff, if_true, if_false, ↓reduceIte, Option.getD_none, Option.getD_some, List.append_nil, List.cons_append, List.nil_append, Bool.false_eq_true]
          refine hK _ _ ?_
          clear hK K
          refine blockQ_normal ?_
          refine thenQ_normal ?_
          refine WI.regA tabBer1_ok [0, 5, 6, 30, 31, 32] (fun K hK => ?_)
          refine osS (by simp (disch := omega) only [zG, zN, zC, stepOp, aval, opv, Ab.get, Ab.put, putO, Nat.reduceEqDiff, ↓reduceIte, D.val, D.cond, reduceCtorEq, binD, bitsD, Nat.reduceAdd, Nat.reduceSub, Nat.reduceMul, Nat.reduceLeDiff, Int.reduceToNat, Int.reduceLE, Int.reduceLT, Int.reduceAdd, Int.reduceSub, Int.reduceMul, Int.reduceNeg, Int.reduceEq, bne_self_eq_false, lengthG, hm, List.getD_cons_zero, one_toNat, bytes_get, or8]; rfl) (by first | with_reducible rfl | omega | (simp; done) | (simp; omega) | rfl) ?_
          refine osS (by simp only [zC, stepOp, aval, opv, Ab.get, Ab.put, putO, Nat.reduceEqDiff, ↓reduceIte, D.val, D.cond, reduceCtorEq]; rfl) rfl ?_
          refine osN ?_
          simp only [keep, memN, Nat.reduceEqDiff, if_true, if_false, ↓reduceIte, Option.getD_none, Option.getD_some, List.append_nil, List.cons_append, List.nil_append, Bool.false_eq_true]
          refine hK _ _ ?_
          clear hK K
          refine thenQ_normal ?_
          exact ⟨⟨j + 1, by simp only [ht, valB_snoc]; rfl, rfl, by omega⟩, by simp [down, Ab.get, D.val, intOf?]; omega⟩
        · try simp only [zB] at h2
          refine WI.exit ?_
          refine thenQ_exit ?_
          refine thenQ_exit ?_
          refine blockQ_hit ?_
          refine thenQ_normal ?_
          refine WI.seq ?_
          refine WI.block ?_
          refine WI.seq ?_
          obtain rfl : j = m := by omega
          rw [List.take_of_length_le (by omega)]
          have hv4 := valB_lt q 4 (by omega)
          refine WI.dregA tabBer1_ok [5, 6, 42] (fun K hK => ?_)
          refine dsF rfl (by simp only [zC, evQ, evA, avalR, prefB, Ob.beq_refl, stepOp, aval, opv, Ab.get, Ab.put, putO, Nat.reduceEqDiff, ↓reduceIte, D.val, D.cond, reduceCtorEq]; rfl) rfl ?_
          refine dsQ rfl rfl rfl (by simp (disch := omega) only [zS, viaNN, viaNNT, D.nn, addQ, addT, IE.isCall, Nat.reduceAdd, Nat.reduceSub, Nat.reduceMul, Nat.reduceLeDiff, Nat.reduceLT, Nat.reduceBEq, Int.reduceToNat, Int.reduceLE, Int.reduceLT, Int.reduceAdd, Int.reduceSub, Int.reduceMul, Int.reduceNeg, Int.reduceEq, Nat.reduceEqDiff, runOpsA, runDA, stepOp, aval, aact, opv, Ab.get, Ab.put, putO, keep, memN, D.val, D.cond, D.cells?, D.scalar, X.scalar, D.plain, D.isX, binD, bitsD, eqD, eqFs, eqX, unD, intOf?, lenD, okRef, rowsOf, viewD, viewX, freezeD, freezeL, partsD, buildD, slcStrD, slcSlD, Ob.slice?, ↓reduceIte, reduceCtorEq, evQ, evK, evC, evA, avalR, prefB, eqR, nzD, actT, callT1, callR1, callK1, valsL, condsL, optV, noTabs, IE.frame, memB, zeroO, IntWalk.i64_in, lengthG, hm, List.getD_cons_zero, one_toNat, or8, tabBer1_r, tabBer1_k, tabBer1_q42, tabBer1_q43, badG]; rfl) (by first | with_reducible rfl | omega | (simp; done) | (simp; omega) | rfl) ?_
          refine dsF rfl (by simp only [zC, evQ, evA, avalR, prefB, Ob.beq_refl, stepOp, aval, opv, Ab.get, Ab.put, putO, Nat.reduceEqDiff, ↓reduceIte, D.val, D.cond, reduceCtorEq]; rfl) rfl ?_
          refine dsF rfl (by simp only [zC, evQ, evA, avalR, prefB, Ob.beq_refl, stepOp, aval, opv, Ab.get, Ab.put, putO, Nat.reduceEqDiff, ↓reduceIte, D.val, D.cond, reduceCtorEq]; rfl) rfl ?_
          refine dsF rfl (by simp (disch := omega) only [zG, zN, zC, evQ, evA, avalR, prefB, Ob.beq_refl, stepOp, aval, opv, Ab.get, Ab.put, putO, Nat.reduceEqDiff, ↓reduceIte, D.val, D.cond, reduceCtorEq, binD, bitsD, Nat.reduceAdd, Nat.reduceSub, Nat.reduceMul, Nat.reduceLeDiff, Int.reduceToNat, Int.reduceLE, Int.reduceLT, Int.reduceAdd, Int.reduceSub, Int.reduceMul, Int.reduceNeg, Int.reduceEq, bne_self_eq_false, lengthG, hm, List.getD_cons_zero, one_toNat, bytes_get, or8]; rfl) (by first | with_reducible rfl | omega | (simp; done) | (simp; omega) | rfl) ?_
          refine dsQ rfl rfl rfl (by simp (disch := omega) only [zM, evQ, evA, avalR, prefB, Ob.beq_refl, stepOp, aval, opv, Ab.get, Ab.put, putO, Nat.reduceEqDiff, ↓reduceIte, D.val, D.cond, reduceCtorEq, aact, actT, IE.isCall, D.cells?, Nat.reduceAdd, Nat.reduceLeDiff, Ob.slice?, Nat.reduceSub, Nat.reduceMul, Int.reduceToNat, Int.reduceLE, Int.reduceLT, Int.reduceAdd, Int.reduceSub, Int.reduceMul, Int.reduceNeg, Int.reduceEq, rowsOf, srcOf, okRef, intOf?, partsD, freezeL, freezeD, buildD, slcStrD, slcSlD, optV, zeroO, eqR, eqD, eqFs, eqX, nzD, binD, unD, lenD, evK, evC, Nat.reduceLT, lengthG, hm, List.getD_cons_zero, one_toNat, or8]; rfl) (by first | with_reducible rfl | omega | (simp; done) | (simp; omega) | rfl) ?_
          refine dsF rfl (by simp (disch := omega) only [zG, zN, zC, evQ, evA, avalR, prefB, Ob.beq_refl, stepOp, aval, opv, Ab.get, Ab.put, putO, Nat.reduceEqDiff, ↓reduceIte, D.val, D.cond, reduceCtorEq, binD, bitsD, Nat.reduceAdd, Nat.reduceSub, Nat.reduceMul, Nat.reduceLeDiff, Int.reduceToNat, Int.reduceLE, Int.reduceLT, Int.reduceAdd, Int.reduceSub, Int.reduceMul, Int.reduceNeg, Int.reduceEq, bne_self_eq_false, lengthG, hm, List.getD_cons_zero, one_toNat, bytes_get, or8]; rfl) (by first | with_reducible rfl | omega | (simp; done) | (simp; omega) | rfl) ?_
          refine dsF rfl (by simp only [zC, evQ, evA, avalR, prefB, Ob.beq_refl, stepOp, aval, opv, Ab.get, Ab.put, putO, Nat.reduceEqDiff, ↓reduceIte, D.val, D.cond, reduceCtorEq]; rfl) rfl ?_
          refine dsN ?_
          simp only [keep, memN, Nat.reduceEqDiff, if_true, if_false, ↓reduceIte, Option.getD_none, Option.getD_some, List.append_nil, List.cons_append, List.nil_append, Bool.false_eq_true]
          refine hK _ _ ?_
          clear hK K
          refine thenQ_normal ?_
          refine WI.cond (b := _) rfl rfl (fun h3 => ?_) (fun h3 => ?_)
          · try simp only [zB] at h3
            refine WI.seq ?_
            refine WI.regA tabBer1_ok [2, 3, 4] (fun K hK => ?_)
            refine osS (by simp only [zC, stepOp, aval, opv, Ab.get, Ab.put, putO, Nat.reduceEqDiff, ↓reduceIte, D.val, D.cond, reduceCtorEq]; rfl) rfl ?_
            refine osS (by simp only [zC, stepOp, aval, opv, Ab.get, Ab.put, putO, Nat.reduceEqDiff, ↓reduceIte, D.val, D.cond, reduceCtorEq]; rfl) rfl ?_
            refine osS (by simp only [zC, stepOp, aval, opv, Ab.get, Ab.put, putO, Nat.reduceEqDiff, ↓reduceIte, D.val, D.cond, reduceCtorEq]; rfl) rfl ?_
            refine osN ?_
            simp only [keep, memN, Nat.reduceEqDiff, if_true, if_false, ↓reduceIte, Option.getD_none, Option.getD_some, List.append_nil, List.cons_append, List.nil_append, Bool.false_eq_true]
            refine hK _ _ ?_
            clear hK K
            refine thenQ_normal ?_
            refine WI.ret ?_
            refine blockQ_ret ?_
            refine thenQ_ret ?_
            refine ⟨.inr rfl, ?_⟩
            -- leaf 2
            simp (disch := omega) only [zF, retD, resD, finD, plainD, freezeD, freezeL, aval, opv, Ab.get, Nat.reduceEqDiff, ↓reduceIte, D.val, D.cond, Nat.reduceAdd, Nat.reduceLeDiff, Ob.slice?, lengthG, hm, List.getD_cons_zero, one_toNat, or8]
            refine ⟨_, _, rfl, ?_⟩
            simp only [mkR]
            rw [hqe] at h3; rw [eL, if_neg (by omega), if_neg (by omega), if_pos h3]; rfl
          · try simp only [zB] at h3
            refine WI.seq ?_
            refine WI.regA tabBer1_ok [5, 6, 50] (fun K hK => ?_)
            refine osS (by simp only [zC, stepOp, aval, opv, Ab.get, Ab.put, putO, Nat.reduceEqDiff, ↓reduceIte, D.val, D.cond, reduceCtorEq]; rfl) rfl ?_
            refine osS (by simp (disch := omega) only [zG, zN, zC, stepOp, aval, opv, Ab.get, Ab.put, putO, Nat.reduceEqDiff, ↓reduceIte, D.val, D.cond, reduceCtorEq, binD, bitsD, Nat.reduceAdd, Nat.reduceSub, Nat.reduceMul, Nat.reduceLeDiff, Int.reduceToNat, Int.reduceLE, Int.reduceLT, Int.reduceAdd, Int.reduceSub, Int.reduceMul, Int.reduceNeg, Int.reduceEq, bne_self_eq_false, lengthG, hm, List.getD_cons_zero, one_toNat, bytes_get, or8]; rfl) (by first | with_reducible rfl | omega | (simp; done) | (simp; omega) | rfl) ?_
            refine osS (by simp only [zC, stepOp, aval, opv, Ab.get, Ab.put, putO, Nat.reduceEqDiff, ↓reduceIte, D.val, D.cond, reduceCtorEq]; rfl) rfl ?_
            refine osN ?_
            simp only [keep, memN, Nat.reduceEqDiff, if_true, if_false, ↓reduceIte, Option.getD_none, Option.getD_some, List.append_nil, List.cons_append, List.nil_append, Bool.false_eq_true]
            refine hK _ _ ?_
            clear hK K
            refine thenQ_normal ?_
            refine WI.cond (b := _) rfl rfl (fun h4 => ?_) (fun h4 => ?_)
            · try simp only [zB] at h4
              refine WI.seq ?_
              refine WI.regA tabBer1_ok [2, 3, 4] (fun K hK => ?_)
              refine osS (by simp only [zC, stepOp, aval, opv, Ab.get, Ab.put, putO, Nat.reduceEqDiff, ↓reduceIte, D.val, D.cond, reduceCtorEq]; rfl) rfl ?_
              refine osS (by simp only [zC, stepOp, aval, opv, Ab.get, Ab.put, putO, Nat.reduceEqDiff, ↓reduceIte, D.val, D.cond, reduceCtorEq]; rfl) rfl ?_
              refine osS (by simp only [zC, stepOp, aval, opv, Ab.get, Ab.put, putO, Nat.reduceEqDiff, ↓reduceIte, D.val, D.cond, reduceCtorEq]; rfl) rfl ?_
              refine osN ?_
              simp only [keep, memN, Nat.reduceEqDiff, if_true, if_false, ↓reduceIte, Option.getD_none, Option.getD_some, List.append_nil, List.cons_append, List.nil_append, Bool.false_eq_true]
              refine hK _ _ ?_
              clear hK K
              refine thenQ_normal ?_
              refine WI.ret ?_
              refine blockQ_ret ?_
              refine thenQ_ret ?_
              refine ⟨.inr rfl, ?_⟩
              -- leaf 3
              simp (disch := omega) only [zF, retD, resD, finD, plainD, freezeD, freezeL, aval, opv, Ab.get, Nat.reduceEqDiff, ↓reduceIte, D.val, D.cond, Nat.reduceAdd, Nat.reduceLeDiff, Ob.slice?, lengthG, hm, List.getD_cons_zero, one_toNat, or8]
              refine ⟨_, _, rfl, ?_⟩
              simp only [mkR]
              rw [hqe] at h3; rw [eL, if_neg (by omega), if_neg (by omega), if_neg (not_not_intro h3), if_pos (by omega)]; rfl
            · try simp only [zB] at h4
              refine WI.skip ?_
              refine blockQ_normal ?_
              refine thenQ_normal ?_
              refine WI.seq ?_
              refine WI.regA tabBer1_ok [2, 3, 4] (fun K hK => ?_)
              refine osS (by simp only [zC, stepOp, aval, opv, Ab.get, Ab.put, putO, Nat.reduceEqDiff, ↓reduceIte, D.val, D.cond, reduceCtorEq]; rfl) rfl ?_
              refine osS (by simp only [zC, stepOp, aval, opv, Ab.get, Ab.put, putO, Nat.reduceEqDiff, ↓reduceIte, D.val, D.cond, reduceCtorEq]; rfl) rfl ?_
              refine osS (by simp (disch := omega) only [zG, zN, zC, stepOp, aval, opv, Ab.get, Ab.put, putO, Nat.reduceEqDiff, ↓reduceIte, D.val, D.cond, reduceCtorEq, binD, bitsD, Nat.reduceAdd, Nat.reduceSub, Nat.reduceMul, Nat.reduceLeDiff, Int.reduceToNat, Int.reduceLE, Int.reduceLT, Int.reduceAdd, Int.reduceSub, Int.reduceMul, Int.reduceNeg, Int.reduceEq, bne_self_eq_false, lengthG, hm, List.getD_cons_zero, one_toNat, bytes_get, or8]; rfl) (by first | with_reducible rfl | omega | (simp; done) | (simp; omega) | rfl) ?_
              refine osS (by simp only [zC, stepOp, aval, opv, Ab.get, Ab.put, putO, Nat.reduceEqDiff, ↓reduceIte, D.val, D.cond, reduceCtorEq]; rfl) rfl ?_
              refine osS (by simp only [zC, stepOp, aval, opv, Ab.get, Ab.put, putO, Nat.reduceEqDiff, ↓reduceIte, D.val, D.cond, reduceCtorEq]; rfl) rfl ?_
              refine osS (by simp only [zC, stepOp, aval, opv, Ab.get, Ab.put, putO, Nat.reduceEqDiff, ↓reduceIte, D.val, D.cond, reduceCtorEq]; rfl) rfl ?_
              refine osN ?_
              simp only [keep, memN, Nat.reduceEqDiff, if_true, if_false, ↓reduceIte, Option.getD_none, Option.getD_some, List.append_nil, List.cons_append, List.nil_append, Bool.false_eq_true]
              refine hK _ _ ?_
              clear hK K
              refine thenQ_normal ?_
              refine WI.ret ?_
              refine ⟨.inr rfl, ?_⟩
              -- leaf 4
              simp (disch := omega) only [zF, retD, resD, finD, plainD, freezeD, freezeL, aval, opv, Ab.get, Nat.reduceEqDiff, ↓reduceIte, D.val, D.cond, Nat.reduceAdd, Nat.reduceLeDiff, Ob.slice?, lengthG, hm, List.getD_cons_zero, one_toNat, or8]
              refine ⟨_, _, rfl, ?_⟩
              simp only [mkR]
              rw [hqe] at h3; rw [eL, if_neg (by omega), if_neg (by omega), if_neg (not_not_intro h3), if_neg (by omega)]; rfl
def longG : List D → Option (Bool × D)
  | [.x (.str (c :: r))] => some (decide (128 ≤ c.toNat), .tup [.x (.int .i64 (longB c r).1), .x (.int .i64 (longB c r).2.1), .x (.int .i64 (longB c r).2.2)])
  | _ => none
theorem longG_ok : ∀ args r, longG args = some (true, r) → PCalls Try.prog 46 args r := by
  intro args r h
  unfold longG at h
  split at h
  · rename_i c r
    simp only [Option.some.injEq, Prod.mk.injEq, Bool.and_eq_true, decide_eq_true_eq, true_and] at h
    obtain ⟨h1, rfl⟩ := h
    exact long_c c r h1
  · cases h
def tabBer2 : Tabs := addQ (addQ (noTabs) 42 badG) 46 longG
theorem tabBer2_ok : SsOk Try.prog tabBer2 := addQ_ok (addQ_ok (noTabs_ok) (G_enters G_ok (p := i42) rfl) badG_ok) (G_enters G_ok (p := i46) rfl) longG_ok
theorem tabBer2_q42 (a : List D) : tabBer2.q 42 a = badG a := rfl
theorem tabBer2_q46 (a : List D) : tabBer2.q 46 a = longG a := rfl
theorem tabBer2_r (f : FuncId) (a : List D) (o : List Ob) : tabBer2.r f a o = none := rfl
theorem tabBer2_k (f : FuncId) (a : List D) (o : List Ob) : tabBer2.k f a o = none := rfl
def headD (s : List UInt8) : D := .tup [.x (.int .i64 (headB s).1), .x (.int .i64 (headB s).2.1), .x (.int .i64 (headB s).2.2.1), .x (.int .i64 (headB s).2.2.2)]
theorem longB_le (c : UInt8) (r : List UInt8) : (longB c r).2.1 ≤ 5 := by
  unfold longB
  simp only []
  split
  · simp
  · split
    · simp
    · split
      · simp
      · split
        · simp
        · simp; omega
theorem head0_c : PCalls Try.prog 16 [.x (.str [])] (headD []) := by
  refine FCalls.pure (fcallsG (fz := true) G_ok (p := i16) rfl _ (Nat.le_of_ble_eq_true rfl) _ (fun C0 E0 => ?_)) rfl
  dsimp only [i16, argsφ]
  refine WI.seq ?_
  refine WI.regA tabBer2_ok [0] (fun K hK => ?_)
  refine osS (by simp only [zC, stepOp, aval, opv, Ab.get, Ab.put, putO, Nat.reduceEqDiff, ↓reduceIte, D.val, D.cond, reduceCtorEq]; rfl) rfl ?_
  refine osS (by simp only [zC, stepOp, aval, opv, Ab.get, Ab.put, putO, Nat.reduceEqDiff, ↓reduceIte, D.val, D.cond, reduceCtorEq]; rfl) rfl ?_
  refine osS (by simp only [zC, stepOp, aval, opv, Ab.get, Ab.put, putO, Nat.reduceEqDiff, ↓reduceIte, D.val, D.cond, reduceCtorEq]; rfl) rfl ?_
  refine osS (by simp only [zC, stepOp, aval, opv, Ab.get, Ab.put, putO, Nat.reduceEqDiff, ↓reduceIte, D.val, D.cond, reduceCtorEq]; rfl) rfl ?_
  refine osN ?_
  simp only [keep, memN, Nat.reduceEqDiff, if_true, if_false, ↓reduceIte, Option.getD_none, Option.getD_some, List.append_nil, List.cons_append, List.nil_append, Bool.false_eq_true]
  refine hK _ _ ?_
  clear hK K
  refine thenQ_normal ?_
  refine WI.seq ?_
  refine WI.block ?_
  refine WI.seq ?_
  refine WI.regA tabBer2_ok [0, 9] (fun K hK => ?_)
  refine osS (by simp only [zC, stepOp, aval, opv, Ab.get, Ab.put, putO, Nat.reduceEqDiff, ↓reduceIte, D.val, D.cond, reduceCtorEq]; rfl) rfl ?_
  refine osS (by simp (disch := omega) only [zG, zN, zC, stepOp, aval, opv, Ab.get, Ab.put, putO, Nat.reduceEqDiff, ↓reduceIte, D.val, D.cond, reduceCtorEq, binD, bitsD, Nat.reduceAdd, Nat.reduceSub, Nat.reduceMul, Nat.reduceLeDiff, Int.reduceToNat, Int.reduceLE, Int.reduceLT, Int.reduceAdd, Int.reduceSub, Int.reduceMul, Int.reduceNeg, Int.reduceEq, bne_self_eq_false]; rfl) (by first | with_reducible rfl | omega | (simp; done) | (simp; omega) | rfl) ?_
  refine osS (by simp only [zC, stepOp, aval, opv, Ab.get, Ab.put, putO, Nat.reduceEqDiff, ↓reduceIte, D.val, D.cond, reduceCtorEq]; rfl) rfl ?_
  refine osN ?_
  simp only [keep, memN, Nat.reduceEqDiff, if_true, if_false, ↓reduceIte, Option.getD_none, Option.getD_some, List.append_nil, List.cons_append, List.nil_append, Bool.false_eq_true]
  refine hK _ _ ?_
  clear hK K
  refine thenQ_normal ?_
  refine WI.cond (b := _) rfl rfl (fun h0 => ?_) (fun h0 => ?_)
  · try simp only [zB] at h0
    refine WI.seq ?_
    refine WI.regA tabBer2_ok [2, 3, 4, 5] (fun K hK => ?_)
    refine osS (by simp only [zC, stepOp, aval, opv, Ab.get, Ab.put, putO, Nat.reduceEqDiff, ↓reduceIte, D.val, D.cond, reduceCtorEq]; rfl) rfl ?_
    refine osS (by simp only [zC, stepOp, aval, opv, Ab.get, Ab.put, putO, Nat.reduceEqDiff, ↓reduceIte, D.val, D.cond, reduceCtorEq]; rfl) rfl ?_
    refine osS (by simp only [zC, stepOp, aval, opv, Ab.get, Ab.put, putO, Nat.reduceEqDiff, ↓reduceIte, D.val, D.cond, reduceCtorEq]; rfl) rfl ?_
    refine osS (by simp only [zC, stepOp, aval, opv, Ab.get, Ab.put, putO, Nat.reduceEqDiff, ↓reduceIte, D.val, D.cond, reduceCtorEq]; rfl) rfl ?_
    refine osN ?_
    simp only [keep, memN, Nat.reduceEqDiff, if_true, if_false, ↓reduceIte, Option.getD_none, Option.getD_some, List.append_nil, List.cons_append, List.nil_append, Bool.false_eq_true]
    refine hK _ _ ?_
    clear hK K
    refine thenQ_normal ?_
    refine WI.ret ?_
    refine blockQ_ret ?_
    refine thenQ_ret ?_
    refine ⟨.inr rfl, ?_⟩
    -- leaf 0
    simp (disch := omega) only [zF, retD, resD, finD, plainD, freezeD, freezeL, aval, opv, Ab.get, Nat.reduceEqDiff, ↓reduceIte, D.val, D.cond, Nat.reduceAdd, Nat.reduceLeDiff, Ob.slice?]
    refine ⟨_, _, rfl, ?_⟩
    simp only [mkR]
    all_goals first | exact ⟨rfl, rfl⟩ | exact ⟨trivial, trivial⟩ | rfl | trivial
  · exfalso
    simp at h0
theorem head1_c (t : UInt8) : PCalls Try.prog 16 [.x (.str [t])] (headD [t]) := by
  have ht := t.toNat_lt
  refine FCalls.pure (fcallsG (fz := true) G_ok (p := i16) rfl _ (Nat.le_of_ble_eq_true rfl) _ (fun C0 E0 => ?_)) rfl
  dsimp only [i16, argsφ]
  refine WI.seq ?_
  refine WI.regA tabBer2_ok [0] (fun K hK => ?_)
  refine osS (by simp only [zC, stepOp, aval, opv, Ab.get, Ab.put, putO, Nat.reduceEqDiff, ↓reduceIte, D.val, D.cond, reduceCtorEq]; rfl) rfl ?_
  refine osS (by simp only [zC, stepOp, aval, opv, Ab.get, Ab.put, putO, Nat.reduceEqDiff, ↓reduceIte, D.val, D.cond, reduceCtorEq]; rfl) rfl ?_
  refine osS (by simp only [zC, stepOp, aval, opv, Ab.get, Ab.put, putO, Nat.reduceEqDiff, ↓reduceIte, D.val, D.cond, reduceCtorEq]; rfl) rfl ?_
  refine osS (by simp only [zC, stepOp, aval, opv, Ab.get, Ab.put, putO, Nat.reduceEqDiff, ↓reduceIte, D.val, D.cond, reduceCtorEq]; rfl) rfl ?_
  refine osN ?_
  simp only [keep, memN, Nat.reduceEqDiff, if_true, if_false, ↓reduceIte, Option.getD_none, Option.getD_some, List.append_nil, List.cons_append, List.nil_append, Bool.false_eq_true]
  refine hK _ _ ?_
  clear hK K
  refine thenQ_normal ?_
  refine WI.seq ?_
  refine WI.block ?_
  refine WI.seq ?_
  refine WI.regA tabBer2_ok [0, 9] (fun K hK => ?_)
  refine osS (by simp only [zC, stepOp, aval, opv, Ab.get, Ab.put, putO, Nat.reduceEqDiff, ↓reduceIte, D.val, D.cond, reduceCtorEq]; rfl) rfl ?_
  refine osS (by simp (disch := omega) only [zG, zN, zC, stepOp, aval, opv, Ab.get, Ab.put, putO, Nat.reduceEqDiff, ↓reduceIte, D.val, D.cond, reduceCtorEq, binD, bitsD, Nat.reduceAdd, Nat.reduceSub, Nat.reduceMul, Nat.reduceLeDiff, Int.reduceToNat, Int.reduceLE, Int.reduceLT, Int.reduceAdd, Int.reduceSub, Int.reduceMul, Int.reduceNeg, Int.reduceEq, bne_self_eq_false, badG, List.getD_cons_zero]; rfl) (by first | with_reducible rfl | omega | (simp; done) | (simp; omega) | rfl) ?_
  refine osS (by simp only [zC, stepOp, aval, opv, Ab.get, Ab.put, putO, Nat.reduceEqDiff, ↓reduceIte, D.val, D.cond, reduceCtorEq]; rfl) rfl ?_
  refine osN ?_
  simp only [keep, memN, Nat.reduceEqDiff, if_true, if_false, ↓reduceIte, Option.getD_none, Option.getD_some, List.append_nil, List.cons_append, List.nil_append, Bool.false_eq_true]
  refine hK _ _ ?_
  clear hK K
  refine thenQ_normal ?_
  refine WI.cond (b := _) rfl rfl (fun h0 => ?_) (fun h0 => ?_)
  · exfalso
    simp at h0
  · try simp only [zB] at h0
    refine WI.seq ?_
    refine WI.regA tabBer2_ok [0, 12] (fun K hK => ?_)
    refine osS (by simp only [zC, stepOp, aval, opv, Ab.get, Ab.put, putO, Nat.reduceEqDiff, ↓reduceIte, D.val, D.cond, reduceCtorEq]; rfl) rfl ?_
    refine osS (by simp (disch := omega) only [zM, stepOp, aval, opv, Ab.get, Ab.put, putO, Nat.reduceEqDiff, ↓reduceIte, D.val, D.cond, reduceCtorEq, aact, actT, IE.isCall, D.cells?, Nat.reduceAdd, Nat.reduceLeDiff, Ob.slice?, Nat.reduceSub, Nat.reduceMul, Int.reduceToNat, Int.reduceLE, Int.reduceLT, Int.reduceAdd, Int.reduceSub, Int.reduceMul, Int.reduceNeg, Int.reduceEq, rowsOf, srcOf, okRef, intOf?, partsD, freezeL, freezeD, buildD, slcStrD, slcSlD, optV, zeroO, eqR, eqD, eqFs, eqX, nzD, binD, unD, lenD, evK, evC, Nat.reduceLT, badG, List.getD_cons_zero]; rfl) (by first | with_reducible rfl | omega | (simp; done) | (simp; omega) | rfl) ?_
    refine osS (by simp (disch := omega) only [zM, stepOp, aval, opv, Ab.get, Ab.put, putO, Nat.reduceEqDiff, ↓reduceIte, D.val, D.cond, reduceCtorEq, aact, actT, IE.isCall, D.cells?, Nat.reduceAdd, Nat.reduceLeDiff, Ob.slice?, Nat.reduceSub, Nat.reduceMul, Int.reduceToNat, Int.reduceLE, Int.reduceLT, Int.reduceAdd, Int.reduceSub, Int.reduceMul, Int.reduceNeg, Int.reduceEq, rowsOf, srcOf, okRef, intOf?, partsD, freezeL, freezeD, buildD, slcStrD, slcSlD, optV, zeroO, eqR, eqD, eqFs, eqX, nzD, binD, unD, lenD, evK, evC, Nat.reduceLT, badG, List.getD_cons_zero]; rfl) (by first | with_reducible rfl | omega | (simp; done) | (simp; omega) | rfl) ?_
    refine osS (by simp (disch := omega) only [zS, viaNN, viaNNT, D.nn, addQ, addT, IE.isCall, Nat.reduceAdd, Nat.reduceSub, Nat.reduceMul, Nat.reduceLeDiff, Nat.reduceLT, Nat.reduceBEq, Int.reduceToNat, Int.reduceLE, Int.reduceLT, Int.reduceAdd, Int.reduceSub, Int.reduceMul, Int.reduceNeg, Int.reduceEq, Nat.reduceEqDiff, runOpsA, runDA, stepOp, aval, aact, opv, Ab.get, Ab.put, putO, keep, memN, D.val, D.cond, D.cells?, D.scalar, X.scalar, D.plain, D.isX, binD, bitsD, eqD, eqFs, eqX, unD, intOf?, lenD, okRef, rowsOf, viewD, viewX, freezeD, freezeL, partsD, buildD, slcStrD, slcSlD, Ob.slice?, ↓reduceIte, reduceCtorEq, evQ, evK, evC, evA, avalR, prefB, eqR, nzD, actT, callT1, callR1, callK1, valsL, condsL, optV, noTabs, IE.frame, memB, zeroO, IntWalk.i64_in, badG, List.getD_cons_zero, tabBer2_r, tabBer2_k, tabBer2_q42, tabBer2_q46, longG]; rfl) (by first | with_reducible rfl | omega | (simp; done) | (simp; omega) | rfl) ?_
    refine osS (by simp only [zC, stepOp, aval, opv, Ab.get, Ab.put, putO, Nat.reduceEqDiff, ↓reduceIte, D.val, D.cond, reduceCtorEq]; rfl) rfl ?_
    refine osN ?_
    simp only [keep, memN, Nat.reduceEqDiff, if_true, if_false, ↓reduceIte, Option.getD_none, Option.getD_some, List.append_nil, List.cons_append, List.nil_append, Bool.false_eq_true]
    refine hK _ _ ?_
    clear hK K
    refine thenQ_normal ?_
    refine WI.cond (b := _) rfl rfl (fun h1 => ?_) (fun h1 => ?_)
    · try simp only [zB] at h1
      refine WI.seq ?_
      refine WI.regA tabBer2_ok [2, 3, 4, 5] (fun K hK => ?_)
      refine osS (by simp only [zC, stepOp, aval, opv, Ab.get, Ab.put, putO, Nat.reduceEqDiff, ↓reduceIte, D.val, D.cond, reduceCtorEq]; rfl) rfl ?_
      refine osS (by simp only [zC, stepOp, aval, opv, Ab.get, Ab.put, putO, Nat.reduceEqDiff, ↓reduceIte, D.val, D.cond, reduceCtorEq]; rfl) rfl ?_
      refine osS (by simp only [zC, stepOp, aval, opv, Ab.get, Ab.put, putO, Nat.reduceEqDiff, ↓reduceIte, D.val, D.cond, reduceCtorEq]; rfl) rfl ?_
      refine osS (by simp only [zC, stepOp, aval, opv, Ab.get, Ab.put, putO, Nat.reduceEqDiff, ↓reduceIte, D.val, D.cond, reduceCtorEq]; rfl) rfl ?_
      refine osN ?_
      simp only [keep, memN, Nat.reduceEqDiff, if_true, if_false, ↓reduceIte, Option.getD_none, Option.getD_some, List.append_nil, List.cons_append, List.nil_append, Bool.false_eq_true]
      refine hK _ _ ?_
      clear hK K
      refine thenQ_normal ?_
      refine WI.ret ?_
      refine blockQ_ret ?_
      refine thenQ_ret ?_
      refine ⟨.inr rfl, ?_⟩
      -- leaf 0
      simp (disch := omega) only [zF, retD, resD, finD, plainD, freezeD, freezeL, aval, opv, Ab.get, Nat.reduceEqDiff, ↓reduceIte, D.val, D.cond, Nat.reduceAdd, Nat.reduceLeDiff, Ob.slice?, badG, List.getD_cons_zero]
      refine ⟨_, _, rfl, ?_⟩
      simp only [mkR]
      simp [headD, headB, h1]
    · try simp only [zB] at h1
      refine WI.seq ?_
      refine WI.regA tabBer2_ok [0, 17] (fun K hK => ?_)
      refine osS (by simp only [zC, stepOp, aval, opv, Ab.get, Ab.put, putO, Nat.reduceEqDiff, ↓reduceIte, D.val, D.cond, reduceCtorEq]; rfl) rfl ?_
      refine osS (by simp (disch := omega) only [zL, zR, zC, stepOp, aval, opv, Ab.get, Ab.put, putO, Nat.reduceEqDiff, ↓reduceIte, D.val, D.cond, reduceCtorEq, lenD, okRef, Nat.reduceAdd, Nat.reduceLeDiff, Ob.slice?, badG, List.getD_cons_zero]; rfl) (by first | with_reducible rfl | omega | (simp; done) | (simp; omega) | rfl) ?_
      refine osS (by simp (disch := omega) only [zG, zN, zC, stepOp, aval, opv, Ab.get, Ab.put, putO, Nat.reduceEqDiff, ↓reduceIte, D.val, D.cond, reduceCtorEq, binD, bitsD, Nat.reduceAdd, Nat.reduceSub, Nat.reduceMul, Nat.reduceLeDiff, Int.reduceToNat, Int.reduceLE, Int.reduceLT, Int.reduceAdd, Int.reduceSub, Int.reduceMul, Int.reduceNeg, Int.reduceEq, bne_self_eq_false, badG, List.getD_cons_zero]; rfl) (by first | with_reducible rfl | omega | (simp; done) | (simp; omega) | rfl) ?_
      refine osS (by simp only [zC, stepOp, aval, opv, Ab.get, Ab.put, putO, Nat.reduceEqDiff, ↓reduceIte, D.val, D.cond, reduceCtorEq]; rfl) rfl ?_
      refine osN ?_
      simp only [keep, memN, Nat.reduceEqDiff, if_true, if_false, ↓reduceIte, Option.getD_none, Option.getD_some, List.append_nil, List.cons_append, List.nil_append, Bool.false_eq_true]
      refine hK _ _ ?_
      clear hK K
      refine thenQ_normal ?_
      refine WI.cond (b := _) rfl rfl (fun h2 => ?_) (fun h2 => ?_)
      · try simp only [zB] at h2
        refine WI.seq ?_
        refine WI.regA tabBer2_ok [2, 3, 4, 5] (fun K hK => ?_)
        refine osS (by simp only [zC, stepOp, aval, opv, Ab.get, Ab.put, putO, Nat.reduceEqDiff, ↓reduceIte, D.val, D.cond, reduceCtorEq]; rfl) rfl ?_
        refine osS (by simp only [zC, stepOp, aval, opv, Ab.get, Ab.put, putO, Nat.reduceEqDiff, ↓reduceIte, D.val, D.cond, reduceCtorEq]; rfl) rfl ?_
        refine osS (by simp only [zC, stepOp, aval, opv, Ab.get, Ab.put, putO, Nat.reduceEqDiff, ↓reduceIte, D.val, D.cond, reduceCtorEq]; rfl) rfl ?_
        refine osS (by simp only [zC, stepOp, aval, opv, Ab.get, Ab.put, putO, Nat.reduceEqDiff, ↓reduceIte, D.val, D.cond, reduceCtorEq]; rfl) rfl ?_
        refine osN ?_
        simp only [keep, memN, Nat.reduceEqDiff, if_true, if_false, ↓reduceIte, Option.getD_none, Option.getD_some, List.append_nil, List.cons_append, List.nil_append, Bool.false_eq_true]
        refine hK _ _ ?_
        clear hK K
        refine thenQ_normal ?_
        refine WI.ret ?_
        refine blockQ_ret ?_
        refine thenQ_ret ?_
        refine ⟨.inr rfl, ?_⟩
        -- leaf 1
        simp (disch := omega) only [zF, retD, resD, finD, plainD, freezeD, freezeL, aval, opv, Ab.get, Nat.reduceEqDiff, ↓reduceIte, D.val, D.cond, Nat.reduceAdd, Nat.reduceLeDiff, Ob.slice?, badG, List.getD_cons_zero]
        refine ⟨_, _, rfl, ?_⟩
        simp only [mkR]
        simp [headD, headB, h1]
      · exfalso
        simp at h2
theorem head2_c (t c : UInt8) (r : List UInt8) : PCalls Try.prog 16 [.x (.str (t :: c :: r))] (headD (t :: c :: r)) := by
  have hL := longB_le c r
  have ht := t.toNat_lt
  have hc := c.toNat_lt
  refine FCalls.pure (fcallsG (fz := true) G_ok (p := i16) rfl _ (Nat.le_of_ble_eq_true rfl) _ (fun C0 E0 => ?_)) rfl
  dsimp only [i16, argsφ]
  refine WI.seq ?_
  refine WI.regA tabBer2_ok [0] (fun K hK => ?_)
  refine osS (by simp only [zC, stepOp, aval, opv, Ab.get, Ab.put, putO, Nat.reduceEqDiff, ↓reduceIte, D.val, D.cond, reduceCtorEq]; rfl) rfl ?_
  refine osS (by simp only [zC, stepOp, aval, opv, Ab.get, Ab.put, putO, Nat.reduceEqDiff, ↓reduceIte, D.val, D.cond, reduceCtorEq]; rfl) rfl ?_
  refine osS (by simp only [zC, stepOp, aval, opv, Ab.get, Ab.put, putO, Nat.reduceEqDiff, ↓reduceIte, D.val, D.cond, reduceCtorEq]; rfl) rfl ?_
  refine osS (by simp only [zC, stepOp, aval, opv, Ab.get, Ab.put, putO, Nat.reduceEqDiff, ↓reduceIte, D.val, D.cond, reduceCtorEq]; rfl) rfl ?_
  refine osN ?_
  simp only [keep, memN, Nat.reduceEqDiff, if_true, if_false, ↓reduceIte, Option.getD_none, Option.getD_some, List.append_nil, List.cons_append, List.nil_append, Bool.false_eq_true]
  refine hK _ _ ?_
  clear hK K
  refine thenQ_normal ?_
  refine WI.seq ?_
  refine WI.block ?_
  refine WI.seq ?_
  refine WI.regA tabBer2_ok [0, 9] (fun K hK => ?_)
  refine osS (by simp only [zC, stepOp, aval, opv, Ab.get, Ab.put, putO, Nat.reduceEqDiff, ↓reduceIte, D.val, D.cond, reduceCtorEq]; rfl) rfl ?_
  refine osS (by simp (disch := omega) only [zG, zN, zC, stepOp, aval, opv, Ab.get, Ab.put, putO, Nat.reduceEqDiff, ↓reduceIte, D.val, D.cond, reduceCtorEq, binD, bitsD, Nat.reduceAdd, Nat.reduceSub, Nat.reduceMul, Nat.reduceLeDiff, Int.reduceToNat, Int.reduceLE, Int.reduceLT, Int.reduceAdd, Int.reduceSub, Int.reduceMul, Int.reduceNeg, Int.reduceEq, bne_self_eq_false, badG, longG, List.getD_cons_zero, List.getD_cons_succ]; rfl) (by first | with_reducible rfl | omega | (simp; done) | (simp; omega) | rfl) ?_
  refine osS (by simp only [zC, stepOp, aval, opv, Ab.get, Ab.put, putO, Nat.reduceEqDiff, ↓reduceIte, D.val, D.cond, reduceCtorEq]; rfl) rfl ?_
  refine osN ?_
  simp only [keep, memN, Nat.reduceEqDiff, if_true, if_false, ↓reduceIte, Option.getD_none, Option.getD_some, List.append_nil, List.cons_append, List.nil_append, Bool.false_eq_true]
  refine hK _ _ ?_
  clear hK K
  refine thenQ_normal ?_
  refine WI.cond (b := _) rfl rfl (fun h0 => ?_) (fun h0 => ?_)
  · exfalso
    simp at h0
  · try simp only [zB] at h0
    refine WI.seq ?_
    refine WI.regA tabBer2_ok [0, 12] (fun K hK => ?_)
    refine osS (by simp only [zC, stepOp, aval, opv, Ab.get, Ab.put, putO, Nat.reduceEqDiff, ↓reduceIte, D.val, D.cond, reduceCtorEq]; rfl) rfl ?_
    refine osS (by simp (disch := omega) only [zM, stepOp, aval, opv, Ab.get, Ab.put, putO, Nat.reduceEqDiff, ↓reduceIte, D.val, D.cond, reduceCtorEq, aact, actT, IE.isCall, D.cells?, Nat.reduceAdd, Nat.reduceLeDiff, Ob.slice?, Nat.reduceSub, Nat.reduceMul, Int.reduceToNat, Int.reduceLE, Int.reduceLT, Int.reduceAdd, Int.reduceSub, Int.reduceMul, Int.reduceNeg, Int.reduceEq, rowsOf, srcOf, okRef, intOf?, partsD, freezeL, freezeD, buildD, slcStrD, slcSlD, optV, zeroO, eqR, eqD, eqFs, eqX, nzD, binD, unD, lenD, evK, evC, Nat.reduceLT, badG, longG, List.getD_cons_zero, List.getD_cons_succ]; rfl) (by first | with_reducible rfl | omega | (simp; done) | (simp; omega) | rfl) ?_
    refine osS (by simp (disch := omega) only [zM, stepOp, aval, opv, Ab.get, Ab.put, putO, Nat.reduceEqDiff, ↓reduceIte, D.val, D.cond, reduceCtorEq, aact, actT, IE.isCall, D.cells?, Nat.reduceAdd, Nat.reduceLeDiff, Ob.slice?, Nat.reduceSub, Nat.reduceMul, Int.reduceToNat, Int.reduceLE, Int.reduceLT, Int.reduceAdd, Int.reduceSub, Int.reduceMul, Int.reduceNeg, Int.reduceEq, rowsOf, srcOf, okRef, intOf?, partsD, freezeL, freezeD, buildD, slcStrD, slcSlD, optV, zeroO, eqR, eqD, eqFs, eqX, nzD, binD, unD, lenD, evK, evC, Nat.reduceLT, badG, longG, List.getD_cons_zero, List.getD_cons_succ]; rfl) (by first | with_reducible rfl | omega | (simp; done) | (simp; omega) | rfl) ?_
    refine osS (by simp (disch := omega) only [zS, viaNN, viaNNT, D.nn, addQ, addT, IE.isCall, Nat.reduceAdd, Nat.reduceSub, Nat.reduceMul, Nat.reduceLeDiff, Nat.reduceLT, Nat.reduceBEq, Int.reduceToNat, Int.reduceLE, Int.reduceLT, Int.reduceAdd, Int.reduceSub, Int.reduceMul, Int.reduceNeg, Int.reduceEq, Nat.reduceEqDiff, runOpsA, runDA, stepOp, aval, aact, opv, Ab.get, Ab.put, putO, keep, memN, D.val, D.cond, D.cells?, D.scalar, X.scalar, D.plain, D.isX, binD, bitsD, eqD, eqFs, eqX, unD, intOf?, lenD, okRef, rowsOf, viewD, viewX, freezeD, freezeL, partsD, buildD, slcStrD, slcSlD, Ob.slice?, ↓reduceIte, reduceCtorEq, evQ, evK, evC, evA, avalR, prefB, eqR, nzD, actT, callT1, callR1, callK1, valsL, condsL, optV, noTabs, IE.frame, memB, zeroO, IntWalk.i64_in, badG, longG, List.getD_cons_zero, List.getD_cons_succ, tabBer2_r, tabBer2_k, tabBer2_q42, tabBer2_q46]; rfl) (by first | with_reducible rfl | omega | (simp; done) | (simp; omega) | rfl) ?_
    refine osS (by simp only [zC, stepOp, aval, opv, Ab.get, Ab.put, putO, Nat.reduceEqDiff, ↓reduceIte, D.val, D.cond, reduceCtorEq]; rfl) rfl ?_
    refine osN ?_
    simp only [keep, memN, Nat.reduceEqDiff, if_true, if_false, ↓reduceIte, Option.getD_none, Option.getD_some, List.append_nil, List.cons_append, List.nil_append, Bool.false_eq_true]
    refine hK _ _ ?_
    clear hK K
    refine thenQ_normal ?_
    refine WI.cond (b := _) rfl rfl (fun h1 => ?_) (fun h1 => ?_)
    · try simp only [zB] at h1
      refine WI.seq ?_
      refine WI.regA tabBer2_ok [2, 3, 4, 5] (fun K hK => ?_)
      refine osS (by simp only [zC, stepOp, aval, opv, Ab.get, Ab.put, putO, Nat.reduceEqDiff, ↓reduceIte, D.val, D.cond, reduceCtorEq]; rfl) rfl ?_
      refine osS (by simp only [zC, stepOp, aval, opv, Ab.get, Ab.put, putO, Nat.reduceEqDiff, ↓reduceIte, D.val, D.cond, reduceCtorEq]; rfl) rfl ?_
      refine osS (by simp only [zC, stepOp, aval, opv, Ab.get, Ab.put, putO, Nat.reduceEqDiff, ↓reduceIte, D.val, D.cond, reduceCtorEq]; rfl) rfl ?_
      refine osS (by simp only [zC, stepOp, aval, opv, Ab.get, Ab.put, putO, Nat.reduceEqDiff, ↓reduceIte, D.val, D.cond, reduceCtorEq]; rfl) rfl ?_
      refine osN ?_
      simp only [keep, memN, Nat.reduceEqDiff, if_true, if_false, ↓reduceIte, Option.getD_none, Option.getD_some, List.append_nil, List.cons_append, List.nil_append, Bool.false_eq_true]
      refine hK _ _ ?_
      clear hK K
      refine thenQ_normal ?_
      refine WI.ret ?_
      refine blockQ_ret ?_
      refine thenQ_ret ?_
      refine ⟨.inr rfl, ?_⟩
      -- leaf 0
      simp (disch := omega) only [zF, retD, resD, finD, plainD, freezeD, freezeL, aval, opv, Ab.get, Nat.reduceEqDiff, ↓reduceIte, D.val, D.cond, Nat.reduceAdd, Nat.reduceLeDiff, Ob.slice?, badG, longG, List.getD_cons_zero, List.getD_cons_succ]
      refine ⟨_, _, rfl, ?_⟩
      simp only [mkR]
      simp [headD, headB, h1]
    · try simp only [zB] at h1
      refine WI.seq ?_
      refine WI.regA tabBer2_ok [0, 17] (fun K hK => ?_)
      refine osS (by simp only [zC, stepOp, aval, opv, Ab.get, Ab.put, putO, Nat.reduceEqDiff, ↓reduceIte, D.val, D.cond, reduceCtorEq]; rfl) rfl ?_
      refine osS (by simp (disch := omega) only [zL, zR, zC, stepOp, aval, opv, Ab.get, Ab.put, putO, Nat.reduceEqDiff, ↓reduceIte, D.val, D.cond, reduceCtorEq, lenD, okRef, Nat.reduceAdd, Nat.reduceLeDiff, Ob.slice?, badG, longG, List.getD_cons_zero, List.getD_cons_succ]; rfl) (by first | with_reducible rfl | omega | (simp; done) | (simp; omega) | rfl) ?_
      refine osS (by simp (disch := omega) only [zG, zN, zC, stepOp, aval, opv, Ab.get, Ab.put, putO, Nat.reduceEqDiff, ↓reduceIte, D.val, D.cond, reduceCtorEq, binD, bitsD, Nat.reduceAdd, Nat.reduceSub, Nat.reduceMul, Nat.reduceLeDiff, Int.reduceToNat, Int.reduceLE, Int.reduceLT, Int.reduceAdd, Int.reduceSub, Int.reduceMul, Int.reduceNeg, Int.reduceEq, bne_self_eq_false, badG, longG, List.getD_cons_zero, List.getD_cons_succ]; rfl) (by first | with_reducible rfl | omega | (simp; done) | (simp; omega) | rfl) ?_
      refine osS (by simp only [zC, stepOp, aval, opv, Ab.get, Ab.put, putO, Nat.reduceEqDiff, ↓reduceIte, D.val, D.cond, reduceCtorEq]; rfl) rfl ?_
      refine osN ?_
      simp only [keep, memN, Nat.reduceEqDiff, if_true, if_false, ↓reduceIte, Option.getD_none, Option.getD_some, List.append_nil, List.cons_append, List.nil_append, Bool.false_eq_true]
      refine hK _ _ ?_
      clear hK K
      refine thenQ_normal ?_
      refine WI.cond (b := _) rfl rfl (fun h2 => ?_) (fun h2 => ?_)
      · exfalso
        simp at h2; omega
      · try simp only [zB] at h2
        refine WI.seq ?_
        refine WI.regA tabBer2_ok [0, 21] (fun K hK => ?_)
        refine osS (by simp only [zC, stepOp, aval, opv, Ab.get, Ab.put, putO, Nat.reduceEqDiff, ↓reduceIte, D.val, D.cond, reduceCtorEq]; rfl) rfl ?_
        refine osS (by simp (disch := omega) only [zM, stepOp, aval, opv, Ab.get, Ab.put, putO, Nat.reduceEqDiff, ↓reduceIte, D.val, D.cond, reduceCtorEq, aact, actT, IE.isCall, D.cells?, Nat.reduceAdd, Nat.reduceLeDiff, Ob.slice?, Nat.reduceSub, Nat.reduceMul, Int.reduceToNat, Int.reduceLE, Int.reduceLT, Int.reduceAdd, Int.reduceSub, Int.reduceMul, Int.reduceNeg, Int.reduceEq, rowsOf, srcOf, okRef, intOf?, partsD, freezeL, freezeD, buildD, slcStrD, slcSlD, optV, zeroO, eqR, eqD, eqFs, eqX, nzD, binD, unD, lenD, evK, evC, Nat.reduceLT, badG, longG, List.getD_cons_zero, List.getD_cons_succ]; rfl) (by first | with_reducible rfl | omega | (simp; done) | (simp; omega) | rfl) ?_
        refine osS (by simp (disch := omega) only [zG, zN, zC, stepOp, aval, opv, Ab.get, Ab.put, putO, Nat.reduceEqDiff, ↓reduceIte, D.val, D.cond, reduceCtorEq, binD, bitsD, Nat.reduceAdd, Nat.reduceSub, Nat.reduceMul, Nat.reduceLeDiff, Int.reduceToNat, Int.reduceLE, Int.reduceLT, Int.reduceAdd, Int.reduceSub, Int.reduceMul, Int.reduceNeg, Int.reduceEq, bne_self_eq_false, badG, longG, List.getD_cons_zero, List.getD_cons_succ]; rfl) (by first | with_reducible rfl | omega | (simp; done) | (simp; omega) | rfl) ?_
        refine osS (by simp only [zC, stepOp, aval, opv, Ab.get, Ab.put, putO, Nat.reduceEqDiff, ↓reduceIte, D.val, D.cond, reduceCtorEq]; rfl) rfl ?_
        refine osN ?_
        simp only [keep, memN, Nat.reduceEqDiff, if_true, if_false, ↓reduceIte, Option.getD_none, Option.getD_some, List.append_nil, List.cons_append, List.nil_append, Bool.false_eq_true]
        refine hK _ _ ?_
        clear hK K
        refine thenQ_normal ?_
        refine WI.cond (b := _) rfl rfl (fun h3 => ?_) (fun h3 => ?_)
        · try simp only [zB] at h3
          refine WI.seq ?_
          refine WI.dregA tabBer2_ok [2, 3, 4, 5] (fun K hK => ?_)
          refine dsF rfl (by simp only [zC, evQ, evA, avalR, prefB, Ob.beq_refl, stepOp, aval, opv, Ab.get, Ab.put, putO, Nat.reduceEqDiff, ↓reduceIte, D.val, D.cond, reduceCtorEq]; rfl) rfl ?_
          refine dsF rfl (by simp (disch := omega) only [zM, evQ, evA, avalR, prefB, Ob.beq_refl, stepOp, aval, opv, Ab.get, Ab.put, putO, Nat.reduceEqDiff, ↓reduceIte, D.val, D.cond, reduceCtorEq, aact, actT, IE.isCall, D.cells?, Nat.reduceAdd, Nat.reduceLeDiff, Ob.slice?, Nat.reduceSub, Nat.reduceMul, Int.reduceToNat, Int.reduceLE, Int.reduceLT, Int.reduceAdd, Int.reduceSub, Int.reduceMul, Int.reduceNeg, Int.reduceEq, rowsOf, srcOf, okRef, intOf?, partsD, freezeL, freezeD, buildD, slcStrD, slcSlD, optV, zeroO, eqR, eqD, eqFs, eqX, nzD, binD, unD, lenD, evK, evC, Nat.reduceLT, badG, longG, List.getD_cons_zero, List.getD_cons_succ]; rfl) (by first | with_reducible rfl | omega | (simp; done) | (simp; omega) | rfl) ?_
          refine dsF rfl (by simp (disch := omega) only [zM, evQ, evA, avalR, prefB, Ob.beq_refl, stepOp, aval, opv, Ab.get, Ab.put, putO, Nat.reduceEqDiff, ↓reduceIte, D.val, D.cond, reduceCtorEq, aact, actT, IE.isCall, D.cells?, Nat.reduceAdd, Nat.reduceLeDiff, Ob.slice?, Nat.reduceSub, Nat.reduceMul, Int.reduceToNat, Int.reduceLE, Int.reduceLT, Int.reduceAdd, Int.reduceSub, Int.reduceMul, Int.reduceNeg, Int.reduceEq, rowsOf, srcOf, okRef, intOf?, partsD, freezeL, freezeD, buildD, slcStrD, slcSlD, optV, zeroO, eqR, eqD, eqFs, eqX, nzD, binD, unD, lenD, evK, evC, Nat.reduceLT, badG, longG, List.getD_cons_zero, List.getD_cons_succ]; rfl) (by first | with_reducible rfl | omega | (simp; done) | (simp; omega) | rfl) ?_
          refine dsF rfl (by simp only [zC, evQ, evA, avalR, prefB, Ob.beq_refl, stepOp, aval, opv, Ab.get, Ab.put, putO, Nat.reduceEqDiff, ↓reduceIte, D.val, D.cond, reduceCtorEq]; rfl) rfl ?_
          refine dsF rfl (by simp (disch := omega) only [zM, evQ, evA, avalR, prefB, Ob.beq_refl, stepOp, aval, opv, Ab.get, Ab.put, putO, Nat.reduceEqDiff, ↓reduceIte, D.val, D.cond, reduceCtorEq, aact, actT, IE.isCall, D.cells?, Nat.reduceAdd, Nat.reduceLeDiff, Ob.slice?, Nat.reduceSub, Nat.reduceMul, Int.reduceToNat, Int.reduceLE, Int.reduceLT, Int.reduceAdd, Int.reduceSub, Int.reduceMul, Int.reduceNeg, Int.reduceEq, rowsOf, srcOf, okRef, intOf?, partsD, freezeL, freezeD, buildD, slcStrD, slcSlD, optV, zeroO, eqR, eqD, eqFs, eqX, nzD, binD, unD, lenD, evK, evC, Nat.reduceLT, badG, longG, List.getD_cons_zero, List.getD_cons_succ]; rfl) (by first | with_reducible rfl | omega | (simp; done) | (simp; omega) | rfl) ?_
          refine dsF rfl (by simp (disch := omega) only [zM, evQ, evA, avalR, prefB, Ob.beq_refl, stepOp, aval, opv, Ab.get, Ab.put, putO, Nat.reduceEqDiff, ↓reduceIte, D.val, D.cond, reduceCtorEq, aact, actT, IE.isCall, D.cells?, Nat.reduceAdd, Nat.reduceLeDiff, Ob.slice?, Nat.reduceSub, Nat.reduceMul, Int.reduceToNat, Int.reduceLE, Int.reduceLT, Int.reduceAdd, Int.reduceSub, Int.reduceMul, Int.reduceNeg, Int.reduceEq, rowsOf, srcOf, okRef, intOf?, partsD, freezeL, freezeD, buildD, slcStrD, slcSlD, optV, zeroO, eqR, eqD, eqFs, eqX, nzD, binD, unD, lenD, evK, evC, Nat.reduceLT, badG, longG, List.getD_cons_zero, List.getD_cons_succ]; rfl) (by first | with_reducible rfl | omega | (simp; done) | (simp; omega) | rfl) ?_
          refine dsF rfl (by simp only [zC, evQ, evA, avalR, prefB, Ob.beq_refl, stepOp, aval, opv, Ab.get, Ab.put, putO, Nat.reduceEqDiff, ↓reduceIte, D.val, D.cond, reduceCtorEq]; rfl) rfl ?_
          refine dsF rfl (by simp only [zC, evQ, evA, avalR, prefB, Ob.beq_refl, stepOp, aval, opv, Ab.get, Ab.put, putO, Nat.reduceEqDiff, ↓reduceIte, D.val, D.cond, reduceCtorEq]; rfl) rfl ?_
          refine dsF rfl (by simp only [zC, evQ, evA, avalR, prefB, Ob.beq_refl, stepOp, aval, opv, Ab.get, Ab.put, putO, Nat.reduceEqDiff, ↓reduceIte, D.val, D.cond, reduceCtorEq]; rfl) rfl ?_
          refine dsF rfl (by simp only [zC, evQ, evA, avalR, prefB, Ob.beq_refl, stepOp, aval, opv, Ab.get, Ab.put, putO, Nat.reduceEqDiff, ↓reduceIte, D.val, D.cond, reduceCtorEq]; rfl) rfl ?_
          refine dsN ?_
          simp only [keep, memN, Nat.reduceEqDiff, if_true, if_false, ↓reduceIte, Option.getD_none, Option.getD_some, List.append_nil, List.cons_append, List.nil_append, Bool.false_eq_true]
          refine hK _ _ ?_
          clear hK K
          refine thenQ_normal ?_
          refine WI.ret ?_
          refine blockQ_ret ?_
          refine thenQ_ret ?_
          refine ⟨.inr rfl, ?_⟩
          -- leaf 1
          simp (disch := omega) only [zF, retD, resD, finD, plainD, freezeD, freezeL, aval, opv, Ab.get, Nat.reduceEqDiff, ↓reduceIte, D.val, D.cond, Nat.reduceAdd, Nat.reduceLeDiff, Ob.slice?, badG, longG, List.getD_cons_zero, List.getD_cons_succ]
          refine ⟨_, _, rfl, ?_⟩
          simp only [mkR]
          have h5 : c.toNat < 128 := by omega
          simp [headD, headB, h1, h5]
        · try simp only [zB] at h3
          refine WI.skip ?_
          refine blockQ_normal ?_
          refine thenQ_normal ?_
          refine WI.seq ?_
          refine WI.regA tabBer2_ok [0, 6, 7, 8] (fun K hK => ?_)
          refine osS (by simp only [zC, stepOp, aval, opv, Ab.get, Ab.put, putO, Nat.reduceEqDiff, ↓reduceIte, D.val, D.cond, reduceCtorEq]; rfl) rfl ?_
          refine osS (by simp (disch := omega) only [zM, stepOp, aval, opv, Ab.get, Ab.put, putO, Nat.reduceEqDiff, ↓reduceIte, D.val, D.cond, reduceCtorEq, aact, actT, IE.isCall, D.cells?, Nat.reduceAdd, Nat.reduceLeDiff, Ob.slice?, Nat.reduceSub, Nat.reduceMul, Int.reduceToNat, Int.reduceLE, Int.reduceLT, Int.reduceAdd, Int.reduceSub, Int.reduceMul, Int.reduceNeg, Int.reduceEq, rowsOf, srcOf, okRef, intOf?, partsD, freezeL, freezeD, buildD, slcStrD, slcSlD, optV, zeroO, eqR, eqD, eqFs, eqX, nzD, binD, unD, lenD, evK, evC, Nat.reduceLT, badG, longG, List.getD_cons_zero, List.getD_cons_succ]; rfl) (by first | with_reducible rfl | omega | (simp; done) | (simp; omega) | rfl) ?_
          refine osS (by simp (disch := omega) only [zS, viaNN, viaNNT, D.nn, addQ, addT, IE.isCall, Nat.reduceAdd, Nat.reduceSub, Nat.reduceMul, Nat.reduceLeDiff, Nat.reduceLT, Nat.reduceBEq, Int.reduceToNat, Int.reduceLE, Int.reduceLT, Int.reduceAdd, Int.reduceSub, Int.reduceMul, Int.reduceNeg, Int.reduceEq, Nat.reduceEqDiff, runOpsA, runDA, stepOp, aval, aact, opv, Ab.get, Ab.put, putO, keep, memN, D.val, D.cond, D.cells?, D.scalar, X.scalar, D.plain, D.isX, binD, bitsD, eqD, eqFs, eqX, unD, intOf?, lenD, okRef, rowsOf, viewD, viewX, freezeD, freezeL, partsD, buildD, slcStrD, slcSlD, Ob.slice?, ↓reduceIte, reduceCtorEq, evQ, evK, evC, evA, avalR, prefB, eqR, nzD, actT, callT1, callR1, callK1, valsL, condsL, optV, noTabs, IE.frame, memB, zeroO, IntWalk.i64_in, badG, longG, List.getD_cons_zero, List.getD_cons_succ, tabBer2_r, tabBer2_k, tabBer2_q42, tabBer2_q46]; rfl) (by first | with_reducible rfl | omega | (simp; done) | (simp; omega) | rfl) ?_
          refine osS (by simp only [zC, stepOp, aval, opv, Ab.get, Ab.put, putO, Nat.reduceEqDiff, ↓reduceIte, D.val, D.cond, reduceCtorEq]; rfl) rfl ?_
          refine osS (by simp (disch := omega) only [zL, zC, stepOp, aval, opv, Ab.get, Ab.put, putO, Nat.reduceEqDiff, ↓reduceIte, D.val, D.cond, reduceCtorEq, Nat.reduceAdd, Nat.reduceLeDiff, badG, longG, List.getD_cons_zero, List.getD_cons_succ]; rfl) rfl ?_
          refine osS (by simp (disch := omega) only [zL, zC, stepOp, aval, opv, Ab.get, Ab.put, putO, Nat.reduceEqDiff, ↓reduceIte, D.val, D.cond, reduceCtorEq, Nat.reduceAdd, Nat.reduceLeDiff, badG, longG, List.getD_cons_zero, List.getD_cons_succ]; rfl) rfl ?_
          refine osS (by simp (disch := omega) only [zL, zC, stepOp, aval, opv, Ab.get, Ab.put, putO, Nat.reduceEqDiff, ↓reduceIte, D.val, D.cond, reduceCtorEq, Nat.reduceAdd, Nat.reduceLeDiff, badG, longG, List.getD_cons_zero, List.getD_cons_succ]; rfl) rfl ?_
          refine osS (by simp only [zC, stepOp, aval, opv, Ab.get, Ab.put, putO, Nat.reduceEqDiff, ↓reduceIte, D.val, D.cond, reduceCtorEq]; rfl) rfl ?_
          refine osS (by simp only [zC, stepOp, aval, opv, Ab.get, Ab.put, putO, Nat.reduceEqDiff, ↓reduceIte, D.val, D.cond, reduceCtorEq]; rfl) rfl ?_
          refine osS (by simp only [zC, stepOp, aval, opv, Ab.get, Ab.put, putO, Nat.reduceEqDiff, ↓reduceIte, D.val, D.cond, reduceCtorEq]; rfl) rfl ?_
          refine osN ?_
          simp only [keep, memN, Nat.reduceEqDiff, if_true, if_false, ↓reduceIte, Option.getD_none, Option.getD_some, List.append_nil, List.cons_append, List.nil_append, Bool.false_eq_true]
          refine hK _ _ ?_
          clear hK K
          refine thenQ_normal ?_
          refine WI.seq ?_
          refine WI.seq ?_
          refine WI.regA tabBer2_ok [0, 6, 7, 8, 39] (fun K hK => ?_)
          refine osS (by simp only [zC, stepOp, aval, opv, Ab.get, Ab.put, putO, Nat.reduceEqDiff, ↓reduceIte, D.val, D.cond, reduceCtorEq]; rfl) rfl ?_
          refine osS (by simp (disch := omega) only [zG, zN, zC, stepOp, aval, opv, Ab.get, Ab.put, putO, Nat.reduceEqDiff, ↓reduceIte, D.val, D.cond, reduceCtorEq, binD, bitsD, Nat.reduceAdd, Nat.reduceSub, Nat.reduceMul, Nat.reduceLeDiff, Int.reduceToNat, Int.reduceLE, Int.reduceLT, Int.reduceAdd, Int.reduceSub, Int.reduceMul, Int.reduceNeg, Int.reduceEq, bne_self_eq_false, badG, longG, List.getD_cons_zero, List.getD_cons_succ]; rfl) (by first | with_reducible rfl | omega | (simp; done) | (simp; omega) | rfl) ?_
          refine osN ?_
          simp only [keep, memN, Nat.reduceEqDiff, if_true, if_false, ↓reduceIte, Option.getD_none, Option.getD_some, List.append_nil, List.cons_append, List.nil_append, Bool.false_eq_true]
          refine hK _ _ ?_
          clear hK K
          refine thenQ_normal ?_
          refine WI.cond (b := _) rfl rfl (fun h4 => ?_) (fun h4 => ?_)
          · try simp only [zB] at h4
            refine WI.seq ?_
            refine WI.regA tabBer2_ok [2, 3, 4, 5] (fun K hK => ?_)
            refine osS (by simp only [zC, stepOp, aval, opv, Ab.get, Ab.put, putO, Nat.reduceEqDiff, ↓reduceIte, D.val, D.cond, reduceCtorEq]; rfl) rfl ?_
            refine osS (by simp only [zC, stepOp, aval, opv, Ab.get, Ab.put, putO, Nat.reduceEqDiff, ↓reduceIte, D.val, D.cond, reduceCtorEq]; rfl) rfl ?_
            refine osS (by simp only [zC, stepOp, aval, opv, Ab.get, Ab.put, putO, Nat.reduceEqDiff, ↓reduceIte, D.val, D.cond, reduceCtorEq]; rfl) rfl ?_
            refine osS (by simp only [zC, stepOp, aval, opv, Ab.get, Ab.put, putO, Nat.reduceEqDiff, ↓reduceIte, D.val, D.cond, reduceCtorEq]; rfl) rfl ?_
            refine osS (by simp only [zC, stepOp, aval, opv, Ab.get, Ab.put, putO, Nat.reduceEqDiff, ↓reduceIte, D.val, D.cond, reduceCtorEq]; rfl) rfl ?_
            refine osN ?_
            simp only [keep, memN, Nat.reduceEqDiff, if_true, if_false, ↓reduceIte, Option.getD_none, Option.getD_some, List.append_nil, List.cons_append, List.nil_append, Bool.false_eq_true]
            refine hK _ _ ?_
            clear hK K
            refine thenQ_normal ?_
            refine WI.ret ?_
            refine thenQ_ret ?_
            refine ⟨.inr rfl, ?_⟩
            -- leaf 2
            simp (disch := omega) only [zF, retD, resD, finD, plainD, freezeD, freezeL, aval, opv, Ab.get, Nat.reduceEqDiff, ↓reduceIte, D.val, D.cond, Nat.reduceAdd, Nat.reduceLeDiff, Ob.slice?, badG, longG, List.getD_cons_zero, List.getD_cons_succ]
            refine ⟨_, _, rfl, ?_⟩
            simp only [mkR]
            have h5 : ¬ c.toNat < 128 := by omega
            simp [headD, headB, h1, h5, h4]
          · try simp only [zB] at h4
            refine WI.skip ?_
            refine thenQ_normal ?_
            refine WI.seq ?_
            refine WI.regA tabBer2_ok [2, 3, 4, 5] (fun K hK => ?_)
            refine osS (by simp only [zC, stepOp, aval, opv, Ab.get, Ab.put, putO, Nat.reduceEqDiff, ↓reduceIte, D.val, D.cond, reduceCtorEq]; rfl) rfl ?_
            refine osS (by simp (disch := omega) only [zM, stepOp, aval, opv, Ab.get, Ab.put, putO, Nat.reduceEqDiff, ↓reduceIte, D.val, D.cond, reduceCtorEq, aact, actT, IE.isCall, D.cells?, Nat.reduceAdd, Nat.reduceLeDiff, Ob.slice?, Nat.reduceSub, Nat.reduceMul, Int.reduceToNat, Int.reduceLE, Int.reduceLT, Int.reduceAdd, Int.reduceSub, Int.reduceMul, Int.reduceNeg, Int.reduceEq, rowsOf, srcOf, okRef, intOf?, partsD, freezeL, freezeD, buildD, slcStrD, slcSlD, optV, zeroO, eqR, eqD, eqFs, eqX, nzD, binD, unD, lenD, evK, evC, Nat.reduceLT, badG, longG, List.getD_cons_zero, List.getD_cons_succ]; rfl) (by first | with_reducible rfl | omega | (simp; done) | (simp; omega) | rfl) ?_
            refine osS (by simp (disch := omega) only [zM, stepOp, aval, opv, Ab.get, Ab.put, putO, Nat.reduceEqDiff, ↓reduceIte, D.val, D.cond, reduceCtorEq, aact, actT, IE.isCall, D.cells?, Nat.reduceAdd, Nat.reduceLeDiff, Ob.slice?, Nat.reduceSub, Nat.reduceMul, Int.reduceToNat, Int.reduceLE, Int.reduceLT, Int.reduceAdd, Int.reduceSub, Int.reduceMul, Int.reduceNeg, Int.reduceEq, rowsOf, srcOf, okRef, intOf?, partsD, freezeL, freezeD, buildD, slcStrD, slcSlD, optV, zeroO, eqR, eqD, eqFs, eqX, nzD, binD, unD, lenD, evK, evC, Nat.reduceLT, badG, longG, List.getD_cons_zero, List.getD_cons_succ]; rfl) (by first | with_reducible rfl | omega | (simp; done) | (simp; omega) | rfl) ?_
            refine osS (by simp only [zC, stepOp, aval, opv, Ab.get, Ab.put, putO, Nat.reduceEqDiff, ↓reduceIte, D.val, D.cond, reduceCtorEq]; rfl) rfl ?_
            refine osS (by simp only [zC, stepOp, aval, opv, Ab.get, Ab.put, putO, Nat.reduceEqDiff, ↓reduceIte, D.val, D.cond, reduceCtorEq]; rfl) rfl ?_
            refine osS (by simp (disch := omega) only [zG, zN, zC, stepOp, aval, opv, Ab.get, Ab.put, putO, Nat.reduceEqDiff, ↓reduceIte, D.val, D.cond, reduceCtorEq, binD, bitsD, Nat.reduceAdd, Nat.reduceSub, Nat.reduceMul, Nat.reduceLeDiff, Int.reduceToNat, Int.reduceLE, Int.reduceLT, Int.reduceAdd, Int.reduceSub, Int.reduceMul, Int.reduceNeg, Int.reduceEq, bne_self_eq_false, badG, longG, List.getD_cons_zero, List.getD_cons_succ]; rfl) (by first | with_reducible rfl | omega | (simp; done) | (simp; omega) | rfl) ?_
            refine osS (by simp only [zC, stepOp, aval, opv, Ab.get, Ab.put, putO, Nat.reduceEqDiff, ↓reduceIte, D.val, D.cond, reduceCtorEq]; rfl) rfl ?_
            refine osS (by simp only [zC, stepOp, aval, opv, Ab.get, Ab.put, putO, Nat.reduceEqDiff, ↓reduceIte, D.val, D.cond, reduceCtorEq]; rfl) rfl ?_
            refine osS (by simp only [zC, stepOp, aval, opv, Ab.get, Ab.put, putO, Nat.reduceEqDiff, ↓reduceIte, D.val, D.cond, reduceCtorEq]; rfl) rfl ?_
            refine osS (by simp only [zC, stepOp, aval, opv, Ab.get, Ab.put, putO, Nat.reduceEqDiff, ↓reduceIte, D.val, D.cond, reduceCtorEq]; rfl) rfl ?_
            refine osN ?_
            simp only [keep, memN, Nat.reduceEqDiff, if_true, if_false, ↓reduceIte, Option.getD_none, Option.getD_some, List.append_nil, List.cons_append, List.nil_append, Bool.false_eq_true]
            refine hK _ _ ?_
            clear hK K
            refine thenQ_normal ?_
            refine WI.ret ?_
            refine ⟨.inr rfl, ?_⟩
            -- leaf 3
            simp (disch := omega) only [zF, retD, resD, finD, plainD, freezeD, freezeL, aval, opv, Ab.get, Nat.reduceEqDiff, ↓reduceIte, D.val, D.cond, Nat.reduceAdd, Nat.reduceLeDiff, Ob.slice?, badG, longG, List.getD_cons_zero, List.getD_cons_succ]
            refine ⟨_, _, rfl, ?_⟩
            simp only [mkR]
            have h5 : ¬ c.toNat < 128 := by omega
            simp [headD, headB, h1, h5, h4]
theorem head_c : ∀ s : List UInt8, PCalls Try.prog 16 [.x (.str s)] (headD s)
  | [] => head0_c
  | [t] => head1_c t
  | t :: c :: r => head2_c t c r
def headG : List D → Option (Bool × D)
  | [.x (.str s)] => some (true, headD s)
  | _ => none
theorem headG_ok : ∀ args r, headG args = some (true, r) → PCalls Try.prog 16 args r := by
  intro args r h
  unfold headG at h
  split at h
  · rename_i s
    simp only [Option.some.injEq, Prod.mk.injEq, Bool.and_eq_true, decide_eq_true_eq, true_and] at h
    obtain rfl := h
    exact head_c s
  · cases h
end Go.Proofs.Ytogmbfaijmhamaa
