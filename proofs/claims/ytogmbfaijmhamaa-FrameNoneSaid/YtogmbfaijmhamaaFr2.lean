/- Frame: the reference. -/
import Derived.Test.YtogmbfaijmhamaaFr1
set_option linter.unusedSimpArgs false
set_option linter.unusedVariables false
namespace Go.Proofs.Ytogmbfaijmhamaa
open Go.RowKit Go.Bo Go.Ab

def fD (m : Int) (S : List UInt8) (e : Int) : D := .agg [.x (.int .i64 m), .x (.str S), .x (.int .i64 e)]
def tabFr3 : Tabs := addQ (addQ (noTabs) 17 headRG) 19 readRG
theorem tabFr3_ok : SsOk Try.prog tabFr3 := addQ_ok (addQ_ok (noTabs_ok) (G_enters G_ok (p := i17) rfl) headRG_ok) (G_enters G_ok (p := i19) rfl) readRG_ok
theorem tabFr3_q17 (a : List D) : tabFr3.q 17 a = headRG a := rfl
theorem tabFr3_q19 (a : List D) : tabFr3.q 19 a = readRG a := rfl
theorem tabFr3_r (f : FuncId) (a : List D) (o : List Ob) : tabFr3.r f a o = none := rfl
theorem tabFr3_k (f : FuncId) (a : List D) (o : List Ob) : tabFr3.k f a o = none := rfl
theorem told_c (m : Int) (S : List UInt8) (e : Int) : PCalls Try.prog 48 [fD m S e] (fD m S (toldE m S e)) := by
  refine FCalls.pure (fcallsG (fz := true) G_ok (p := i48) rfl _ (Nat.le_of_ble_eq_true rfl) _ (fun C0 E0 => ?_)) rfl
  dsimp only [i48, argsφ, fD]
  refine WI.seq ?_
  refine WI.regA tabFr3_ok [1, 2] (fun K hK => ?_)
  refine osS (by simp (disch := omega) only [zL, zC, stepOp, aval, opv, Ab.get, Ab.put, putO, Nat.reduceEqDiff, ↓reduceIte, D.val, D.cond, reduceCtorEq, aact, actT, IE.isCall, D.cells?, Nat.reduceAdd, Nat.reduceLeDiff, headRG, headD]; rfl) rfl ?_
  refine osS (by simp (disch := omega) only [zL, zC, stepOp, aval, opv, Ab.get, Ab.put, putO, Nat.reduceEqDiff, ↓reduceIte, D.val, D.cond, reduceCtorEq, aact, actT, IE.isCall, D.cells?, Nat.reduceAdd, Nat.reduceLeDiff, headRG, headD]; rfl) rfl ?_
  refine osN ?_
  simp only [keep, memN, Nat.reduceEqDiff, if_true, if_false, ↓reduceIte, Option.getD_none, Option.getD_some, List.append_nil, List.cons_append, List.nil_append, Bool.false_eq_true]
  refine hK _ _ ?_
  clear hK K
  refine thenQ_normal ?_
  refine WI.seq ?_
  refine WI.seq ?_
  refine WI.regA tabFr3_ok [1, 2, 14] (fun K hK => ?_)
  refine osS (by simp only [zC, stepOp, aval, opv, Ab.get, Ab.put, putO, Nat.reduceEqDiff, ↓reduceIte, D.val, D.cond, reduceCtorEq, Nat.reduceAdd, Nat.add_zero, Nat.zero_add]; rfl) rfl ?_
  refine osS (by simp (disch := omega) only [zL, zR, zC, stepOp, aval, opv, Ab.get, Ab.put, putO, Nat.reduceEqDiff, ↓reduceIte, D.val, D.cond, reduceCtorEq, Nat.reduceAdd, Nat.reduceLeDiff, Ob.slice?, headRG, headD]; rfl) (by first | with_reducible rfl | omega | (simp; done) | (simp; omega) | rfl) ?_
  refine osS (by simp (disch := omega) only [zG, zN, zC, stepOp, aval, opv, Ab.get, Ab.put, putO, Nat.reduceEqDiff, ↓reduceIte, D.val, D.cond, reduceCtorEq, binD, bitsD, Nat.reduceAdd, Nat.reduceSub, Nat.reduceMul, Nat.reduceLeDiff, Int.reduceToNat, Int.reduceLE, Int.reduceLT, Int.reduceAdd, Int.reduceSub, Int.reduceMul, Int.reduceNeg, Int.reduceEq, bne_self_eq_false, headRG, headD]; rfl) (by first | with_reducible rfl | omega | (simp; done) | (simp; omega) | rfl) ?_
  refine osS (by simp only [zC, stepOp, aval, opv, Ab.get, Ab.put, putO, Nat.reduceEqDiff, ↓reduceIte, D.val, D.cond, reduceCtorEq]; rfl) rfl ?_
  refine osS (by simp (disch := omega) only [zG, zC, stepOp, aval, opv, Ab.get, Ab.put, putO, Nat.reduceEqDiff, ↓reduceIte, D.val, D.cond, reduceCtorEq, Nat.reduceAdd, Nat.add_zero, Nat.zero_add, headRG, headD]; rfl) rfl ?_
  refine osS (by simp (disch := omega) only [zL, zG, zR, zC, stepOp, aval, opv, Ab.get, Ab.put, putO, Nat.reduceEqDiff, ↓reduceIte, D.val, D.cond, reduceCtorEq, Nat.reduceAdd, Nat.reduceLeDiff, Ob.slice?, headRG, headD]; rfl) (by first | with_reducible rfl | omega | (simp; done) | (simp; omega) | rfl) ?_
  refine osS (by simp (disch := omega) only [zG, zN, zC, stepOp, aval, opv, Ab.get, Ab.put, putO, Nat.reduceEqDiff, ↓reduceIte, D.val, D.cond, reduceCtorEq, binD, bitsD, Nat.reduceAdd, Nat.reduceSub, Nat.reduceMul, Nat.reduceLeDiff, Int.reduceToNat, Int.reduceLE, Int.reduceLT, Int.reduceAdd, Int.reduceSub, Int.reduceMul, Int.reduceNeg, Int.reduceEq, bne_self_eq_false, headRG, headD]; rfl) (by first | with_reducible rfl | omega | (simp; done) | (simp; omega) | rfl) ?_
  refine osS (by simp (disch := omega) only [zG, zC, stepOp, aval, opv, Ab.get, Ab.put, putO, Nat.reduceEqDiff, ↓reduceIte, D.val, D.cond, reduceCtorEq, Bool.cond_true_left, Bool.cond_false_right, cond_true, cond_false, headRG, headD]; rfl) (by first | with_reducible rfl | omega | (simp; done) | (simp; omega) | rfl) ?_
  refine osN ?_
  simp only [keep, memN, Nat.reduceEqDiff, if_true, if_false, ↓reduceIte, Option.getD_none, Option.getD_some, List.append_nil, List.cons_append, List.nil_append, Bool.false_eq_true]
  refine hK _ _ ?_
  clear hK K
  refine thenQ_normal ?_
  refine WI.cond (b := _) rfl rfl (fun h0 => ?_) (fun h0 => ?_)
  · try simp only [zB] at h0
    refine WI.seq ?_
    refine WI.regA tabFr3_ok [2] (fun K hK => ?_)
    refine osS (by simp (disch := omega) only [zL, zR, zC, stepOp, aval, opv, Ab.get, Ab.put, putO, Nat.reduceEqDiff, ↓reduceIte, D.val, D.cond, reduceCtorEq, Nat.reduceAdd, Nat.reduceLeDiff, Ob.slice?, headRG, headD]; rfl) (by first | with_reducible rfl | omega | (simp; done) | (simp; omega) | rfl) ?_
    refine osS (by simp (disch := omega) only [zL, zR, zC, stepOp, aval, opv, Ab.get, Ab.put, putO, Nat.reduceEqDiff, ↓reduceIte, D.val, D.cond, reduceCtorEq, aact, actT, IE.isCall, D.cells?, freezeL, freezeD, Option.map_none, Nat.reduceAdd, Nat.reduceLeDiff, Ob.slice?, headRG, headD]; rfl) (by first | with_reducible rfl | omega | (simp; done) | (simp; omega) | rfl) ?_
    refine osN ?_
    simp only [keep, memN, Nat.reduceEqDiff, if_true, if_false, ↓reduceIte, Option.getD_none, Option.getD_some, List.append_nil, List.cons_append, List.nil_append, Bool.false_eq_true]
    refine hK _ _ ?_
    clear hK K
    refine thenQ_normal ?_
    refine WI.ret ?_
    refine thenQ_ret ?_
    refine ⟨.inr rfl, ?_⟩
    -- leaf 0
    simp (disch := omega) only [zF, retD, resD, finD, plainD, freezeD, freezeL, aval, opv, Ab.get, Nat.reduceEqDiff, ↓reduceIte, D.val, D.cond, Nat.reduceAdd, Nat.reduceLeDiff, Ob.slice?, headRG, headD]
    refine ⟨_, _, rfl, ?_⟩
    simp only [mkR]
    rw [toldE, if_pos h0]
  · try simp only [zB] at h0
    refine WI.skip ?_
    refine thenQ_normal ?_
    refine WI.seq ?_
    refine WI.seq ?_
    have hpos : 0 < S.length := List.length_pos_iff.2 h0.2
    refine WI.regA tabFr3_ok [1, 2, 19] (fun K hK => ?_)
    refine osS (by simp only [zC, stepOp, aval, opv, Ab.get, Ab.put, putO, Nat.reduceEqDiff, ↓reduceIte, D.val, D.cond, reduceCtorEq, Nat.reduceAdd, Nat.add_zero, Nat.zero_add]; rfl) rfl ?_
    refine osS (by simp (disch := omega) only [zL, zR, zC, stepOp, aval, opv, Ab.get, Ab.put, putO, Nat.reduceEqDiff, ↓reduceIte, D.val, D.cond, reduceCtorEq, Nat.reduceAdd, Nat.reduceLeDiff, Ob.slice?, headRG, headD]; rfl) (by first | with_reducible rfl | omega | (simp; done) | (simp; omega) | rfl) ?_
    refine osS (by simp (disch := omega) only [zM, stepOp, aval, opv, Ab.get, Ab.put, putO, Nat.reduceEqDiff, ↓reduceIte, D.val, D.cond, reduceCtorEq, aact, actT, IE.isCall, D.cells?, Nat.reduceAdd, Nat.reduceLeDiff, Ob.slice?, Nat.reduceSub, Nat.reduceMul, Int.reduceToNat, Int.reduceLE, Int.reduceLT, Int.reduceAdd, Int.reduceSub, Int.reduceMul, Int.reduceNeg, Int.reduceEq, rowsOf, srcOf, okRef, intOf?, partsD, freezeL, freezeD, buildD, slcStrD, slcSlD, optV, zeroO, eqR, eqD, eqFs, eqX, nzD, binD, unD, lenD, evK, evC, Nat.reduceLT, headRG, headD]; rfl) (by first | with_reducible rfl | omega | (simp; done) | (simp; omega) | rfl) ?_
    refine osS (by simp (disch := omega) only [zG, zN, zC, stepOp, aval, opv, Ab.get, Ab.put, putO, Nat.reduceEqDiff, ↓reduceIte, D.val, D.cond, reduceCtorEq, binD, bitsD, Nat.reduceAdd, Nat.reduceSub, Nat.reduceMul, Nat.reduceLeDiff, Int.reduceToNat, Int.reduceLE, Int.reduceLT, Int.reduceAdd, Int.reduceSub, Int.reduceMul, Int.reduceNeg, Int.reduceEq, bne_self_eq_false, headRG, headD]; rfl) (by first | with_reducible rfl | omega | (simp; done) | (simp; omega) | rfl) ?_
    refine osN ?_
    simp only [keep, memN, Nat.reduceEqDiff, if_true, if_false, ↓reduceIte, Option.getD_none, Option.getD_some, List.append_nil, List.cons_append, List.nil_append, Bool.false_eq_true]
    refine hK _ _ ?_
    clear hK K
    refine thenQ_normal ?_
    refine WI.cond (b := _) rfl rfl (fun h1 => ?_) (fun h1 => ?_)
    · try simp only [zB] at h1
      refine WI.seq ?_
      refine WI.regA tabFr3_ok [1, 2] (fun K hK => ?_)
      refine osS (by simp only [zC, stepOp, aval, opv, Ab.get, Ab.put, putO, Nat.reduceEqDiff, ↓reduceIte, D.val, D.cond, reduceCtorEq, Nat.reduceAdd, Nat.add_zero, Nat.zero_add]; rfl) rfl ?_
      refine osS (by simp (disch := omega) only [zL, zR, zC, stepOp, aval, opv, Ab.get, Ab.put, putO, Nat.reduceEqDiff, ↓reduceIte, D.val, D.cond, reduceCtorEq, aact, actT, IE.isCall, D.cells?, freezeL, freezeD, Option.map_none, Nat.reduceAdd, Nat.reduceLeDiff, Ob.slice?, headRG, headD]; rfl) (by first | with_reducible rfl | omega | (simp; done) | (simp; omega) | rfl) ?_
      refine osN ?_
      simp only [keep, memN, Nat.reduceEqDiff, if_true, if_false, ↓reduceIte, Option.getD_none, Option.getD_some, List.append_nil, List.cons_append, List.nil_append, Bool.false_eq_true]
      refine hK _ _ ?_
      clear hK K
      refine thenQ_normal ?_
      refine WI.seq ?_
      refine WI.regA tabFr3_ok [2] (fun K hK => ?_)
      refine osS (by simp (disch := omega) only [zL, zR, zC, stepOp, aval, opv, Ab.get, Ab.put, putO, Nat.reduceEqDiff, ↓reduceIte, D.val, D.cond, reduceCtorEq, Nat.reduceAdd, Nat.reduceLeDiff, Ob.slice?, headRG, headD]; rfl) (by first | with_reducible rfl | omega | (simp; done) | (simp; omega) | rfl) ?_
      refine osS (by simp (disch := omega) only [zL, zR, zC, stepOp, aval, opv, Ab.get, Ab.put, putO, Nat.reduceEqDiff, ↓reduceIte, D.val, D.cond, reduceCtorEq, aact, actT, IE.isCall, D.cells?, freezeL, freezeD, Option.map_none, Nat.reduceAdd, Nat.reduceLeDiff, Ob.slice?, headRG, headD]; rfl) (by first | with_reducible rfl | omega | (simp; done) | (simp; omega) | rfl) ?_
      refine osN ?_
      simp only [keep, memN, Nat.reduceEqDiff, if_true, if_false, ↓reduceIte, Option.getD_none, Option.getD_some, List.append_nil, List.cons_append, List.nil_append, Bool.false_eq_true]
      refine hK _ _ ?_
      clear hK K
      refine thenQ_normal ?_
      refine WI.ret ?_
      refine thenQ_ret ?_
      refine ⟨.inr rfl, ?_⟩
      -- leaf 1
      simp (disch := omega) only [zF, retD, resD, finD, plainD, freezeD, freezeL, aval, opv, Ab.get, Nat.reduceEqDiff, ↓reduceIte, D.val, D.cond, Nat.reduceAdd, Nat.reduceLeDiff, Ob.slice?, headRG, headD]
      refine ⟨_, _, rfl, ?_⟩
      simp only [mkR]
      rw [toldE, if_neg (not_or.2 ⟨not_not_intro h0.1, h0.2⟩), if_pos (fun h => h1 ((head48D S hpos).1 h))]
    · try simp only [zB] at h1
      refine WI.skip ?_
      refine thenQ_normal ?_
      refine WI.seq ?_
      refine WI.regA tabFr3_ok [1, 2, 4, 6] (fun K hK => ?_)
      refine osS (by simp only [zC, stepOp, aval, opv, Ab.get, Ab.put, putO, Nat.reduceEqDiff, ↓reduceIte, D.val, D.cond, reduceCtorEq, Nat.reduceAdd, Nat.add_zero, Nat.zero_add]; rfl) rfl ?_
      refine osS (by simp (disch := omega) only [zL, zR, zC, stepOp, aval, opv, Ab.get, Ab.put, putO, Nat.reduceEqDiff, ↓reduceIte, D.val, D.cond, reduceCtorEq, Nat.reduceAdd, Nat.reduceLeDiff, Ob.slice?, headRG, headD]; rfl) (by first | with_reducible rfl | omega | (simp; done) | (simp; omega) | rfl) ?_
      refine osS (by simp (disch := omega) only [zS, viaNN, viaNNT, D.nn, addQ, addT, IE.isCall, Nat.reduceAdd, Nat.reduceSub, Nat.reduceMul, Nat.reduceLeDiff, Nat.reduceLT, Nat.reduceBEq, Int.reduceToNat, Int.reduceLE, Int.reduceLT, Int.reduceAdd, Int.reduceSub, Int.reduceMul, Int.reduceNeg, Int.reduceEq, Nat.reduceEqDiff, runOpsA, runDA, stepOp, aval, aact, opv, Ab.get, Ab.put, putO, keep, memN, D.val, D.cond, D.cells?, D.scalar, X.scalar, D.plain, D.isX, binD, bitsD, eqD, eqFs, eqX, unD, intOf?, lenD, okRef, rowsOf, viewD, viewX, freezeD, freezeL, partsD, buildD, slcStrD, slcSlD, Ob.slice?, ↓reduceIte, reduceCtorEq, evQ, evK, evC, evA, avalR, prefB, eqR, nzD, actT, callT1, callR1, callK1, valsL, condsL, optV, noTabs, IE.frame, memB, zeroO, IntWalk.i64_in, headRG, headD, tabFr3_r, tabFr3_k, tabFr3_q17, tabFr3_q19, readRG]; rfl) (by first | with_reducible rfl | omega | (simp; done) | (simp; omega) | rfl) ?_
      refine osS (by simp only [zC, stepOp, aval, opv, Ab.get, Ab.put, putO, Nat.reduceEqDiff, ↓reduceIte, D.val, D.cond, reduceCtorEq]; rfl) rfl ?_
      refine osS (by simp (disch := omega) only [zL, zC, stepOp, aval, opv, Ab.get, Ab.put, putO, Nat.reduceEqDiff, ↓reduceIte, D.val, D.cond, reduceCtorEq, Nat.reduceAdd, Nat.reduceLeDiff, headRG, headD]; rfl) rfl ?_
      refine osS (by simp (disch := omega) only [zL, zC, stepOp, aval, opv, Ab.get, Ab.put, putO, Nat.reduceEqDiff, ↓reduceIte, D.val, D.cond, reduceCtorEq, Nat.reduceAdd, Nat.reduceLeDiff, headRG, headD]; rfl) rfl ?_
      refine osS (by simp (disch := omega) only [zL, zC, stepOp, aval, opv, Ab.get, Ab.put, putO, Nat.reduceEqDiff, ↓reduceIte, D.val, D.cond, reduceCtorEq, Nat.reduceAdd, Nat.reduceLeDiff, headRG, headD]; rfl) rfl ?_
      refine osS (by simp (disch := omega) only [zL, zC, stepOp, aval, opv, Ab.get, Ab.put, putO, Nat.reduceEqDiff, ↓reduceIte, D.val, D.cond, reduceCtorEq, Nat.reduceAdd, Nat.reduceLeDiff, headRG, headD]; rfl) rfl ?_
      refine osS (by simp only [zC, stepOp, aval, opv, Ab.get, Ab.put, putO, Nat.reduceEqDiff, ↓reduceIte, D.val, D.cond, reduceCtorEq]; rfl) rfl ?_
      refine osS (by simp only [zC, stepOp, aval, opv, Ab.get, Ab.put, putO, Nat.reduceEqDiff, ↓reduceIte, D.val, D.cond, reduceCtorEq]; rfl) rfl ?_
      refine osS (by simp only [zC, stepOp, aval, opv, Ab.get, Ab.put, putO, Nat.reduceEqDiff, ↓reduceIte, D.val, D.cond, reduceCtorEq]; rfl) rfl ?_
      refine osS (by simp only [zC, stepOp, aval, opv, Ab.get, Ab.put, putO, Nat.reduceEqDiff, ↓reduceIte, D.val, D.cond, reduceCtorEq]; rfl) rfl ?_
      refine osN ?_
      simp only [keep, memN, Nat.reduceEqDiff, if_true, if_false, ↓reduceIte, Option.getD_none, Option.getD_some, List.append_nil, List.cons_append, List.nil_append, Bool.false_eq_true]
      refine hK _ _ ?_
      clear hK K
      refine thenQ_normal ?_
      refine WI.seq ?_
      refine WI.block ?_
      refine WI.seq ?_
      refine WI.regA tabFr3_ok [1, 2, 6, 30] (fun K hK => ?_)
      refine osS (by simp only [zC, stepOp, aval, opv, Ab.get, Ab.put, putO, Nat.reduceEqDiff, ↓reduceIte, D.val, D.cond, reduceCtorEq]; rfl) rfl ?_
      refine osS (by simp (disch := omega) only [zG, zN, zC, stepOp, aval, opv, Ab.get, Ab.put, putO, Nat.reduceEqDiff, ↓reduceIte, D.val, D.cond, reduceCtorEq, binD, bitsD, Nat.reduceAdd, Nat.reduceSub, Nat.reduceMul, Nat.reduceLeDiff, Int.reduceToNat, Int.reduceLE, Int.reduceLT, Int.reduceAdd, Int.reduceSub, Int.reduceMul, Int.reduceNeg, Int.reduceEq, bne_self_eq_false, headRG, headD]; rfl) (by first | with_reducible rfl | omega | (simp; done) | (simp; omega) | rfl) ?_
      refine osS (by simp only [zC, stepOp, aval, opv, Ab.get, Ab.put, putO, Nat.reduceEqDiff, ↓reduceIte, D.val, D.cond, reduceCtorEq]; rfl) rfl ?_
      refine osS (by simp (disch := omega) only [zG, zC, stepOp, aval, opv, Ab.get, Ab.put, putO, Nat.reduceEqDiff, ↓reduceIte, D.val, D.cond, reduceCtorEq, headRG, headD]; rfl) rfl ?_
      refine osS (by simp (disch := omega) only [zG, zC, stepOp, aval, opv, Ab.get, Ab.put, putO, Nat.reduceEqDiff, ↓reduceIte, D.val, D.cond, reduceCtorEq, Nat.reduceAdd, Nat.add_zero, Nat.zero_add, headRG, headD]; rfl) rfl ?_
      refine osS (by simp (disch := omega) only [zL, zG, zR, zC, stepOp, aval, opv, Ab.get, Ab.put, putO, Nat.reduceEqDiff, ↓reduceIte, D.val, D.cond, reduceCtorEq, Nat.reduceAdd, Nat.reduceLeDiff, Ob.slice?, headRG, headD]; rfl) (by first | with_reducible rfl | omega | (simp; done) | (simp; omega) | rfl) ?_
      refine osS (by simp (disch := omega) only [zG, zN, zC, stepOp, aval, opv, Ab.get, Ab.put, putO, Nat.reduceEqDiff, ↓reduceIte, D.val, D.cond, reduceCtorEq, binD, bitsD, Nat.reduceAdd, Nat.reduceSub, Nat.reduceMul, Nat.reduceLeDiff, Int.reduceToNat, Int.reduceLE, Int.reduceLT, Int.reduceAdd, Int.reduceSub, Int.reduceMul, Int.reduceNeg, Int.reduceEq, bne_self_eq_false, headRG, headD]; rfl) (by first | with_reducible rfl | omega | (simp; done) | (simp; omega) | rfl) ?_
      refine osS (by simp (disch := omega) only [zG, zC, stepOp, aval, opv, Ab.get, Ab.put, putO, Nat.reduceEqDiff, ↓reduceIte, D.val, D.cond, reduceCtorEq, Bool.cond_true_left, Bool.cond_false_right, cond_true, cond_false, headRG, headD]; rfl) (by first | with_reducible rfl | omega | (simp; done) | (simp; omega) | rfl) ?_
      refine osS (by simp only [zC, stepOp, aval, opv, Ab.get, Ab.put, putO, Nat.reduceEqDiff, ↓reduceIte, D.val, D.cond, reduceCtorEq]; rfl) rfl ?_
      refine osN ?_
      simp only [keep, memN, Nat.reduceEqDiff, if_true, if_false, ↓reduceIte, Option.getD_none, Option.getD_some, List.append_nil, List.cons_append, List.nil_append, Bool.false_eq_true]
      refine hK _ _ ?_
      clear hK K
      refine thenQ_normal ?_
      refine WI.cond (b := _) rfl rfl (fun h2 => ?_) (fun h2 => ?_)
      · try simp only [zB] at h2
        refine WI.regA tabFr3_ok [1, 2] (fun K hK => ?_)
        refine osS (by simp only [zC, stepOp, aval, opv, Ab.get, Ab.put, putO, Nat.reduceEqDiff, ↓reduceIte, D.val, D.cond, reduceCtorEq, Nat.reduceAdd, Nat.add_zero, Nat.zero_add]; rfl) rfl ?_
        refine osS (by simp (disch := omega) only [zL, zR, zC, stepOp, aval, opv, Ab.get, Ab.put, putO, Nat.reduceEqDiff, ↓reduceIte, D.val, D.cond, reduceCtorEq, aact, actT, IE.isCall, D.cells?, freezeL, freezeD, Option.map_none, Nat.reduceAdd, Nat.reduceLeDiff, Ob.slice?, headRG, headD]; rfl) (by first | with_reducible rfl | omega | (simp; done) | (simp; omega) | rfl) ?_
        refine osN ?_
        simp only [keep, memN, Nat.reduceEqDiff, if_true, if_false, ↓reduceIte, Option.getD_none, Option.getD_some, List.append_nil, List.cons_append, List.nil_append, Bool.false_eq_true]
        refine hK _ _ ?_
        clear hK K
        refine blockQ_normal ?_
        refine thenQ_normal ?_
        refine WI.seq ?_
        refine WI.regA tabFr3_ok [2] (fun K hK => ?_)
        refine osS (by simp (disch := omega) only [zL, zR, zC, stepOp, aval, opv, Ab.get, Ab.put, putO, Nat.reduceEqDiff, ↓reduceIte, D.val, D.cond, reduceCtorEq, Nat.reduceAdd, Nat.reduceLeDiff, Ob.slice?, headRG, headD]; rfl) (by first | with_reducible rfl | omega | (simp; done) | (simp; omega) | rfl) ?_
        refine osS (by simp (disch := omega) only [zL, zR, zC, stepOp, aval, opv, Ab.get, Ab.put, putO, Nat.reduceEqDiff, ↓reduceIte, D.val, D.cond, reduceCtorEq, aact, actT, IE.isCall, D.cells?, freezeL, freezeD, Option.map_none, Nat.reduceAdd, Nat.reduceLeDiff, Ob.slice?, headRG, headD]; rfl) (by first | with_reducible rfl | omega | (simp; done) | (simp; omega) | rfl) ?_
        refine osN ?_
        simp only [keep, memN, Nat.reduceEqDiff, if_true, if_false, ↓reduceIte, Option.getD_none, Option.getD_some, List.append_nil, List.cons_append, List.nil_append, Bool.false_eq_true]
        refine hK _ _ ?_
        clear hK K
        refine thenQ_normal ?_
        refine WI.ret ?_
        refine ⟨.inr rfl, ?_⟩
        -- leaf 2
        simp (disch := omega) only [zF, retD, resD, finD, plainD, freezeD, freezeL, aval, opv, Ab.get, Nat.reduceEqDiff, ↓reduceIte, D.val, D.cond, Nat.reduceAdd, Nat.reduceLeDiff, Ob.slice?, headRG, headD]
        refine ⟨_, _, rfl, ?_⟩
        simp only [mkR]
        rw [toldE, if_neg (not_or.2 ⟨not_not_intro h0.1, h0.2⟩), if_neg (not_not_intro ((head48D S hpos).2 h1)), if_pos h2.1, if_pos h2.2]
      · try simp only [zB] at h2
        refine WI.seq ?_
        refine WI.regA tabFr3_ok [1, 2, 6, 40] (fun K hK => ?_)
        refine osS (by simp only [zC, stepOp, aval, opv, Ab.get, Ab.put, putO, Nat.reduceEqDiff, ↓reduceIte, D.val, D.cond, reduceCtorEq]; rfl) rfl ?_
        refine osS (by simp (disch := omega) only [zG, zN, zC, stepOp, aval, opv, Ab.get, Ab.put, putO, Nat.reduceEqDiff, ↓reduceIte, D.val, D.cond, reduceCtorEq, binD, bitsD, Nat.reduceAdd, Nat.reduceSub, Nat.reduceMul, Nat.reduceLeDiff, Int.reduceToNat, Int.reduceLE, Int.reduceLT, Int.reduceAdd, Int.reduceSub, Int.reduceMul, Int.reduceNeg, Int.reduceEq, bne_self_eq_false, headRG, headD]; rfl) (by first | with_reducible rfl | omega | (simp; done) | (simp; omega) | rfl) ?_
        refine osS (by simp only [zC, stepOp, aval, opv, Ab.get, Ab.put, putO, Nat.reduceEqDiff, ↓reduceIte, D.val, D.cond, reduceCtorEq]; rfl) rfl ?_
        refine osS (by simp (disch := omega) only [zG, zC, stepOp, aval, opv, Ab.get, Ab.put, putO, Nat.reduceEqDiff, ↓reduceIte, D.val, D.cond, reduceCtorEq, headRG, headD]; rfl) rfl ?_
        refine osS (by simp (disch := omega) only [zG, zN, zC, stepOp, aval, opv, Ab.get, Ab.put, putO, Nat.reduceEqDiff, ↓reduceIte, D.val, D.cond, reduceCtorEq, binD, bitsD, Nat.reduceAdd, Nat.reduceSub, Nat.reduceMul, Nat.reduceLeDiff, Int.reduceToNat, Int.reduceLE, Int.reduceLT, Int.reduceAdd, Int.reduceSub, Int.reduceMul, Int.reduceNeg, Int.reduceEq, bne_self_eq_false, headRG, headD]; rfl) (by first | with_reducible rfl | omega | (simp; done) | (simp; omega) | rfl) ?_
        refine osS (by simp (disch := omega) only [zG, zC, stepOp, aval, opv, Ab.get, Ab.put, putO, Nat.reduceEqDiff, ↓reduceIte, D.val, D.cond, reduceCtorEq, Bool.cond_true_left, Bool.cond_false_right, cond_true, cond_false, headRG, headD]; rfl) (by first | with_reducible rfl | omega | (simp; done) | (simp; omega) | rfl) ?_
        refine osS (by simp only [zC, stepOp, aval, opv, Ab.get, Ab.put, putO, Nat.reduceEqDiff, ↓reduceIte, D.val, D.cond, reduceCtorEq]; rfl) rfl ?_
        refine osN ?_
        simp only [keep, memN, Nat.reduceEqDiff, if_true, if_false, ↓reduceIte, Option.getD_none, Option.getD_some, List.append_nil, List.cons_append, List.nil_append, Bool.false_eq_true]
        refine hK _ _ ?_
        clear hK K
        refine thenQ_normal ?_
        refine WI.cond (b := _) rfl rfl (fun h3 => ?_) (fun h3 => ?_)
        · try simp only [zB] at h3
          refine WI.regA tabFr3_ok [1, 2] (fun K hK => ?_)
          refine osS (by simp only [zC, stepOp, aval, opv, Ab.get, Ab.put, putO, Nat.reduceEqDiff, ↓reduceIte, D.val, D.cond, reduceCtorEq]; rfl) rfl ?_
          refine osS (by simp only [zC, stepOp, aval, opv, Ab.get, Ab.put, putO, Nat.reduceEqDiff, ↓reduceIte, D.val, D.cond, reduceCtorEq, Nat.reduceAdd, Nat.add_zero, Nat.zero_add]; rfl) rfl ?_
          refine osS (by simp (disch := omega) only [zL, zR, zC, stepOp, aval, opv, Ab.get, Ab.put, putO, Nat.reduceEqDiff, ↓reduceIte, D.val, D.cond, reduceCtorEq, aact, actT, IE.isCall, D.cells?, freezeL, freezeD, Option.map_none, Nat.reduceAdd, Nat.reduceLeDiff, Ob.slice?, headRG, headD]; rfl) (by first | with_reducible rfl | omega | (simp; done) | (simp; omega) | rfl) ?_
          refine osN ?_
          simp only [keep, memN, Nat.reduceEqDiff, if_true, if_false, ↓reduceIte, Option.getD_none, Option.getD_some, List.append_nil, List.cons_append, List.nil_append, Bool.false_eq_true]
          refine hK _ _ ?_
          clear hK K
          refine blockQ_normal ?_
          refine thenQ_normal ?_
          refine WI.seq ?_
          refine WI.regA tabFr3_ok [2] (fun K hK => ?_)
          refine osS (by simp (disch := omega) only [zL, zR, zC, stepOp, aval, opv, Ab.get, Ab.put, putO, Nat.reduceEqDiff, ↓reduceIte, D.val, D.cond, reduceCtorEq, Nat.reduceAdd, Nat.reduceLeDiff, Ob.slice?, headRG, headD]; rfl) (by first | with_reducible rfl | omega | (simp; done) | (simp; omega) | rfl) ?_
          refine osS (by simp (disch := omega) only [zL, zR, zC, stepOp, aval, opv, Ab.get, Ab.put, putO, Nat.reduceEqDiff, ↓reduceIte, D.val, D.cond, reduceCtorEq, aact, actT, IE.isCall, D.cells?, freezeL, freezeD, Option.map_none, Nat.reduceAdd, Nat.reduceLeDiff, Ob.slice?, headRG, headD]; rfl) (by first | with_reducible rfl | omega | (simp; done) | (simp; omega) | rfl) ?_
          refine osN ?_
          simp only [keep, memN, Nat.reduceEqDiff, if_true, if_false, ↓reduceIte, Option.getD_none, Option.getD_some, List.append_nil, List.cons_append, List.nil_append, Bool.false_eq_true]
          refine hK _ _ ?_
          clear hK K
          refine thenQ_normal ?_
          refine WI.ret ?_
          refine ⟨.inr rfl, ?_⟩
          -- leaf 3
          simp (disch := omega) only [zF, retD, resD, finD, plainD, freezeD, freezeL, aval, opv, Ab.get, Nat.reduceEqDiff, ↓reduceIte, D.val, D.cond, Nat.reduceAdd, Nat.reduceLeDiff, Ob.slice?, headRG, headD]
          refine ⟨_, _, rfl, ?_⟩
          simp only [mkR]
          rw [toldE, if_neg (not_or.2 ⟨not_not_intro h0.1, h0.2⟩), if_neg (not_not_intro ((head48D S hpos).2 h1)), if_neg h3.1, if_neg h3.2]
        · try simp only [zB] at h3
          refine WI.skip ?_
          refine blockQ_normal ?_
          refine thenQ_normal ?_
          refine WI.seq ?_
          refine WI.regA tabFr3_ok [2] (fun K hK => ?_)
          refine osS (by simp (disch := omega) only [zL, zR, zC, stepOp, aval, opv, Ab.get, Ab.put, putO, Nat.reduceEqDiff, ↓reduceIte, D.val, D.cond, reduceCtorEq, Nat.reduceAdd, Nat.reduceLeDiff, Ob.slice?, headRG, headD]; rfl) (by first | with_reducible rfl | omega | (simp; done) | (simp; omega) | rfl) ?_
          refine osS (by simp (disch := omega) only [zL, zR, zC, stepOp, aval, opv, Ab.get, Ab.put, putO, Nat.reduceEqDiff, ↓reduceIte, D.val, D.cond, reduceCtorEq, aact, actT, IE.isCall, D.cells?, freezeL, freezeD, Option.map_none, Nat.reduceAdd, Nat.reduceLeDiff, Ob.slice?, headRG, headD]; rfl) (by first | with_reducible rfl | omega | (simp; done) | (simp; omega) | rfl) ?_
          refine osN ?_
          simp only [keep, memN, Nat.reduceEqDiff, if_true, if_false, ↓reduceIte, Option.getD_none, Option.getD_some, List.append_nil, List.cons_append, List.nil_append, Bool.false_eq_true]
          refine hK _ _ ?_
          clear hK K
          refine thenQ_normal ?_
          refine WI.ret ?_
          refine ⟨.inr rfl, ?_⟩
          -- leaf 4
          simp (disch := omega) only [zF, retD, resD, finD, plainD, freezeD, freezeL, aval, opv, Ab.get, Nat.reduceEqDiff, ↓reduceIte, D.val, D.cond, Nat.reduceAdd, Nat.reduceLeDiff, Ob.slice?, headRG, headD]
          refine ⟨_, _, rfl, ?_⟩
          simp only [mkR]
          rw [toldE, if_neg (not_or.2 ⟨not_not_intro h0.1, h0.2⟩), if_neg (not_not_intro ((head48D S hpos).2 h1))]
          rcases h3 with h3 | h3
          · rw [if_pos h3, if_neg (by rcases h2 with h | h; exact absurd h3 h; omega), h0.1]
          · rw [if_neg (by rw [h3]; decide), if_pos h3, h0.1]
def toldG : List D → Option (Bool × D)
  | [.agg [.x (.int .i64 m), .x (.str S), .x (.int .i64 e)]] => some (true, fD m S (toldE m S e))
  | _ => none
theorem toldG_ok : ∀ args r, toldG args = some (true, r) → PCalls Try.prog 48 args r := by
  intro args r h
  unfold toldG at h
  split at h
  · rename_i m S e
    simp only [Option.some.injEq, Prod.mk.injEq, Bool.and_eq_true, decide_eq_true_eq, true_and] at h
    obtain rfl := h
    exact told_c m S e
  · cases h
def tabFr4 : Tabs := addQ (addQ (noTabs) 19 readRG) 48 toldG
theorem tabFr4_ok : SsOk Try.prog tabFr4 := addQ_ok (addQ_ok (noTabs_ok) (G_enters G_ok (p := i19) rfl) readRG_ok) (G_enters G_ok (p := i48) rfl) toldG_ok
theorem tabFr4_q19 (a : List D) : tabFr4.q 19 a = readRG a := rfl
theorem tabFr4_q48 (a : List D) : tabFr4.q 48 a = toldG a := rfl
theorem tabFr4_r (f : FuncId) (a : List D) (o : List Ob) : tabFr4.r f a o = none := rfl
theorem tabFr4_k (f : FuncId) (a : List D) (o : List Ob) : tabFr4.k f a o = none := rfl
def feedB (m : Int) (S : List UInt8) (e : Int) (s : List UInt8) : List UInt8 × Int := if e = 0 then (S ++ s, toldE m (S ++ s) 0) else (S, e)
theorem feedR_c (m : Int) (S : List UInt8) (e : Int) (s : List UInt8) (hl : S.length ≤ 1000000) (hs : s.length ≤ 1000000) : PCalls Try.prog 26 [fD m S e, .x (.str s)] (fD m (feedB m S e s).1 (feedB m S e s).2) := by
  refine FCalls.pure (fcallsG (fz := true) G_ok (p := i26) rfl _ (Nat.le_of_ble_eq_true rfl) _ (fun C0 E0 => ?_)) rfl
  dsimp only [i26, argsφ, fD]
  refine WI.seq ?_
  refine WI.regA tabFr4_ok [1, 2, 4] (fun K hK => ?_)
  refine osS (by simp (disch := omega) only [zL, zC, stepOp, aval, opv, Ab.get, Ab.put, putO, Nat.reduceEqDiff, ↓reduceIte, D.val, D.cond, reduceCtorEq, aact, actT, IE.isCall, D.cells?, Nat.reduceAdd, Nat.reduceLeDiff, toldG, fD]; rfl) rfl ?_
  refine osS (by simp (disch := omega) only [zL, zC, stepOp, aval, opv, Ab.get, Ab.put, putO, Nat.reduceEqDiff, ↓reduceIte, D.val, D.cond, reduceCtorEq, aact, actT, IE.isCall, D.cells?, Nat.reduceAdd, Nat.reduceLeDiff, toldG, fD]; rfl) rfl ?_
  refine osN ?_
  simp only [keep, memN, Nat.reduceEqDiff, if_true, if_false, ↓reduceIte, Option.getD_none, Option.getD_some, List.append_nil, List.cons_append, List.nil_append, Bool.false_eq_true]
  refine hK _ _ ?_
  clear hK K
  refine thenQ_normal ?_
  refine WI.seq ?_
  refine WI.seq ?_
  refine WI.regA tabFr4_ok [1, 2, 4, 7] (fun K hK => ?_)
  refine osS (by simp only [zC, stepOp, aval, opv, Ab.get, Ab.put, putO, Nat.reduceEqDiff, ↓reduceIte, D.val, D.cond, reduceCtorEq, Nat.reduceAdd, Nat.add_zero, Nat.zero_add]; rfl) rfl ?_
  refine osS (by simp (disch := omega) only [zL, zR, zC, stepOp, aval, opv, Ab.get, Ab.put, putO, Nat.reduceEqDiff, ↓reduceIte, D.val, D.cond, reduceCtorEq, Nat.reduceAdd, Nat.reduceLeDiff, Ob.slice?, toldG, fD]; rfl) (by first | with_reducible rfl | omega | (simp; done) | (simp; omega) | rfl) ?_
  refine osS (by simp (disch := omega) only [zG, zN, zC, stepOp, aval, opv, Ab.get, Ab.put, putO, Nat.reduceEqDiff, ↓reduceIte, D.val, D.cond, reduceCtorEq, binD, bitsD, Nat.reduceAdd, Nat.reduceSub, Nat.reduceMul, Nat.reduceLeDiff, Int.reduceToNat, Int.reduceLE, Int.reduceLT, Int.reduceAdd, Int.reduceSub, Int.reduceMul, Int.reduceNeg, Int.reduceEq, bne_self_eq_false, toldG, fD]; rfl) (by first | with_reducible rfl | omega | (simp; done) | (simp; omega) | rfl) ?_
  refine osN ?_
  simp only [keep, memN, Nat.reduceEqDiff, if_true, if_false, ↓reduceIte, Option.getD_none, Option.getD_some, List.append_nil, List.cons_append, List.nil_append, Bool.false_eq_true]
  refine hK _ _ ?_
  clear hK K
  refine thenQ_normal ?_
  refine WI.cond (b := _) rfl rfl (fun h0 => ?_) (fun h0 => ?_)
  · try simp only [zB] at h0
    refine WI.seq ?_
    refine WI.regA tabFr4_ok [4] (fun K hK => ?_)
    refine osS (by simp (disch := omega) only [zL, zR, zC, stepOp, aval, opv, Ab.get, Ab.put, putO, Nat.reduceEqDiff, ↓reduceIte, D.val, D.cond, reduceCtorEq, Nat.reduceAdd, Nat.reduceLeDiff, Ob.slice?, toldG, fD]; rfl) (by first | with_reducible rfl | omega | (simp; done) | (simp; omega) | rfl) ?_
    refine osS (by simp (disch := omega) only [zL, zR, zC, stepOp, aval, opv, Ab.get, Ab.put, putO, Nat.reduceEqDiff, ↓reduceIte, D.val, D.cond, reduceCtorEq, aact, actT, IE.isCall, D.cells?, freezeL, freezeD, Option.map_none, Nat.reduceAdd, Nat.reduceLeDiff, Ob.slice?, toldG, fD]; rfl) (by first | with_reducible rfl | omega | (simp; done) | (simp; omega) | rfl) ?_
    refine osN ?_
    simp only [keep, memN, Nat.reduceEqDiff, if_true, if_false, ↓reduceIte, Option.getD_none, Option.getD_some, List.append_nil, List.cons_append, List.nil_append, Bool.false_eq_true]
    refine hK _ _ ?_
    clear hK K
    refine thenQ_normal ?_
    refine WI.ret ?_
    refine thenQ_ret ?_
    refine ⟨.inr rfl, ?_⟩
    -- leaf 0
    simp (disch := omega) only [zF, retD, resD, finD, plainD, freezeD, freezeL, aval, opv, Ab.get, Nat.reduceEqDiff, ↓reduceIte, D.val, D.cond, Nat.reduceAdd, Nat.reduceLeDiff, Ob.slice?, toldG, fD]
    refine ⟨_, _, rfl, ?_⟩
    simp only [mkR]
    rw [feedB, if_neg h0]
  · try simp only [zB] at h0
    refine WI.skip ?_
    refine thenQ_normal ?_
    refine WI.seq ?_
    refine WI.regA tabFr4_ok [2, 4] (fun K hK => ?_)
    refine osS (by simp only [zC, stepOp, aval, opv, Ab.get, Ab.put, putO, Nat.reduceEqDiff, ↓reduceIte, D.val, D.cond, reduceCtorEq, Nat.reduceAdd, Nat.add_zero, Nat.zero_add]; rfl) rfl ?_
    refine osS (by simp (disch := omega) only [zL, zR, zC, stepOp, aval, opv, Ab.get, Ab.put, putO, Nat.reduceEqDiff, ↓reduceIte, D.val, D.cond, reduceCtorEq, Nat.reduceAdd, Nat.reduceLeDiff, Ob.slice?, toldG, fD]; rfl) (by first | with_reducible rfl | omega | (simp; done) | (simp; omega) | rfl) ?_
    refine osS (by simp only [zC, stepOp, aval, opv, Ab.get, Ab.put, putO, Nat.reduceEqDiff, ↓reduceIte, D.val, D.cond, reduceCtorEq]; rfl) rfl ?_
    refine osS (by simp (disch := omega) only [zG, zN, zC, stepOp, aval, opv, Ab.get, Ab.put, putO, Nat.reduceEqDiff, ↓reduceIte, D.val, D.cond, reduceCtorEq, binD, bitsD, Nat.reduceAdd, Nat.reduceSub, Nat.reduceMul, Nat.reduceLeDiff, Int.reduceToNat, Int.reduceLE, Int.reduceLT, Int.reduceAdd, Int.reduceSub, Int.reduceMul, Int.reduceNeg, Int.reduceEq, bne_self_eq_false, toldG, fD]; rfl) (by first | with_reducible rfl | omega | (simp; done) | (simp; omega) | rfl) ?_
    refine osS (by simp only [zC, stepOp, aval, opv, Ab.get, Ab.put, putO, Nat.reduceEqDiff, ↓reduceIte, D.val, D.cond, reduceCtorEq, Nat.reduceAdd, Nat.add_zero, Nat.zero_add]; rfl) rfl ?_
    refine osS (by simp (disch := omega) only [zL, zR, zC, stepOp, aval, opv, Ab.get, Ab.put, putO, Nat.reduceEqDiff, ↓reduceIte, D.val, D.cond, reduceCtorEq, aact, actT, IE.isCall, D.cells?, freezeL, freezeD, Option.map_none, Nat.reduceAdd, Nat.reduceLeDiff, Ob.slice?, toldG, fD]; rfl) (by first | with_reducible rfl | omega | (simp; done) | (simp; omega) | rfl) ?_
    refine osN ?_
    simp only [keep, memN, Nat.reduceEqDiff, if_true, if_false, ↓reduceIte, Option.getD_none, Option.getD_some, List.append_nil, List.cons_append, List.nil_append, Bool.false_eq_true]
    refine hK _ _ ?_
    clear hK K
    refine thenQ_normal ?_
    refine WI.seq ?_
    refine WI.regA tabFr4_ok [4] (fun K hK => ?_)
    refine osS (by simp (disch := omega) only [zL, zR, zC, stepOp, aval, opv, Ab.get, Ab.put, putO, Nat.reduceEqDiff, ↓reduceIte, D.val, D.cond, reduceCtorEq, Nat.reduceAdd, Nat.reduceLeDiff, Ob.slice?, toldG, fD]; rfl) (by first | with_reducible rfl | omega | (simp; done) | (simp; omega) | rfl) ?_
    refine osS (by simp (disch := omega) only [zS, viaNN, viaNNT, D.nn, addQ, addT, IE.isCall, Nat.reduceAdd, Nat.reduceSub, Nat.reduceMul, Nat.reduceLeDiff, Nat.reduceLT, Nat.reduceBEq, Int.reduceToNat, Int.reduceLE, Int.reduceLT, Int.reduceAdd, Int.reduceSub, Int.reduceMul, Int.reduceNeg, Int.reduceEq, Nat.reduceEqDiff, runOpsA, runDA, stepOp, aval, aact, opv, Ab.get, Ab.put, putO, keep, memN, D.val, D.cond, D.cells?, D.scalar, X.scalar, D.plain, D.isX, binD, bitsD, eqD, eqFs, eqX, unD, intOf?, lenD, okRef, rowsOf, viewD, viewX, freezeD, freezeL, partsD, buildD, slcStrD, slcSlD, Ob.slice?, ↓reduceIte, reduceCtorEq, evQ, evK, evC, evA, avalR, prefB, eqR, nzD, actT, callT1, callR1, callK1, valsL, condsL, optV, noTabs, IE.frame, memB, zeroO, IntWalk.i64_in, toldG, fD, tabFr4_r, tabFr4_k, tabFr4_q19, tabFr4_q48, readRG]; rfl) (by first | with_reducible rfl | omega | (simp; done) | (simp; omega) | rfl) ?_
    refine osS (by simp (disch := omega) only [zL, zR, zC, stepOp, aval, opv, Ab.get, Ab.put, putO, Nat.reduceEqDiff, ↓reduceIte, D.val, D.cond, reduceCtorEq, aact, actT, IE.isCall, D.cells?, freezeL, freezeD, Option.map_none, Nat.reduceAdd, Nat.reduceLeDiff, Ob.slice?, toldG, fD]; rfl) (by first | with_reducible rfl | omega | (simp; done) | (simp; omega) | rfl) ?_
    refine osN ?_
    simp only [keep, memN, Nat.reduceEqDiff, if_true, if_false, ↓reduceIte, Option.getD_none, Option.getD_some, List.append_nil, List.cons_append, List.nil_append, Bool.false_eq_true]
    refine hK _ _ ?_
    clear hK K
    refine thenQ_normal ?_
    refine WI.ret ?_
    refine ⟨.inr rfl, ?_⟩
    -- leaf 1
    simp (disch := omega) only [zF, retD, resD, finD, plainD, freezeD, freezeL, aval, opv, Ab.get, Nat.reduceEqDiff, ↓reduceIte, D.val, D.cond, Nat.reduceAdd, Nat.reduceLeDiff, Ob.slice?, toldG, fD]
    refine ⟨_, _, rfl, ?_⟩
    simp only [mkR]
    rw [feedB, if_pos h0, h0]
theorem nextR_c (m : Int) (S : List UInt8) (e : Int) (hl : S.length ≤ 1000000) (he : toldE m S e = e) : PCalls Try.prog 28 [fD m S e] (.tup [fD m (nextB m S e).1 (nextB m S e).2.1, .x (.str (nextB m S e).2.2.1), .x (.bool (nextB m S e).2.2.2)]) := by
  have hk := readB_ok S
  refine FCalls.pure (fcallsG (fz := true) G_ok (p := i28) rfl _ (Nat.le_of_ble_eq_true rfl) _ (fun C0 E0 => ?_)) rfl
  dsimp only [i28, argsφ, fD]
  refine WI.seq ?_
  refine WI.regA tabFr4_ok [1, 2] (fun K hK => ?_)
  refine osS (by simp (disch := omega) only [zL, zC, stepOp, aval, opv, Ab.get, Ab.put, putO, Nat.reduceEqDiff, ↓reduceIte, D.val, D.cond, reduceCtorEq, aact, actT, IE.isCall, D.cells?, Nat.reduceAdd, Nat.reduceLeDiff, toldG, fD, readRG, readD, he]; rfl) rfl ?_
  refine osS (by simp (disch := omega) only [zL, zC, stepOp, aval, opv, Ab.get, Ab.put, putO, Nat.reduceEqDiff, ↓reduceIte, D.val, D.cond, reduceCtorEq, aact, actT, IE.isCall, D.cells?, Nat.reduceAdd, Nat.reduceLeDiff, toldG, fD, readRG, readD, he]; rfl) rfl ?_
  refine osS (by simp only [zC, stepOp, aval, opv, Ab.get, Ab.put, putO, Nat.reduceEqDiff, ↓reduceIte, D.val, D.cond, reduceCtorEq]; rfl) rfl ?_
  refine osS (by simp only [zC, stepOp, aval, opv, Ab.get, Ab.put, putO, Nat.reduceEqDiff, ↓reduceIte, D.val, D.cond, reduceCtorEq]; rfl) rfl ?_
  refine osN ?_
  simp only [keep, memN, Nat.reduceEqDiff, if_true, if_false, ↓reduceIte, Option.getD_none, Option.getD_some, List.append_nil, List.cons_append, List.nil_append, Bool.false_eq_true]
  refine hK _ _ ?_
  clear hK K
  refine thenQ_normal ?_
  refine WI.seq ?_
  refine WI.regA tabFr4_ok [1, 2] (fun K hK => ?_)
  refine osS (by simp (disch := omega) only [zL, zR, zC, stepOp, aval, opv, Ab.get, Ab.put, putO, Nat.reduceEqDiff, ↓reduceIte, D.val, D.cond, reduceCtorEq, Nat.reduceAdd, Nat.reduceLeDiff, Ob.slice?, toldG, fD, readRG, readD, he]; rfl) (by first | with_reducible rfl | omega | (simp; done) | (simp; omega) | rfl) ?_
  refine osS (by simp (disch := omega) only [zS, viaNN, viaNNT, D.nn, addQ, addT, IE.isCall, Nat.reduceAdd, Nat.reduceSub, Nat.reduceMul, Nat.reduceLeDiff, Nat.reduceLT, Nat.reduceBEq, Int.reduceToNat, Int.reduceLE, Int.reduceLT, Int.reduceAdd, Int.reduceSub, Int.reduceMul, Int.reduceNeg, Int.reduceEq, Nat.reduceEqDiff, runOpsA, runDA, stepOp, aval, aact, opv, Ab.get, Ab.put, putO, keep, memN, D.val, D.cond, D.cells?, D.scalar, X.scalar, D.plain, D.isX, binD, bitsD, eqD, eqFs, eqX, unD, intOf?, lenD, okRef, rowsOf, viewD, viewX, freezeD, freezeL, partsD, buildD, slcStrD, slcSlD, Ob.slice?, ↓reduceIte, reduceCtorEq, evQ, evK, evC, evA, avalR, prefB, eqR, nzD, actT, callT1, callR1, callK1, valsL, condsL, optV, noTabs, IE.frame, memB, zeroO, IntWalk.i64_in, toldG, fD, readRG, readD, he, tabFr4_r, tabFr4_k, tabFr4_q19, tabFr4_q48]; rfl) (by first | with_reducible rfl | omega | (simp; done) | (simp; omega) | rfl) ?_
  refine osS (by simp (disch := omega) only [zL, zR, zC, stepOp, aval, opv, Ab.get, Ab.put, putO, Nat.reduceEqDiff, ↓reduceIte, D.val, D.cond, reduceCtorEq, aact, actT, IE.isCall, D.cells?, freezeL, freezeD, Option.map_none, Nat.reduceAdd, Nat.reduceLeDiff, Ob.slice?, toldG, fD, readRG, readD, he]; rfl) (by first | with_reducible rfl | omega | (simp; done) | (simp; omega) | rfl) ?_
  refine osN ?_
  simp only [keep, memN, Nat.reduceEqDiff, if_true, if_false, ↓reduceIte, Option.getD_none, Option.getD_some, List.append_nil, List.cons_append, List.nil_append, Bool.false_eq_true]
  refine hK _ _ ?_
  clear hK K
  refine thenQ_normal ?_
  refine WI.seq ?_
  refine WI.seq ?_
  refine WI.regA tabFr4_ok [1, 2, 13] (fun K hK => ?_)
  refine osS (by simp only [zC, stepOp, aval, opv, Ab.get, Ab.put, putO, Nat.reduceEqDiff, ↓reduceIte, D.val, D.cond, reduceCtorEq, Nat.reduceAdd, Nat.add_zero, Nat.zero_add]; rfl) rfl ?_
  refine osS (by simp (disch := omega) only [zL, zR, zC, stepOp, aval, opv, Ab.get, Ab.put, putO, Nat.reduceEqDiff, ↓reduceIte, D.val, D.cond, reduceCtorEq, Nat.reduceAdd, Nat.reduceLeDiff, Ob.slice?, toldG, fD, readRG, readD, he]; rfl) (by first | with_reducible rfl | omega | (simp; done) | (simp; omega) | rfl) ?_
  refine osS (by simp (disch := omega) only [zG, zN, zC, stepOp, aval, opv, Ab.get, Ab.put, putO, Nat.reduceEqDiff, ↓reduceIte, D.val, D.cond, reduceCtorEq, binD, bitsD, Nat.reduceAdd, Nat.reduceSub, Nat.reduceMul, Nat.reduceLeDiff, Int.reduceToNat, Int.reduceLE, Int.reduceLT, Int.reduceAdd, Int.reduceSub, Int.reduceMul, Int.reduceNeg, Int.reduceEq, bne_self_eq_false, toldG, fD, readRG, readD, he]; rfl) (by first | with_reducible rfl | omega | (simp; done) | (simp; omega) | rfl) ?_
  refine osN ?_
  simp only [keep, memN, Nat.reduceEqDiff, if_true, if_false, ↓reduceIte, Option.getD_none, Option.getD_some, List.append_nil, List.cons_append, List.nil_append, Bool.false_eq_true]
  refine hK _ _ ?_
  clear hK K
  refine thenQ_normal ?_
  refine WI.cond (b := _) rfl rfl (fun h0 => ?_) (fun h0 => ?_)
  · try simp only [zB] at h0
    refine WI.seq ?_
    refine WI.regA tabFr4_ok [2, 3, 4] (fun K hK => ?_)
    refine osS (by simp (disch := omega) only [zL, zR, zC, stepOp, aval, opv, Ab.get, Ab.put, putO, Nat.reduceEqDiff, ↓reduceIte, D.val, D.cond, reduceCtorEq, Nat.reduceAdd, Nat.reduceLeDiff, Ob.slice?, toldG, fD, readRG, readD, he]; rfl) (by first | with_reducible rfl | omega | (simp; done) | (simp; omega) | rfl) ?_
    refine osS (by simp (disch := omega) only [zL, zR, zC, stepOp, aval, opv, Ab.get, Ab.put, putO, Nat.reduceEqDiff, ↓reduceIte, D.val, D.cond, reduceCtorEq, aact, actT, IE.isCall, D.cells?, freezeL, freezeD, Option.map_none, Nat.reduceAdd, Nat.reduceLeDiff, Ob.slice?, toldG, fD, readRG, readD, he]; rfl) (by first | with_reducible rfl | omega | (simp; done) | (simp; omega) | rfl) ?_
    refine osS (by simp only [zC, stepOp, aval, opv, Ab.get, Ab.put, putO, Nat.reduceEqDiff, ↓reduceIte, D.val, D.cond, reduceCtorEq]; rfl) rfl ?_
    refine osS (by simp only [zC, stepOp, aval, opv, Ab.get, Ab.put, putO, Nat.reduceEqDiff, ↓reduceIte, D.val, D.cond, reduceCtorEq]; rfl) rfl ?_
    refine osN ?_
    simp only [keep, memN, Nat.reduceEqDiff, if_true, if_false, ↓reduceIte, Option.getD_none, Option.getD_some, List.append_nil, List.cons_append, List.nil_append, Bool.false_eq_true]
    refine hK _ _ ?_
    clear hK K
    refine thenQ_normal ?_
    refine WI.ret ?_
    refine thenQ_ret ?_
    refine ⟨.inr rfl, ?_⟩
    -- leaf 0
    simp (disch := omega) only [zF, retD, resD, finD, plainD, freezeD, freezeL, aval, opv, Ab.get, Nat.reduceEqDiff, ↓reduceIte, D.val, D.cond, Nat.reduceAdd, Nat.reduceLeDiff, Ob.slice?, toldG, fD, readRG, readD, he]
    refine ⟨_, _, rfl, ?_⟩
    simp only [mkR]
    rw [nextB, if_neg (fun h => h0 h.1)]
  · try simp only [zB] at h0
    refine WI.skip ?_
    refine thenQ_normal ?_
    refine WI.seq ?_
    refine WI.regA tabFr4_ok [1, 2, 6, 7] (fun K hK => ?_)
    refine osS (by simp only [zC, stepOp, aval, opv, Ab.get, Ab.put, putO, Nat.reduceEqDiff, ↓reduceIte, D.val, D.cond, reduceCtorEq, Nat.reduceAdd, Nat.add_zero, Nat.zero_add]; rfl) rfl ?_
    refine osS (by simp (disch := omega) only [zL, zR, zC, stepOp, aval, opv, Ab.get, Ab.put, putO, Nat.reduceEqDiff, ↓reduceIte, D.val, D.cond, reduceCtorEq, Nat.reduceAdd, Nat.reduceLeDiff, Ob.slice?, toldG, fD, readRG, readD, he]; rfl) (by first | with_reducible rfl | omega | (simp; done) | (simp; omega) | rfl) ?_
    refine osS (by simp (disch := omega) only [zS, viaNN, viaNNT, D.nn, addQ, addT, IE.isCall, Nat.reduceAdd, Nat.reduceSub, Nat.reduceMul, Nat.reduceLeDiff, Nat.reduceLT, Nat.reduceBEq, Int.reduceToNat, Int.reduceLE, Int.reduceLT, Int.reduceAdd, Int.reduceSub, Int.reduceMul, Int.reduceNeg, Int.reduceEq, Nat.reduceEqDiff, runOpsA, runDA, stepOp, aval, aact, opv, Ab.get, Ab.put, putO, keep, memN, D.val, D.cond, D.cells?, D.scalar, X.scalar, D.plain, D.isX, binD, bitsD, eqD, eqFs, eqX, unD, intOf?, lenD, okRef, rowsOf, viewD, viewX, freezeD, freezeL, partsD, buildD, slcStrD, slcSlD, Ob.slice?, ↓reduceIte, reduceCtorEq, evQ, evK, evC, evA, avalR, prefB, eqR, nzD, actT, callT1, callR1, callK1, valsL, condsL, optV, noTabs, IE.frame, memB, zeroO, IntWalk.i64_in, toldG, fD, readRG, readD, he, tabFr4_r, tabFr4_k, tabFr4_q19, tabFr4_q48]; rfl) (by first | with_reducible rfl | omega | (simp; done) | (simp; omega) | rfl) ?_
    refine osS (by simp only [zC, stepOp, aval, opv, Ab.get, Ab.put, putO, Nat.reduceEqDiff, ↓reduceIte, D.val, D.cond, reduceCtorEq]; rfl) rfl ?_
    refine osS (by simp (disch := omega) only [zL, zC, stepOp, aval, opv, Ab.get, Ab.put, putO, Nat.reduceEqDiff, ↓reduceIte, D.val, D.cond, reduceCtorEq, Nat.reduceAdd, Nat.reduceLeDiff, toldG, fD, readRG, readD, he]; rfl) rfl ?_
    refine osS (by simp (disch := omega) only [zL, zC, stepOp, aval, opv, Ab.get, Ab.put, putO, Nat.reduceEqDiff, ↓reduceIte, D.val, D.cond, reduceCtorEq, Nat.reduceAdd, Nat.reduceLeDiff, toldG, fD, readRG, readD, he]; rfl) rfl ?_
    refine osS (by simp (disch := omega) only [zL, zC, stepOp, aval, opv, Ab.get, Ab.put, putO, Nat.reduceEqDiff, ↓reduceIte, D.val, D.cond, reduceCtorEq, Nat.reduceAdd, Nat.reduceLeDiff, toldG, fD, readRG, readD, he]; rfl) rfl ?_
    refine osS (by simp (disch := omega) only [zL, zC, stepOp, aval, opv, Ab.get, Ab.put, putO, Nat.reduceEqDiff, ↓reduceIte, D.val, D.cond, reduceCtorEq, aact, actT, IE.isCall, D.cells?, Nat.reduceAdd, Nat.reduceLeDiff, toldG, fD, readRG, readD, he]; rfl) rfl ?_
    refine osS (by simp (disch := omega) only [zL, zR, zC, stepOp, aval, opv, Ab.get, Ab.put, putO, Nat.reduceEqDiff, ↓reduceIte, D.val, D.cond, reduceCtorEq, aact, actT, IE.isCall, D.cells?, freezeL, freezeD, Option.map_none, Nat.reduceAdd, Nat.reduceLeDiff, Ob.slice?, toldG, fD, readRG, readD, he]; rfl) (by first | with_reducible rfl | omega | (simp; done) | (simp; omega) | rfl) ?_
    refine osS (by simp only [zC, stepOp, aval, opv, Ab.get, Ab.put, putO, Nat.reduceEqDiff, ↓reduceIte, D.val, D.cond, reduceCtorEq]; rfl) rfl ?_
    refine osS (by simp only [zC, stepOp, aval, opv, Ab.get, Ab.put, putO, Nat.reduceEqDiff, ↓reduceIte, D.val, D.cond, reduceCtorEq]; rfl) rfl ?_
    refine osN ?_
    simp only [keep, memN, Nat.reduceEqDiff, if_true, if_false, ↓reduceIte, Option.getD_none, Option.getD_some, List.append_nil, List.cons_append, List.nil_append, Bool.false_eq_true]
    refine hK _ _ ?_
    clear hK K
    refine thenQ_normal ?_
    refine WI.seq ?_
    refine WI.seq ?_
    refine WI.regA tabFr4_ok [1, 2, 6, 23] (fun K hK => ?_)
    refine osS (by simp only [zC, stepOp, aval, opv, Ab.get, Ab.put, putO, Nat.reduceEqDiff, ↓reduceIte, D.val, D.cond, reduceCtorEq]; rfl) rfl ?_
    refine osS (by simp (disch := omega) only [zG, zN, zC, stepOp, aval, opv, Ab.get, Ab.put, putO, Nat.reduceEqDiff, ↓reduceIte, D.val, D.cond, reduceCtorEq, binD, bitsD, Nat.reduceAdd, Nat.reduceSub, Nat.reduceMul, Nat.reduceLeDiff, Int.reduceToNat, Int.reduceLE, Int.reduceLT, Int.reduceAdd, Int.reduceSub, Int.reduceMul, Int.reduceNeg, Int.reduceEq, bne_self_eq_false, toldG, fD, readRG, readD, he]; rfl) (by first | with_reducible rfl | omega | (simp; done) | (simp; omega) | rfl) ?_
    refine osN ?_
    simp only [keep, memN, Nat.reduceEqDiff, if_true, if_false, ↓reduceIte, Option.getD_none, Option.getD_some, List.append_nil, List.cons_append, List.nil_append, Bool.false_eq_true]
    refine hK _ _ ?_
    clear hK K
    refine thenQ_normal ?_
    refine WI.cond (b := _) rfl rfl (fun h1 => ?_) (fun h1 => ?_)
    · try simp only [zB] at h1
      refine WI.seq ?_
      refine WI.regA tabFr4_ok [2, 3, 4] (fun K hK => ?_)
      refine osS (by simp (disch := omega) only [zL, zR, zC, stepOp, aval, opv, Ab.get, Ab.put, putO, Nat.reduceEqDiff, ↓reduceIte, D.val, D.cond, reduceCtorEq, Nat.reduceAdd, Nat.reduceLeDiff, Ob.slice?, toldG, fD, readRG, readD, he]; rfl) (by first | with_reducible rfl | omega | (simp; done) | (simp; omega) | rfl) ?_
      refine osS (by simp (disch := omega) only [zL, zR, zC, stepOp, aval, opv, Ab.get, Ab.put, putO, Nat.reduceEqDiff, ↓reduceIte, D.val, D.cond, reduceCtorEq, aact, actT, IE.isCall, D.cells?, freezeL, freezeD, Option.map_none, Nat.reduceAdd, Nat.reduceLeDiff, Ob.slice?, toldG, fD, readRG, readD, he]; rfl) (by first | with_reducible rfl | omega | (simp; done) | (simp; omega) | rfl) ?_
      refine osS (by simp only [zC, stepOp, aval, opv, Ab.get, Ab.put, putO, Nat.reduceEqDiff, ↓reduceIte, D.val, D.cond, reduceCtorEq]; rfl) rfl ?_
      refine osS (by simp only [zC, stepOp, aval, opv, Ab.get, Ab.put, putO, Nat.reduceEqDiff, ↓reduceIte, D.val, D.cond, reduceCtorEq]; rfl) rfl ?_
      refine osN ?_
      simp only [keep, memN, Nat.reduceEqDiff, if_true, if_false, ↓reduceIte, Option.getD_none, Option.getD_some, List.append_nil, List.cons_append, List.nil_append, Bool.false_eq_true]
      refine hK _ _ ?_
      clear hK K
      refine thenQ_normal ?_
      refine WI.ret ?_
      refine thenQ_ret ?_
      refine ⟨.inr rfl, ?_⟩
      -- leaf 1
      simp (disch := omega) only [zF, retD, resD, finD, plainD, freezeD, freezeL, aval, opv, Ab.get, Nat.reduceEqDiff, ↓reduceIte, D.val, D.cond, Nat.reduceAdd, Nat.reduceLeDiff, Ob.slice?, toldG, fD, readRG, readD, he]
      refine ⟨_, _, rfl, ?_⟩
      simp only [mkR]
      rw [nextB, if_neg (fun h => h1 h.2)]
    · try simp only [zB] at h1
      refine WI.skip ?_
      refine thenQ_normal ?_
      refine WI.seq ?_
      have hn := hk h1
      refine WI.regA tabFr4_ok [1, 2, 6, 8] (fun K hK => ?_)
      refine osS (by simp only [zC, stepOp, aval, opv, Ab.get, Ab.put, putO, Nat.reduceEqDiff, ↓reduceIte, D.val, D.cond, reduceCtorEq, Nat.reduceAdd, Nat.add_zero, Nat.zero_add]; rfl) rfl ?_
      refine osS (by simp (disch := omega) only [zL, zR, zC, stepOp, aval, opv, Ab.get, Ab.put, putO, Nat.reduceEqDiff, ↓reduceIte, D.val, D.cond, reduceCtorEq, Nat.reduceAdd, Nat.reduceLeDiff, Ob.slice?, toldG, fD, readRG, readD, he]; rfl) (by first | with_reducible rfl | omega | (simp; done) | (simp; omega) | rfl) ?_
      refine osS (by simp only [zC, stepOp, aval, opv, Ab.get, Ab.put, putO, Nat.reduceEqDiff, ↓reduceIte, D.val, D.cond, reduceCtorEq]; rfl) rfl ?_
      refine osS (by simp (disch := omega) only [zM, stepOp, aval, opv, Ab.get, Ab.put, putO, Nat.reduceEqDiff, ↓reduceIte, D.val, D.cond, reduceCtorEq, aact, actT, IE.isCall, D.cells?, Nat.reduceAdd, Nat.reduceLeDiff, Ob.slice?, Nat.reduceSub, Nat.reduceMul, Int.reduceToNat, Int.reduceLE, Int.reduceLT, Int.reduceAdd, Int.reduceSub, Int.reduceMul, Int.reduceNeg, Int.reduceEq, rowsOf, srcOf, okRef, intOf?, partsD, freezeL, freezeD, buildD, slcStrD, slcSlD, optV, zeroO, eqR, eqD, eqFs, eqX, nzD, binD, unD, lenD, evK, evC, Nat.reduceLT, toldG, fD, readRG, readD, he]; rfl) (by first | with_reducible rfl | omega | (simp; done) | (simp; omega) | rfl) ?_
      refine osS (by simp only [zC, stepOp, aval, opv, Ab.get, Ab.put, putO, Nat.reduceEqDiff, ↓reduceIte, D.val, D.cond, reduceCtorEq]; rfl) rfl ?_
      refine osN ?_
      simp only [keep, memN, Nat.reduceEqDiff, if_true, if_false, ↓reduceIte, Option.getD_none, Option.getD_some, List.append_nil, List.cons_append, List.nil_append, Bool.false_eq_true]
      refine hK _ _ ?_
      clear hK K
      refine thenQ_normal ?_
      refine WI.seq ?_
      refine WI.regA tabFr4_ok [1, 2, 8] (fun K hK => ?_)
      refine osS (by simp only [zC, stepOp, aval, opv, Ab.get, Ab.put, putO, Nat.reduceEqDiff, ↓reduceIte, D.val, D.cond, reduceCtorEq, Nat.reduceAdd, Nat.add_zero, Nat.zero_add]; rfl) rfl ?_
      refine osS (by simp (disch := omega) only [zL, zR, zC, stepOp, aval, opv, Ab.get, Ab.put, putO, Nat.reduceEqDiff, ↓reduceIte, D.val, D.cond, reduceCtorEq, Nat.reduceAdd, Nat.reduceLeDiff, Ob.slice?, toldG, fD, readRG, readD, he]; rfl) (by first | with_reducible rfl | omega | (simp; done) | (simp; omega) | rfl) ?_
      refine osS (by simp only [zC, stepOp, aval, opv, Ab.get, Ab.put, putO, Nat.reduceEqDiff, ↓reduceIte, D.val, D.cond, reduceCtorEq]; rfl) rfl ?_
      refine osS (by simp (disch := omega) only [zM, stepOp, aval, opv, Ab.get, Ab.put, putO, Nat.reduceEqDiff, ↓reduceIte, D.val, D.cond, reduceCtorEq, aact, actT, IE.isCall, D.cells?, Nat.reduceAdd, Nat.reduceLeDiff, Ob.slice?, Nat.reduceSub, Nat.reduceMul, Int.reduceToNat, Int.reduceLE, Int.reduceLT, Int.reduceAdd, Int.reduceSub, Int.reduceMul, Int.reduceNeg, Int.reduceEq, rowsOf, srcOf, okRef, intOf?, partsD, freezeL, freezeD, buildD, slcStrD, slcSlD, optV, zeroO, eqR, eqD, eqFs, eqX, nzD, binD, unD, lenD, evK, evC, Nat.reduceLT, toldG, fD, readRG, readD, he]; rfl) (by first | with_reducible rfl | omega | (simp; done) | (simp; omega) | rfl) ?_
      refine osS (by simp only [zC, stepOp, aval, opv, Ab.get, Ab.put, putO, Nat.reduceEqDiff, ↓reduceIte, D.val, D.cond, reduceCtorEq, Nat.reduceAdd, Nat.add_zero, Nat.zero_add]; rfl) rfl ?_
      refine osS (by simp (disch := omega) only [zL, zR, zC, stepOp, aval, opv, Ab.get, Ab.put, putO, Nat.reduceEqDiff, ↓reduceIte, D.val, D.cond, reduceCtorEq, aact, actT, IE.isCall, D.cells?, freezeL, freezeD, Option.map_none, Nat.reduceAdd, Nat.reduceLeDiff, Ob.slice?, toldG, fD, readRG, readD, he]; rfl) (by first | with_reducible rfl | omega | (simp; done) | (simp; omega) | rfl) ?_
      refine osN ?_
      simp only [keep, memN, Nat.reduceEqDiff, if_true, if_false, ↓reduceIte, Option.getD_none, Option.getD_some, List.append_nil, List.cons_append, List.nil_append, Bool.false_eq_true]
      refine hK _ _ ?_
      clear hK K
      refine thenQ_normal ?_
      refine WI.seq ?_
      refine WI.regA tabFr4_ok [2, 3, 4] (fun K hK => ?_)
      refine osS (by simp (disch := omega) only [zL, zR, zC, stepOp, aval, opv, Ab.get, Ab.put, putO, Nat.reduceEqDiff, ↓reduceIte, D.val, D.cond, reduceCtorEq, Nat.reduceAdd, Nat.reduceLeDiff, Ob.slice?, toldG, fD, readRG, readD, he]; rfl) (by first | with_reducible rfl | omega | (simp; done) | (simp; omega) | rfl) ?_
      refine osS (by simp (disch := omega) only [zS, viaNN, viaNNT, D.nn, addQ, addT, IE.isCall, Nat.reduceAdd, Nat.reduceSub, Nat.reduceMul, Nat.reduceLeDiff, Nat.reduceLT, Nat.reduceBEq, Int.reduceToNat, Int.reduceLE, Int.reduceLT, Int.reduceAdd, Int.reduceSub, Int.reduceMul, Int.reduceNeg, Int.reduceEq, Nat.reduceEqDiff, runOpsA, runDA, stepOp, aval, aact, opv, Ab.get, Ab.put, putO, keep, memN, D.val, D.cond, D.cells?, D.scalar, X.scalar, D.plain, D.isX, binD, bitsD, eqD, eqFs, eqX, unD, intOf?, lenD, okRef, rowsOf, viewD, viewX, freezeD, freezeL, partsD, buildD, slcStrD, slcSlD, Ob.slice?, ↓reduceIte, reduceCtorEq, evQ, evK, evC, evA, avalR, prefB, eqR, nzD, actT, callT1, callR1, callK1, valsL, condsL, optV, noTabs, IE.frame, memB, zeroO, IntWalk.i64_in, toldG, fD, readRG, readD, he, tabFr4_r, tabFr4_k, tabFr4_q19, tabFr4_q48]; rfl) (by first | with_reducible rfl | omega | (simp; done) | (simp; omega) | rfl) ?_
      refine osS (by simp only [zC, stepOp, aval, opv, Ab.get, Ab.put, putO, Nat.reduceEqDiff, ↓reduceIte, D.val, D.cond, reduceCtorEq]; rfl) rfl ?_
      refine osS (by simp (disch := omega) only [zL, zR, zC, stepOp, aval, opv, Ab.get, Ab.put, putO, Nat.reduceEqDiff, ↓reduceIte, D.val, D.cond, reduceCtorEq, aact, actT, IE.isCall, D.cells?, freezeL, freezeD, Option.map_none, Nat.reduceAdd, Nat.reduceLeDiff, Ob.slice?, toldG, fD, readRG, readD, he]; rfl) (by first | with_reducible rfl | omega | (simp; done) | (simp; omega) | rfl) ?_
      refine osS (by simp only [zC, stepOp, aval, opv, Ab.get, Ab.put, putO, Nat.reduceEqDiff, ↓reduceIte, D.val, D.cond, reduceCtorEq]; rfl) rfl ?_
      refine osS (by simp only [zC, stepOp, aval, opv, Ab.get, Ab.put, putO, Nat.reduceEqDiff, ↓reduceIte, D.val, D.cond, reduceCtorEq]; rfl) rfl ?_
      refine osN ?_
      simp only [keep, memN, Nat.reduceEqDiff, if_true, if_false, ↓reduceIte, Option.getD_none, Option.getD_some, List.append_nil, List.cons_append, List.nil_append, Bool.false_eq_true]
      refine hK _ _ ?_
      clear hK K
      refine thenQ_normal ?_
      refine WI.ret ?_
      refine ⟨.inr rfl, ?_⟩
      -- leaf 2
      simp (disch := omega) only [zF, retD, resD, finD, plainD, freezeD, freezeL, aval, opv, Ab.get, Nat.reduceEqDiff, ↓reduceIte, D.val, D.cond, Nat.reduceAdd, Nat.reduceLeDiff, Ob.slice?, toldG, fD, readRG, readD, he]
      refine ⟨_, _, rfl, ?_⟩
      simp only [mkR]
      rw [nextB, if_pos ⟨h0, h1⟩, h0]
theorem toldE_idem (m : Int) (S : List UInt8) (e : Int) : toldE m S (toldE m S e) = toldE m S e := by
  by_cases h : toldE m S e = 0
  · rw [h]
    by_cases h1 : e ≠ 0 ∨ S = []
    · rw [toldE, if_pos h1] at h
      rw [← h]
      rw [toldE, if_pos (by rcases h1 with h1 | h1; exact absurd h h1; exact .inr h1)]
    · have ha : e = 0 := Classical.not_not.1 (not_or.1 h1).1
      rw [ha] at h; exact h
  · exact if_pos (.inl h)
theorem feedB_told (m : Int) (S : List UInt8) (e : Int) (s : List UInt8) (he : toldE m S e = e) : toldE m (feedB m S e s).1 (feedB m S e s).2 = (feedB m S e s).2 := by
  unfold feedB
  split
  · exact toldE_idem _ _ _
  · exact he
theorem nextB_told (m : Int) (S : List UInt8) (e : Int) (he : toldE m S e = e) : toldE m (nextB m S e).1 (nextB m S e).2.1 = (nextB m S e).2.1 := by
  unfold nextB
  split
  · exact toldE_idem _ _ _
  · exact he
theorem nextB_le (m : Int) (S : List UInt8) (e : Int) : (nextB m S e).1.length ≤ S.length := by
  unfold nextB
  split
  · simp
  · exact Nat.le_refl _
theorem feedB_le (m : Int) (S : List UInt8) (e : Int) (s : List UInt8) : (feedB m S e s).1.length ≤ S.length + s.length := by
  unfold feedB
  split
  · simp
  · simp
theorem feed_all (m e : Int) (S s : List UInt8) (hl : S.length ≤ 1000000) (hs : s.length ≤ 1000000) : MCalls Try.prog 25 [.ptr 0 0, .x (.str s)] [frO m S e] (.tup []) [frO m (feedB m S e s).1 (feedB m S e s).2] := by
  unfold feedB
  by_cases he : e = 0
  · rw [if_pos he, he]; exact feed_c m S s hl hs
  · rw [if_neg he]; exact feed_err m e S s he
theorem awake04_c : PCalls Try.prog 23 [] (.x (.bool true)) := (ev_closed G_ok 300 (p := i23) rfl (by kernel_rfl) rfl).2
def awake04G : List D → Option (Bool × D)
  | [] => some (true, .x (.bool true))
  | _ => none
theorem awake04G_ok : ∀ args r, awake04G args = some (true, r) → PCalls Try.prog 23 args r := by
  intro args r h
  unfold awake04G at h
  split at h
  · simp only [Option.some.injEq, Prod.mk.injEq, Bool.and_eq_true, decide_eq_true_eq, true_and] at h
    obtain rfl := h
    exact awake04_c 
  · cases h
end Go.Proofs.Ytogmbfaijmhamaa
