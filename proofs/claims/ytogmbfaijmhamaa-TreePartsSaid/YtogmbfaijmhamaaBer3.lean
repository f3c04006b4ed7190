/- Ber: Read, All, Same. -/
import Derived.Test.YtogmbfaijmhamaaBerH
set_option linter.unusedSimpArgs false
set_option linter.unusedVariables false
namespace Go.Proofs.Ytogmbfaijmhamaa
open Go.RowKit Go.Bo Go.Ab

theorem longB_ok (c : UInt8) (r : List UInt8) (h : (longB c r).2.2 = 0) : 128 < c.toNat ∧ (longB c r) = (valB (r.take (c.toNat - 128)), 1 + (c.toNat - 128), 0) ∧ c.toNat ≤ 132 ∧ c.toNat - 128 ≤ r.length ∧ lenB (valB (r.take (c.toNat - 128))) = c :: r.take (c.toNat - 128) ∧ ¬ 65536 < valB (r.take (c.toNat - 128)) := by
  unfold longB at h ⊢
  simp only at h ⊢
  split at h
  · cases h
  · rename_i k1
    split at h
    · cases h
    · rename_i k2
      split at h
      · cases h
      · rename_i k3
        split at h
        · cases h
        · rename_i k4
          rw [if_neg k1, if_neg k2, if_neg k3, if_neg k4]
          exact ⟨by omega, rfl, by omega, by omega, Classical.not_not.1 k3, k4⟩
theorem headB_ok : ∀ s : List UInt8, (headB s).2.2.2 = 0 → tagB ((headB s).1 : Int) = true ∧ (headB s).2.1 ≤ 65536 ∧ 2 ≤ (headB s).2.2.1 ∧ (headB s).2.2.1 ≤ 6 ∧ (headB s).2.2.1 ≤ s.length
  | [], h => by simp [headB] at h
  | [t], h => by
    exfalso
    simp only [headB] at h
    split at h <;> simp at h
  | t :: c :: r, h => by
    simp only [headB] at h ⊢
    by_cases h1 : tagB (t.toNat : Int) = true
    · rw [if_pos h1] at h ⊢
      by_cases h2 : c.toNat < 128
      · rw [if_pos h2] at h ⊢
        clear h
        refine ⟨h1, ?_, ?_, ?_, ?_⟩
        · show c.toNat ≤ 65536; omega
        · exact Nat.le_refl 2
        · show 2 ≤ 6; decide
        · show 2 ≤ r.length + 1 + 1; omega
      · rw [if_neg h2] at h ⊢
        by_cases h3 : (longB c r).2.2 = 0
        · rw [if_pos h3] at h ⊢
          obtain ⟨k1, k2, k3, k4, k5, k6⟩ := longB_ok c r h3
          rw [k2]
          clear h h3 k2
          refine ⟨h1, ?_, ?_, ?_, ?_⟩
          · simp only; exact Nat.not_lt.1 k6
          · show 2 ≤ 1 + (1 + (c.toNat - 128)); omega
          · show 1 + (1 + (c.toNat - 128)) ≤ 6; omega
          · show 1 + (1 + (c.toNat - 128)) ≤ r.length + 1 + 1; omega
        · rw [if_neg h3] at h; simp at h; exact absurd h h3
    · rw [if_neg h1] at h; simp at h

abbrev Tlv := Int × List UInt8 × Unit
def rTlv : RC Tlv := rCat (rInt .i64) (rCat rStr rEnd)
theorem good_rTlv : rTlv.Good := good_rCat (good_rInt .i64) (good_rCat good_rStr good_rEnd)
def readB (s : List UInt8) : Tlv × Nat × Int :=
  if (headB s).2.2.2 = 0 then
    if s.length - (headB s).2.2.1 < (headB s).2.1 then ((0, [], ()), 0, 4) else
      (((headB s).1, (s.take ((headB s).2.2.1 + (headB s).2.1)).drop (headB s).2.2.1, ()), (headB s).2.2.1 + (headB s).2.1, 0)
  else ((0, [], ()), 0, (headB s).2.2.2)
def readD (s : List UInt8) : D := .tup [.agg [.x (.int .i64 (readB s).1.1), .x (.str (readB s).1.2.1)], .x (.int .i64 (readB s).2.1), .x (.int .i64 (readB s).2.2)]
def tabBer3 : Tabs := addQ (noTabs) 16 headG
theorem tabBer3_ok : SsOk Try.prog tabBer3 := addQ_ok (noTabs_ok) (G_enters G_ok (p := i16) rfl) headG_ok
theorem tabBer3_q16 (a : List D) : tabBer3.q 16 a = headG a := rfl
theorem tabBer3_r (f : FuncId) (a : List D) (o : List Ob) : tabBer3.r f a o = none := rfl
theorem tabBer3_k (f : FuncId) (a : List D) (o : List Ob) : tabBer3.k f a o = none := rfl
def tabBer3R : Tabs := addQ (noTabs) 17 headRG
theorem tabBer3R_ok : SsOk Try.prog tabBer3R := addQ_ok (noTabs_ok) (G_enters G_ok (p := i17) rfl) headRG_ok
theorem tabBer3R_q17 (a : List D) : tabBer3R.q 17 a = headRG a := rfl
theorem tabBer3R_r (f : FuncId) (a : List D) (o : List Ob) : tabBer3R.r f a o = none := rfl
theorem tabBer3R_k (f : FuncId) (a : List D) (o : List Ob) : tabBer3R.k f a o = none := rfl
theorem read_c (s : List UInt8) (hs : s.length ≤ 9223372036854775807) : PCalls Try.prog 18 [.x (.str s)] (readD s) := by
  have hk := headB_ok s
  obtain ⟨a, n, k, e, hH⟩ : ∃ a n k e, headB s = (a, n, k, e) := ⟨_, _, _, _, rfl⟩
  rw [hH] at hk
  simp only at hk
  refine FCalls.pure (fcallsG (fz := true) G_ok (p := i18) rfl _ (Nat.le_of_ble_eq_true rfl) _ (fun C0 E0 => ?_)) rfl
  dsimp only [i18, argsφ]
  refine WI.seq ?_
  refine WI.regA tabBer3_ok [0, 2] (fun K hK => ?_)
  refine osS (by simp (disch := omega) only [zL, zC, stepOp, aval, opv, Ab.get, Ab.put, putO, Nat.reduceEqDiff, ↓reduceIte, D.val, D.cond, reduceCtorEq, aact, actT, IE.isCall, D.cells?, Nat.reduceAdd, Nat.reduceLeDiff, headG, headD, hH]; rfl) rfl ?_
  refine osS (by simp only [zC, stepOp, aval, opv, Ab.get, Ab.put, putO, Nat.reduceEqDiff, ↓reduceIte, D.val, D.cond, reduceCtorEq]; rfl) rfl ?_
  refine osS (by simp only [zC, stepOp, aval, opv, Ab.get, Ab.put, putO, Nat.reduceEqDiff, ↓reduceIte, D.val, D.cond, reduceCtorEq]; rfl) rfl ?_
  refine osN ?_
  simp only [keep, memN, Nat.reduceEqDiff, if_true, if_false, ↓reduceIte, Option.getD_none, Option.getD_some, List.append_nil, List.cons_append, List.nil_append, Bool.false_eq_true]
  refine hK _ _ ?_
  clear hK K
  refine thenQ_normal ?_
  refine WI.seq ?_
  refine WI.regA tabBer3_ok [0, 2, 5, 6, 7, 8] (fun K hK => ?_)
  refine osS (by simp only [zC, stepOp, aval, opv, Ab.get, Ab.put, putO, Nat.reduceEqDiff, ↓reduceIte, D.val, D.cond, reduceCtorEq]; rfl) rfl ?_
  refine osS (by simp (disch := omega) only [zS, viaNN, viaNNT, D.nn, addQ, addT, IE.isCall, Nat.reduceAdd, Nat.reduceSub, Nat.reduceMul, Nat.reduceLeDiff, Nat.reduceLT, Nat.reduceBEq, Int.reduceToNat, Int.reduceLE, Int.reduceLT, Int.reduceAdd, Int.reduceSub, Int.reduceMul, Int.reduceNeg, Int.reduceEq, Nat.reduceEqDiff, runOpsA, runDA, stepOp, aval, aact, opv, Ab.get, Ab.put, putO, keep, memN, D.val, D.cond, D.cells?, D.scalar, X.scalar, D.plain, D.isX, binD, bitsD, eqD, eqFs, eqX, unD, intOf?, lenD, okRef, rowsOf, viewD, viewX, freezeD, freezeL, partsD, buildD, slcStrD, slcSlD, Ob.slice?, ↓reduceIte, reduceCtorEq, evQ, evK, evC, evA, avalR, prefB, eqR, nzD, actT, callT1, callR1, callK1, valsL, condsL, optV, noTabs, IE.frame, memB, zeroO, IntWalk.i64_in, headG, headD, hH, tabBer3_r, tabBer3_k, tabBer3_q16]; rfl) (by first | with_reducible rfl | omega | (simp; done) | (simp; omega) | rfl) ?_
  refine osS (by simp only [zC, stepOp, aval, opv, Ab.get, Ab.put, putO, Nat.reduceEqDiff, ↓reduceIte, D.val, D.cond, reduceCtorEq]; rfl) rfl ?_
  refine osS (by simp (disch := omega) only [zL, zC, stepOp, aval, opv, Ab.get, Ab.put, putO, Nat.reduceEqDiff, ↓reduceIte, D.val, D.cond, reduceCtorEq, Nat.reduceAdd, Nat.reduceLeDiff, headG, headD, hH]; rfl) rfl ?_
  refine osS (by simp (disch := omega) only [zL, zC, stepOp, aval, opv, Ab.get, Ab.put, putO, Nat.reduceEqDiff, ↓reduceIte, D.val, D.cond, reduceCtorEq, Nat.reduceAdd, Nat.reduceLeDiff, headG, headD, hH]; rfl) rfl ?_
  refine osS (by simp (disch := omega) only [zL, zC, stepOp, aval, opv, Ab.get, Ab.put, putO, Nat.reduceEqDiff, ↓reduceIte, D.val, D.cond, reduceCtorEq, Nat.reduceAdd, Nat.reduceLeDiff, headG, headD, hH]; rfl) rfl ?_
  refine osS (by simp (disch := omega) only [zL, zC, stepOp, aval, opv, Ab.get, Ab.put, putO, Nat.reduceEqDiff, ↓reduceIte, D.val, D.cond, reduceCtorEq, Nat.reduceAdd, Nat.reduceLeDiff, headG, headD, hH]; rfl) rfl ?_
  refine osS (by simp only [zC, stepOp, aval, opv, Ab.get, Ab.put, putO, Nat.reduceEqDiff, ↓reduceIte, D.val, D.cond, reduceCtorEq]; rfl) rfl ?_
  refine osS (by simp only [zC, stepOp, aval, opv, Ab.get, Ab.put, putO, Nat.reduceEqDiff, ↓reduceIte, D.val, D.cond, reduceCtorEq]; rfl) rfl ?_
  refine osS (by simp only [zC, stepOp, aval, opv, Ab.get, Ab.put, putO, Nat.reduceEqDiff, ↓reduceIte, D.val, D.cond, reduceCtorEq]; rfl) rfl ?_
  refine osS (by simp only [zC, stepOp, aval, opv, Ab.get, Ab.put, putO, Nat.reduceEqDiff, ↓reduceIte, D.val, D.cond, reduceCtorEq]; rfl) rfl ?_
  refine osN ?_
  simp only [keep, memN, Nat.reduceEqDiff, if_true, if_false, ↓reduceIte, Option.getD_none, Option.getD_some, List.append_nil, List.cons_append, List.nil_append, Bool.false_eq_true]
  refine hK _ _ ?_
  clear hK K
  refine thenQ_normal ?_
  refine WI.seq ?_
  refine WI.block ?_
  refine WI.seq ?_
  refine WI.regA tabBer3_ok [0, 2, 5, 6, 7, 8, 16] (fun K hK => ?_)
  refine osS (by simp only [zC, stepOp, aval, opv, Ab.get, Ab.put, putO, Nat.reduceEqDiff, ↓reduceIte, D.val, D.cond, reduceCtorEq]; rfl) rfl ?_
  refine osS (by simp (disch := omega) only [zG, zN, zC, stepOp, aval, opv, Ab.get, Ab.put, putO, Nat.reduceEqDiff, ↓reduceIte, D.val, D.cond, reduceCtorEq, binD, bitsD, Nat.reduceAdd, Nat.reduceSub, Nat.reduceMul, Nat.reduceLeDiff, Int.reduceToNat, Int.reduceLE, Int.reduceLT, Int.reduceAdd, Int.reduceSub, Int.reduceMul, Int.reduceNeg, Int.reduceEq, bne_self_eq_false, headG, headD, hH]; rfl) (by first | with_reducible rfl | omega | (simp; done) | (simp; omega) | rfl) ?_
  refine osS (by simp only [zC, stepOp, aval, opv, Ab.get, Ab.put, putO, Nat.reduceEqDiff, ↓reduceIte, D.val, D.cond, reduceCtorEq]; rfl) rfl ?_
  refine osN ?_
  simp only [keep, memN, Nat.reduceEqDiff, if_true, if_false, ↓reduceIte, Option.getD_none, Option.getD_some, List.append_nil, List.cons_append, List.nil_append, Bool.false_eq_true]
  refine hK _ _ ?_
  clear hK K
  refine thenQ_normal ?_
  refine WI.cond (b := _) rfl rfl (fun h0 => ?_) (fun h0 => ?_)
  · try simp only [zB] at h0
    refine WI.seq ?_
    refine WI.regA tabBer3_ok [2, 3, 4] (fun K hK => ?_)
    refine osS (by simp (disch := omega) only [zM, stepOp, aval, opv, Ab.get, Ab.put, putO, Nat.reduceEqDiff, ↓reduceIte, D.val, D.cond, reduceCtorEq, aact, actT, IE.isCall, D.cells?, Nat.reduceAdd, Nat.reduceLeDiff, Ob.slice?, Nat.reduceSub, Nat.reduceMul, Int.reduceToNat, Int.reduceLE, Int.reduceLT, Int.reduceAdd, Int.reduceSub, Int.reduceMul, Int.reduceNeg, Int.reduceEq, rowsOf, srcOf, okRef, intOf?, partsD, freezeL, freezeD, buildD, slcStrD, slcSlD, optV, zeroO, eqR, eqD, eqFs, eqX, nzD, binD, unD, lenD, evK, evC, Nat.reduceLT, headG, headD, hH]; rfl) (by first | with_reducible rfl | omega | (simp; done) | (simp; omega) | rfl) ?_
    refine osS (by simp only [zC, stepOp, aval, opv, Ab.get, Ab.put, putO, Nat.reduceEqDiff, ↓reduceIte, D.val, D.cond, reduceCtorEq]; rfl) rfl ?_
    refine osS (by simp (disch := omega) only [zL, zR, zC, stepOp, aval, opv, Ab.get, Ab.put, putO, Nat.reduceEqDiff, ↓reduceIte, D.val, D.cond, reduceCtorEq, aact, actT, IE.isCall, D.cells?, freezeL, freezeD, Option.map_none, Nat.reduceAdd, Nat.reduceLeDiff, Ob.slice?, headG, headD, hH]; rfl) (by first | with_reducible rfl | omega | (simp; done) | (simp; omega) | rfl) ?_
    refine osS (by simp only [zC, stepOp, aval, opv, Ab.get, Ab.put, putO, Nat.reduceEqDiff, ↓reduceIte, D.val, D.cond, reduceCtorEq]; rfl) rfl ?_
    refine osS (by simp only [zC, stepOp, aval, opv, Ab.get, Ab.put, putO, Nat.reduceEqDiff, ↓reduceIte, D.val, D.cond, reduceCtorEq]; rfl) rfl ?_
    refine osN ?_
    simp only [keep, memN, Nat.reduceEqDiff, if_true, if_false, ↓reduceIte, Option.getD_none, Option.getD_some, List.append_nil, List.cons_append, List.nil_append, Bool.false_eq_true]
    refine hK _ _ ?_
    clear hK K
    refine thenQ_normal ?_
    refine WI.ret ?_
    refine blockQ_ret ?_
    refine thenQ_ret ?_
    refine ⟨.inr rfl, ?_⟩
    -- leaf 0
    simp (disch := omega) only [zF, retD, resD, finD, plainD, freezeD, freezeL, aval, opv, Ab.get, Nat.reduceEqDiff, ↓reduceIte, D.val, D.cond, Nat.reduceAdd, Nat.reduceLeDiff, Ob.slice?, headG, headD, hH]
    refine ⟨_, _, rfl, ?_⟩
    simp only [mkR]
    simp [readD, readB, hH, h0]
  · try simp only [zB] at h0
    refine WI.seq ?_
    refine WI.regA tabBer3_ok [0, 2, 5, 6, 7, 21] (fun K hK => ?_)
    refine osS (by simp only [zC, stepOp, aval, opv, Ab.get, Ab.put, putO, Nat.reduceEqDiff, ↓reduceIte, D.val, D.cond, reduceCtorEq]; rfl) rfl ?_
    refine osS (by simp (disch := omega) only [zL, zR, zC, stepOp, aval, opv, Ab.get, Ab.put, putO, Nat.reduceEqDiff, ↓reduceIte, D.val, D.cond, reduceCtorEq, lenD, okRef, Nat.reduceAdd, Nat.reduceLeDiff, Ob.slice?, headG, headD, hH]; rfl) (by first | with_reducible rfl | omega | (simp; done) | (simp; omega) | rfl) ?_
    refine osS (by simp only [zC, stepOp, aval, opv, Ab.get, Ab.put, putO, Nat.reduceEqDiff, ↓reduceIte, D.val, D.cond, reduceCtorEq]; rfl) rfl ?_
    refine osS (by simp (disch := omega) only [zG, zN, zC, stepOp, aval, opv, Ab.get, Ab.put, putO, Nat.reduceEqDiff, ↓reduceIte, D.val, D.cond, reduceCtorEq, binD, bitsD, Nat.reduceAdd, Nat.reduceSub, Nat.reduceMul, Nat.reduceLeDiff, Int.reduceToNat, Int.reduceLE, Int.reduceLT, Int.reduceAdd, Int.reduceSub, Int.reduceMul, Int.reduceNeg, Int.reduceEq, bne_self_eq_false, headG, headD, hH]; rfl) (by first | with_reducible rfl | omega | (simp; done) | (simp; omega) | rfl) ?_
    refine osS (by simp only [zC, stepOp, aval, opv, Ab.get, Ab.put, putO, Nat.reduceEqDiff, ↓reduceIte, D.val, D.cond, reduceCtorEq]; rfl) rfl ?_
    refine osS (by simp (disch := omega) only [zG, zN, zC, stepOp, aval, opv, Ab.get, Ab.put, putO, Nat.reduceEqDiff, ↓reduceIte, D.val, D.cond, reduceCtorEq, binD, bitsD, Nat.reduceAdd, Nat.reduceSub, Nat.reduceMul, Nat.reduceLeDiff, Int.reduceToNat, Int.reduceLE, Int.reduceLT, Int.reduceAdd, Int.reduceSub, Int.reduceMul, Int.reduceNeg, Int.reduceEq, bne_self_eq_false, headG, headD, hH]; rfl) (by first | with_reducible rfl | omega | (simp; done) | (simp; omega) | rfl) ?_
    refine osS (by simp only [zC, stepOp, aval, opv, Ab.get, Ab.put, putO, Nat.reduceEqDiff, ↓reduceIte, D.val, D.cond, reduceCtorEq]; rfl) rfl ?_
    refine osN ?_
    simp only [keep, memN, Nat.reduceEqDiff, if_true, if_false, ↓reduceIte, Option.getD_none, Option.getD_some, List.append_nil, List.cons_append, List.nil_append, Bool.false_eq_true]
    refine hK _ _ ?_
    clear hK K
    refine thenQ_normal ?_
    refine WI.cond (b := _) rfl rfl (fun h1 => ?_) (fun h1 => ?_)
    · try simp only [zB] at h1
      refine WI.seq ?_
      refine WI.regA tabBer3_ok [2, 3, 4] (fun K hK => ?_)
      refine osS (by simp (disch := omega) only [zM, stepOp, aval, opv, Ab.get, Ab.put, putO, Nat.reduceEqDiff, ↓reduceIte, D.val, D.cond, reduceCtorEq, aact, actT, IE.isCall, D.cells?, Nat.reduceAdd, Nat.reduceLeDiff, Ob.slice?, Nat.reduceSub, Nat.reduceMul, Int.reduceToNat, Int.reduceLE, Int.reduceLT, Int.reduceAdd, Int.reduceSub, Int.reduceMul, Int.reduceNeg, Int.reduceEq, rowsOf, srcOf, okRef, intOf?, partsD, freezeL, freezeD, buildD, slcStrD, slcSlD, optV, zeroO, eqR, eqD, eqFs, eqX, nzD, binD, unD, lenD, evK, evC, Nat.reduceLT, headG, headD, hH]; rfl) (by first | with_reducible rfl | omega | (simp; done) | (simp; omega) | rfl) ?_
      refine osS (by simp (disch := omega) only [zL, zR, zC, stepOp, aval, opv, Ab.get, Ab.put, putO, Nat.reduceEqDiff, ↓reduceIte, D.val, D.cond, reduceCtorEq, aact, actT, IE.isCall, D.cells?, freezeL, freezeD, Option.map_none, Nat.reduceAdd, Nat.reduceLeDiff, Ob.slice?, headG, headD, hH]; rfl) (by first | with_reducible rfl | omega | (simp; done) | (simp; omega) | rfl) ?_
      refine osS (by simp only [zC, stepOp, aval, opv, Ab.get, Ab.put, putO, Nat.reduceEqDiff, ↓reduceIte, D.val, D.cond, reduceCtorEq]; rfl) rfl ?_
      refine osS (by simp only [zC, stepOp, aval, opv, Ab.get, Ab.put, putO, Nat.reduceEqDiff, ↓reduceIte, D.val, D.cond, reduceCtorEq]; rfl) rfl ?_
      refine osN ?_
      simp only [keep, memN, Nat.reduceEqDiff, if_true, if_false, ↓reduceIte, Option.getD_none, Option.getD_some, List.append_nil, List.cons_append, List.nil_append, Bool.false_eq_true]
      refine hK _ _ ?_
      clear hK K
      refine thenQ_normal ?_
      refine WI.ret ?_
      refine blockQ_ret ?_
      refine thenQ_ret ?_
      refine ⟨.inr rfl, ?_⟩
      -- leaf 1
      simp (disch := omega) only [zF, retD, resD, finD, plainD, freezeD, freezeL, aval, opv, Ab.get, Nat.reduceEqDiff, ↓reduceIte, D.val, D.cond, Nat.reduceAdd, Nat.reduceLeDiff, Ob.slice?, headG, headD, hH]
      refine ⟨_, _, rfl, ?_⟩
      simp only [mkR]
      obtain rfl := h0
      have h2 : s.length - k < n := by have := hk rfl; omega
      simp [readD, readB, hH, h2]
    · try simp only [zB] at h1
      refine WI.skip ?_
      refine blockQ_normal ?_
      refine thenQ_normal ?_
      refine WI.seq ?_
      refine WI.regA tabBer3_ok [2, 3, 4] (fun K hK => ?_)
      refine osS (by simp only [zC, stepOp, aval, opv, Ab.get, Ab.put, putO, Nat.reduceEqDiff, ↓reduceIte, D.val, D.cond, reduceCtorEq]; rfl) rfl ?_
      refine osS (by simp only [zC, stepOp, aval, opv, Ab.get, Ab.put, putO, Nat.reduceEqDiff, ↓reduceIte, D.val, D.cond, reduceCtorEq]; rfl) rfl ?_
      refine osS (by simp only [zC, stepOp, aval, opv, Ab.get, Ab.put, putO, Nat.reduceEqDiff, ↓reduceIte, D.val, D.cond, reduceCtorEq]; rfl) rfl ?_
      refine osS (by simp only [zC, stepOp, aval, opv, Ab.get, Ab.put, putO, Nat.reduceEqDiff, ↓reduceIte, D.val, D.cond, reduceCtorEq]; rfl) rfl ?_
      refine osS (by simp only [zC, stepOp, aval, opv, Ab.get, Ab.put, putO, Nat.reduceEqDiff, ↓reduceIte, D.val, D.cond, reduceCtorEq]; rfl) rfl ?_
      refine osS (by simp (disch := omega) only [zG, zN, zC, stepOp, aval, opv, Ab.get, Ab.put, putO, Nat.reduceEqDiff, ↓reduceIte, D.val, D.cond, reduceCtorEq, binD, bitsD, Nat.reduceAdd, Nat.reduceSub, Nat.reduceMul, Nat.reduceLeDiff, Int.reduceToNat, Int.reduceLE, Int.reduceLT, Int.reduceAdd, Int.reduceSub, Int.reduceMul, Int.reduceNeg, Int.reduceEq, bne_self_eq_false, headG, headD, hH]; rfl) (by first | with_reducible rfl | omega | (simp; done) | (simp; omega) | rfl) ?_
      refine osS (by simp (disch := omega) only [zM, stepOp, aval, opv, Ab.get, Ab.put, putO, Nat.reduceEqDiff, ↓reduceIte, D.val, D.cond, reduceCtorEq, aact, actT, IE.isCall, D.cells?, Nat.reduceAdd, Nat.reduceLeDiff, Ob.slice?, Nat.reduceSub, Nat.reduceMul, Int.reduceToNat, Int.reduceLE, Int.reduceLT, Int.reduceAdd, Int.reduceSub, Int.reduceMul, Int.reduceNeg, Int.reduceEq, rowsOf, srcOf, okRef, intOf?, partsD, freezeL, freezeD, buildD, slcStrD, slcSlD, optV, zeroO, eqR, eqD, eqFs, eqX, nzD, binD, unD, lenD, evK, evC, Nat.reduceLT, headG, headD, hH]; rfl) (by first | with_reducible rfl | omega | (simp; done) | (simp; omega) | rfl) ?_
      refine osS (by simp (disch := omega) only [zM, stepOp, aval, opv, Ab.get, Ab.put, putO, Nat.reduceEqDiff, ↓reduceIte, D.val, D.cond, reduceCtorEq, aact, actT, IE.isCall, D.cells?, Nat.reduceAdd, Nat.reduceLeDiff, Ob.slice?, Nat.reduceSub, Nat.reduceMul, Int.reduceToNat, Int.reduceLE, Int.reduceLT, Int.reduceAdd, Int.reduceSub, Int.reduceMul, Int.reduceNeg, Int.reduceEq, rowsOf, srcOf, okRef, intOf?, partsD, freezeL, freezeD, buildD, slcStrD, slcSlD, optV, zeroO, eqR, eqD, eqFs, eqX, nzD, binD, unD, lenD, evK, evC, Nat.reduceLT, headG, headD, hH]; rfl) (by first | with_reducible rfl | omega | (simp; done) | (simp; omega) | rfl) ?_
      refine osS (by simp only [zC, stepOp, aval, opv, Ab.get, Ab.put, putO, Nat.reduceEqDiff, ↓reduceIte, D.val, D.cond, reduceCtorEq]; rfl) rfl ?_
      refine osS (by simp only [zC, stepOp, aval, opv, Ab.get, Ab.put, putO, Nat.reduceEqDiff, ↓reduceIte, D.val, D.cond, reduceCtorEq]; rfl) rfl ?_
      refine osS (by simp (disch := omega) only [zG, zN, zC, stepOp, aval, opv, Ab.get, Ab.put, putO, Nat.reduceEqDiff, ↓reduceIte, D.val, D.cond, reduceCtorEq, binD, bitsD, Nat.reduceAdd, Nat.reduceSub, Nat.reduceMul, Nat.reduceLeDiff, Int.reduceToNat, Int.reduceLE, Int.reduceLT, Int.reduceAdd, Int.reduceSub, Int.reduceMul, Int.reduceNeg, Int.reduceEq, bne_self_eq_false, headG, headD, hH]; rfl) (by first | with_reducible rfl | omega | (simp; done) | (simp; omega) | rfl) ?_
      refine osS (by simp (disch := omega) only [zL, zR, zC, stepOp, aval, opv, Ab.get, Ab.put, putO, Nat.reduceEqDiff, ↓reduceIte, D.val, D.cond, reduceCtorEq, aact, actT, IE.isCall, D.cells?, freezeL, freezeD, Option.map_none, Nat.reduceAdd, Nat.reduceLeDiff, Ob.slice?, headG, headD, hH]; rfl) (by first | with_reducible rfl | omega | (simp; done) | (simp; omega) | rfl) ?_
      refine osS (by simp only [zC, stepOp, aval, opv, Ab.get, Ab.put, putO, Nat.reduceEqDiff, ↓reduceIte, D.val, D.cond, reduceCtorEq]; rfl) rfl ?_
      refine osS (by simp only [zC, stepOp, aval, opv, Ab.get, Ab.put, putO, Nat.reduceEqDiff, ↓reduceIte, D.val, D.cond, reduceCtorEq]; rfl) rfl ?_
      refine osN ?_
      simp only [keep, memN, Nat.reduceEqDiff, if_true, if_false, ↓reduceIte, Option.getD_none, Option.getD_some, List.append_nil, List.cons_append, List.nil_append, Bool.false_eq_true]
      refine hK _ _ ?_
      clear hK K
      refine thenQ_normal ?_
      refine WI.ret ?_
      refine ⟨.inr rfl, ?_⟩
      -- leaf 2
      simp (disch := omega) only [zF, retD, resD, finD, plainD, freezeD, freezeL, aval, opv, Ab.get, Nat.reduceEqDiff, ↓reduceIte, D.val, D.cond, Nat.reduceAdd, Nat.reduceLeDiff, Ob.slice?, headG, headD, hH]
      refine ⟨_, _, rfl, ?_⟩
      simp only [mkR]
      obtain rfl := h0
      have h2 : ¬ s.length - k < n := by omega
      have h3 : ((k : Int) + (n : Int)).toNat = k + n := by omega
      simp [readD, readB, hH, h2, h3]
theorem readR_c (s : List UInt8) (hs : s.length ≤ 9223372036854775807) : PCalls Try.prog 19 [.x (.str s)] (readD s) := by
  have hk := headB_ok s
  obtain ⟨a, n, k, e, hH⟩ : ∃ a n k e, headB s = (a, n, k, e) := ⟨_, _, _, _, rfl⟩
  rw [hH] at hk
  simp only at hk
  refine FCalls.pure (fcallsG (fz := true) G_ok (p := i19) rfl _ (Nat.le_of_ble_eq_true rfl) _ (fun C0 E0 => ?_)) rfl
  dsimp only [i19, argsφ]
  refine WI.seq ?_
  refine WI.regA tabBer3R_ok [0, 2] (fun K hK => ?_)
  refine osS (by simp (disch := omega) only [zL, zC, stepOp, aval, opv, Ab.get, Ab.put, putO, Nat.reduceEqDiff, ↓reduceIte, D.val, D.cond, reduceCtorEq, aact, actT, IE.isCall, D.cells?, Nat.reduceAdd, Nat.reduceLeDiff, headRG, headD, hH]; rfl) rfl ?_
  refine osS (by simp only [zC, stepOp, aval, opv, Ab.get, Ab.put, putO, Nat.reduceEqDiff, ↓reduceIte, D.val, D.cond, reduceCtorEq]; rfl) rfl ?_
  refine osS (by simp only [zC, stepOp, aval, opv, Ab.get, Ab.put, putO, Nat.reduceEqDiff, ↓reduceIte, D.val, D.cond, reduceCtorEq]; rfl) rfl ?_
  refine osN ?_
  simp only [keep, memN, Nat.reduceEqDiff, if_true, if_false, ↓reduceIte, Option.getD_none, Option.getD_some, List.append_nil, List.cons_append, List.nil_append, Bool.false_eq_true]
  refine hK _ _ ?_
  clear hK K
  refine thenQ_normal ?_
  refine WI.seq ?_
  refine WI.regA tabBer3R_ok [0, 2, 5, 6, 7, 8] (fun K hK => ?_)
  refine osS (by simp only [zC, stepOp, aval, opv, Ab.get, Ab.put, putO, Nat.reduceEqDiff, ↓reduceIte, D.val, D.cond, reduceCtorEq]; rfl) rfl ?_
  refine osS (by simp (disch := omega) only [zS, viaNN, viaNNT, D.nn, addQ, addT, IE.isCall, Nat.reduceAdd, Nat.reduceSub, Nat.reduceMul, Nat.reduceLeDiff, Nat.reduceLT, Nat.reduceBEq, Int.reduceToNat, Int.reduceLE, Int.reduceLT, Int.reduceAdd, Int.reduceSub, Int.reduceMul, Int.reduceNeg, Int.reduceEq, Nat.reduceEqDiff, runOpsA, runDA, stepOp, aval, aact, opv, Ab.get, Ab.put, putO, keep, memN, D.val, D.cond, D.cells?, D.scalar, X.scalar, D.plain, D.isX, binD, bitsD, eqD, eqFs, eqX, unD, intOf?, lenD, okRef, rowsOf, viewD, viewX, freezeD, freezeL, partsD, buildD, slcStrD, slcSlD, Ob.slice?, ↓reduceIte, reduceCtorEq, evQ, evK, evC, evA, avalR, prefB, eqR, nzD, actT, callT1, callR1, callK1, valsL, condsL, optV, noTabs, IE.frame, memB, zeroO, IntWalk.i64_in, headRG, headD, hH, tabBer3R_r, tabBer3R_k, tabBer3R_q17]; rfl) (by first | with_reducible rfl | omega | (simp; done) | (simp; omega) | rfl) ?_
  refine osS (by simp only [zC, stepOp, aval, opv, Ab.get, Ab.put, putO, Nat.reduceEqDiff, ↓reduceIte, D.val, D.cond, reduceCtorEq]; rfl) rfl ?_
  refine osS (by simp (disch := omega) only [zL, zC, stepOp, aval, opv, Ab.get, Ab.put, putO, Nat.reduceEqDiff, ↓reduceIte, D.val, D.cond, reduceCtorEq, Nat.reduceAdd, Nat.reduceLeDiff, headRG, headD, hH]; rfl) rfl ?_
  refine osS (by simp (disch := omega) only [zL, zC, stepOp, aval, opv, Ab.get, Ab.put, putO, Nat.reduceEqDiff, ↓reduceIte, D.val, D.cond, reduceCtorEq, Nat.reduceAdd, Nat.reduceLeDiff, headRG, headD, hH]; rfl) rfl ?_
  refine osS (by simp (disch := omega) only [zL, zC, stepOp, aval, opv, Ab.get, Ab.put, putO, Nat.reduceEqDiff, ↓reduceIte, D.val, D.cond, reduceCtorEq, Nat.reduceAdd, Nat.reduceLeDiff, headRG, headD, hH]; rfl) rfl ?_
  refine osS (by simp (disch := omega) only [zL, zC, stepOp, aval, opv, Ab.get, Ab.put, putO, Nat.reduceEqDiff, ↓reduceIte, D.val, D.cond, reduceCtorEq, Nat.reduceAdd, Nat.reduceLeDiff, headRG, headD, hH]; rfl) rfl ?_
  refine osS (by simp only [zC, stepOp, aval, opv, Ab.get, Ab.put, putO, Nat.reduceEqDiff, ↓reduceIte, D.val, D.cond, reduceCtorEq]; rfl) rfl ?_
  refine osS (by simp only [zC, stepOp, aval, opv, Ab.get, Ab.put, putO, Nat.reduceEqDiff, ↓reduceIte, D.val, D.cond, reduceCtorEq]; rfl) rfl ?_
  refine osS (by simp only [zC, stepOp, aval, opv, Ab.get, Ab.put, putO, Nat.reduceEqDiff, ↓reduceIte, D.val, D.cond, reduceCtorEq]; rfl) rfl ?_
  refine osS (by simp only [zC, stepOp, aval, opv, Ab.get, Ab.put, putO, Nat.reduceEqDiff, ↓reduceIte, D.val, D.cond, reduceCtorEq]; rfl) rfl ?_
  refine osN ?_
  simp only [keep, memN, Nat.reduceEqDiff, if_true, if_false, ↓reduceIte, Option.getD_none, Option.getD_some, List.append_nil, List.cons_append, List.nil_append, Bool.false_eq_true]
  refine hK _ _ ?_
  clear hK K
  refine thenQ_normal ?_
  refine WI.seq ?_
  refine WI.block ?_
  refine WI.seq ?_
  refine WI.regA tabBer3R_ok [0, 2, 5, 6, 7, 8, 16] (fun K hK => ?_)
  refine osS (by simp only [zC, stepOp, aval, opv, Ab.get, Ab.put, putO, Nat.reduceEqDiff, ↓reduceIte, D.val, D.cond, reduceCtorEq]; rfl) rfl ?_
  refine osS (by simp (disch := omega) only [zG, zN, zC, stepOp, aval, opv, Ab.get, Ab.put, putO, Nat.reduceEqDiff, ↓reduceIte, D.val, D.cond, reduceCtorEq, binD, bitsD, Nat.reduceAdd, Nat.reduceSub, Nat.reduceMul, Nat.reduceLeDiff, Int.reduceToNat, Int.reduceLE, Int.reduceLT, Int.reduceAdd, Int.reduceSub, Int.reduceMul, Int.reduceNeg, Int.reduceEq, bne_self_eq_false, headRG, headD, hH]; rfl) (by first | with_reducible rfl | omega | (simp; done) | (simp; omega) | rfl) ?_
  refine osS (by simp only [zC, stepOp, aval, opv, Ab.get, Ab.put, putO, Nat.reduceEqDiff, ↓reduceIte, D.val, D.cond, reduceCtorEq]; rfl) rfl ?_
  refine osN ?_
  simp only [keep, memN, Nat.reduceEqDiff, if_true, if_false, ↓reduceIte, Option.getD_none, Option.getD_some, List.append_nil, List.cons_append, List.nil_append, Bool.false_eq_true]
  refine hK _ _ ?_
  clear hK K
  refine thenQ_normal ?_
  refine WI.cond (b := _) rfl rfl (fun h0 => ?_) (fun h0 => ?_)
  · try simp only [zB] at h0
    refine WI.seq ?_
    refine WI.regA tabBer3R_ok [2, 3, 4] (fun K hK => ?_)
    refine osS (by simp (disch := omega) only [zM, stepOp, aval, opv, Ab.get, Ab.put, putO, Nat.reduceEqDiff, ↓reduceIte, D.val, D.cond, reduceCtorEq, aact, actT, IE.isCall, D.cells?, Nat.reduceAdd, Nat.reduceLeDiff, Ob.slice?, Nat.reduceSub, Nat.reduceMul, Int.reduceToNat, Int.reduceLE, Int.reduceLT, Int.reduceAdd, Int.reduceSub, Int.reduceMul, Int.reduceNeg, Int.reduceEq, rowsOf, srcOf, okRef, intOf?, partsD, freezeL, freezeD, buildD, slcStrD, slcSlD, optV, zeroO, eqR, eqD, eqFs, eqX, nzD, binD, unD, lenD, evK, evC, Nat.reduceLT, headRG, headD, hH]; rfl) (by first | with_reducible rfl | omega | (simp; done) | (simp; omega) | rfl) ?_
    refine osS (by simp only [zC, stepOp, aval, opv, Ab.get, Ab.put, putO, Nat.reduceEqDiff, ↓reduceIte, D.val, D.cond, reduceCtorEq]; rfl) rfl ?_
    refine osS (by simp (disch := omega) only [zL, zR, zC, stepOp, aval, opv, Ab.get, Ab.put, putO, Nat.reduceEqDiff, ↓reduceIte, D.val, D.cond, reduceCtorEq, aact, actT, IE.isCall, D.cells?, freezeL, freezeD, Option.map_none, Nat.reduceAdd, Nat.reduceLeDiff, Ob.slice?, headRG, headD, hH]; rfl) (by first | with_reducible rfl | omega | (simp; done) | (simp; omega) | rfl) ?_
    refine osS (by simp only [zC, stepOp, aval, opv, Ab.get, Ab.put, putO, Nat.reduceEqDiff, ↓reduceIte, D.val, D.cond, reduceCtorEq]; rfl) rfl ?_
    refine osS (by simp only [zC, stepOp, aval, opv, Ab.get, Ab.put, putO, Nat.reduceEqDiff, ↓reduceIte, D.val, D.cond, reduceCtorEq]; rfl) rfl ?_
    refine osN ?_
    simp only [keep, memN, Nat.reduceEqDiff, if_true, if_false, ↓reduceIte, Option.getD_none, Option.getD_some, List.append_nil, List.cons_append, List.nil_append, Bool.false_eq_true]
    refine hK _ _ ?_
    clear hK K
    refine thenQ_normal ?_
    refine WI.ret ?_
    refine blockQ_ret ?_
    refine thenQ_ret ?_
    refine ⟨.inr rfl, ?_⟩
    -- leaf 0
    simp (disch := omega) only [zF, retD, resD, finD, plainD, freezeD, freezeL, aval, opv, Ab.get, Nat.reduceEqDiff, ↓reduceIte, D.val, D.cond, Nat.reduceAdd, Nat.reduceLeDiff, Ob.slice?, headRG, headD, hH]
    refine ⟨_, _, rfl, ?_⟩
    simp only [mkR]
    simp [readD, readB, hH, h0]
  · try simp only [zB] at h0
    refine WI.seq ?_
    refine WI.regA tabBer3R_ok [0, 2, 5, 6, 7, 21] (fun K hK => ?_)
    refine osS (by simp only [zC, stepOp, aval, opv, Ab.get, Ab.put, putO, Nat.reduceEqDiff, ↓reduceIte, D.val, D.cond, reduceCtorEq]; rfl) rfl ?_
    refine osS (by simp (disch := omega) only [zL, zR, zC, stepOp, aval, opv, Ab.get, Ab.put, putO, Nat.reduceEqDiff, ↓reduceIte, D.val, D.cond, reduceCtorEq, lenD, okRef, Nat.reduceAdd, Nat.reduceLeDiff, Ob.slice?, headRG, headD, hH]; rfl) (by first | with_reducible rfl | omega | (simp; done) | (simp; omega) | rfl) ?_
    refine osS (by simp only [zC, stepOp, aval, opv, Ab.get, Ab.put, putO, Nat.reduceEqDiff, ↓reduceIte, D.val, D.cond, reduceCtorEq]; rfl) rfl ?_
    refine osS (by simp (disch := omega) only [zG, zN, zC, stepOp, aval, opv, Ab.get, Ab.put, putO, Nat.reduceEqDiff, ↓reduceIte, D.val, D.cond, reduceCtorEq, binD, bitsD, Nat.reduceAdd, Nat.reduceSub, Nat.reduceMul, Nat.reduceLeDiff, Int.reduceToNat, Int.reduceLE, Int.reduceLT, Int.reduceAdd, Int.reduceSub, Int.reduceMul, Int.reduceNeg, Int.reduceEq, bne_self_eq_false, headRG, headD, hH]; rfl) (by first | with_reducible rfl | omega | (simp; done) | (simp; omega) | rfl) ?_
    refine osS (by simp only [zC, stepOp, aval, opv, Ab.get, Ab.put, putO, Nat.reduceEqDiff, ↓reduceIte, D.val, D.cond, reduceCtorEq]; rfl) rfl ?_
    refine osS (by simp (disch := omega) only [zG, zN, zC, stepOp, aval, opv, Ab.get, Ab.put, putO, Nat.reduceEqDiff, ↓reduceIte, D.val, D.cond, reduceCtorEq, binD, bitsD, Nat.reduceAdd, Nat.reduceSub, Nat.reduceMul, Nat.reduceLeDiff, Int.reduceToNat, Int.reduceLE, Int.reduceLT, Int.reduceAdd, Int.reduceSub, Int.reduceMul, Int.reduceNeg, Int.reduceEq, bne_self_eq_false, headRG, headD, hH]; rfl) (by first | with_reducible rfl | omega | (simp; done) | (simp; omega) | rfl) ?_
    refine osS (by simp only [zC, stepOp, aval, opv, Ab.get, Ab.put, putO, Nat.reduceEqDiff, ↓reduceIte, D.val, D.cond, reduceCtorEq]; rfl) rfl ?_
    refine osN ?_
    simp only [keep, memN, Nat.reduceEqDiff, if_true, if_false, ↓reduceIte, Option.getD_none, Option.getD_some, List.append_nil, List.cons_append, List.nil_append, Bool.false_eq_true]
    refine hK _ _ ?_
    clear hK K
    refine thenQ_normal ?_
    refine WI.cond (b := _) rfl rfl (fun h1 => ?_) (fun h1 => ?_)
    · try simp only [zB] at h1
      refine WI.seq ?_
      refine WI.regA tabBer3R_ok [2, 3, 4] (fun K hK => ?_)
      refine osS (by simp (disch := omega) only [zM, stepOp, aval, opv, Ab.get, Ab.put, putO, Nat.reduceEqDiff, ↓reduceIte, D.val, D.cond, reduceCtorEq, aact, actT, IE.isCall, D.cells?, Nat.reduceAdd, Nat.reduceLeDiff, Ob.slice?, Nat.reduceSub, Nat.reduceMul, Int.reduceToNat, Int.reduceLE, Int.reduceLT, Int.reduceAdd, Int.reduceSub, Int.reduceMul, Int.reduceNeg, Int.reduceEq, rowsOf, srcOf, okRef, intOf?, partsD, freezeL, freezeD, buildD, slcStrD, slcSlD, optV, zeroO, eqR, eqD, eqFs, eqX, nzD, binD, unD, lenD, evK, evC, Nat.reduceLT, headRG, headD, hH]; rfl) (by first | with_reducible rfl | omega | (simp; done) | (simp; omega) | rfl) ?_
      refine osS (by simp (disch := omega) only [zL, zR, zC, stepOp, aval, opv, Ab.get, Ab.put, putO, Nat.reduceEqDiff, ↓reduceIte, D.val, D.cond, reduceCtorEq, aact, actT, IE.isCall, D.cells?, freezeL, freezeD, Option.map_none, Nat.reduceAdd, Nat.reduceLeDiff, Ob.slice?, headRG, headD, hH]; rfl) (by first | with_reducible rfl | omega | (simp; done) | (simp; omega) | rfl) ?_
      refine osS (by simp only [zC, stepOp, aval, opv, Ab.get, Ab.put, putO, Nat.reduceEqDiff, ↓reduceIte, D.val, D.cond, reduceCtorEq]; rfl) rfl ?_
      refine osS (by simp only [zC, stepOp, aval, opv, Ab.get, Ab.put, putO, Nat.reduceEqDiff, ↓reduceIte, D.val, D.cond, reduceCtorEq]; rfl) rfl ?_
      refine osN ?_
      simp only [keep, memN, Nat.reduceEqDiff, if_true, if_false, ↓reduceIte, Option.getD_none, Option.getD_some, List.append_nil, List.cons_append, List.nil_append, Bool.false_eq_true]
      refine hK _ _ ?_
      clear hK K
      refine thenQ_normal ?_
      refine WI.ret ?_
      refine blockQ_ret ?_
      refine thenQ_ret ?_
      refine ⟨.inr rfl, ?_⟩
      -- leaf 1
      simp (disch := omega) only [zF, retD, resD, finD, plainD, freezeD, freezeL, aval, opv, Ab.get, Nat.reduceEqDiff, ↓reduceIte, D.val, D.cond, Nat.reduceAdd, Nat.reduceLeDiff, Ob.slice?, headRG, headD, hH]
      refine ⟨_, _, rfl, ?_⟩
      simp only [mkR]
      obtain rfl := h0
      have h2 : s.length - k < n := by have := hk rfl; omega
      simp [readD, readB, hH, h2]
    · try simp only [zB] at h1
      refine WI.skip ?_
      refine blockQ_normal ?_
      refine thenQ_normal ?_
      refine WI.seq ?_
      refine WI.regA tabBer3R_ok [2, 3, 4] (fun K hK => ?_)
      refine osS (by simp only [zC, stepOp, aval, opv, Ab.get, Ab.put, putO, Nat.reduceEqDiff, ↓reduceIte, D.val, D.cond, reduceCtorEq]; rfl) rfl ?_
      refine osS (by simp only [zC, stepOp, aval, opv, Ab.get, Ab.put, putO, Nat.reduceEqDiff, ↓reduceIte, D.val, D.cond, reduceCtorEq]; rfl) rfl ?_
      refine osS (by simp only [zC, stepOp, aval, opv, Ab.get, Ab.put, putO, Nat.reduceEqDiff, ↓reduceIte, D.val, D.cond, reduceCtorEq]; rfl) rfl ?_
      refine osS (by simp only [zC, stepOp, aval, opv, Ab.get, Ab.put, putO, Nat.reduceEqDiff, ↓reduceIte, D.val, D.cond, reduceCtorEq]; rfl) rfl ?_
      refine osS (by simp only [zC, stepOp, aval, opv, Ab.get, Ab.put, putO, Nat.reduceEqDiff, ↓reduceIte, D.val, D.cond, reduceCtorEq]; rfl) rfl ?_
      refine osS (by simp (disch := omega) only [zG, zN, zC, stepOp, aval, opv, Ab.get, Ab.put, putO, Nat.reduceEqDiff, ↓reduceIte, D.val, D.cond, reduceCtorEq, binD, bitsD, Nat.reduceAdd, Nat.reduceSub, Nat.reduceMul, Nat.reduceLeDiff, Int.reduceToNat, Int.reduceLE, Int.reduceLT, Int.reduceAdd, Int.reduceSub, Int.reduceMul, Int.reduceNeg, Int.reduceEq, bne_self_eq_false, headRG, headD, hH]; rfl) (by first | with_reducible rfl | omega | (simp; done) | (simp; omega) | rfl) ?_
      refine osS (by simp (disch := omega) only [zM, stepOp, aval, opv, Ab.get, Ab.put, putO, Nat.reduceEqDiff, ↓reduceIte, D.val, D.cond, reduceCtorEq, aact, actT, IE.isCall, D.cells?, Nat.reduceAdd, Nat.reduceLeDiff, Ob.slice?, Nat.reduceSub, Nat.reduceMul, Int.reduceToNat, Int.reduceLE, Int.reduceLT, Int.reduceAdd, Int.reduceSub, Int.reduceMul, Int.reduceNeg, Int.reduceEq, rowsOf, srcOf, okRef, intOf?, partsD, freezeL, freezeD, buildD, slcStrD, slcSlD, optV, zeroO, eqR, eqD, eqFs, eqX, nzD, binD, unD, lenD, evK, evC, Nat.reduceLT, headRG, headD, hH]; rfl) (by first | with_reducible rfl | omega | (simp; done) | (simp; omega) | rfl) ?_
      refine osS (by simp (disch := omega) only [zM, stepOp, aval, opv, Ab.get, Ab.put, putO, Nat.reduceEqDiff, ↓reduceIte, D.val, D.cond, reduceCtorEq, aact, actT, IE.isCall, D.cells?, Nat.reduceAdd, Nat.reduceLeDiff, Ob.slice?, Nat.reduceSub, Nat.reduceMul, Int.reduceToNat, Int.reduceLE, Int.reduceLT, Int.reduceAdd, Int.reduceSub, Int.reduceMul, Int.reduceNeg, Int.reduceEq, rowsOf, srcOf, okRef, intOf?, partsD, freezeL, freezeD, buildD, slcStrD, slcSlD, optV, zeroO, eqR, eqD, eqFs, eqX, nzD, binD, unD, lenD, evK, evC, Nat.reduceLT, headRG, headD, hH]; rfl) (by first | with_reducible rfl | omega | (simp; done) | (simp; omega) | rfl) ?_
      refine osS (by simp only [zC, stepOp, aval, opv, Ab.get, Ab.put, putO, Nat.reduceEqDiff, ↓reduceIte, D.val, D.cond, reduceCtorEq]; rfl) rfl ?_
      refine osS (by simp only [zC, stepOp, aval, opv, Ab.get, Ab.put, putO, Nat.reduceEqDiff, ↓reduceIte, D.val, D.cond, reduceCtorEq]; rfl) rfl ?_
      refine osS (by simp (disch := omega) only [zG, zN, zC, stepOp, aval, opv, Ab.get, Ab.put, putO, Nat.reduceEqDiff, ↓reduceIte, D.val, D.cond, reduceCtorEq, binD, bitsD, Nat.reduceAdd, Nat.reduceSub, Nat.reduceMul, Nat.reduceLeDiff, Int.reduceToNat, Int.reduceLE, Int.reduceLT, Int.reduceAdd, Int.reduceSub, Int.reduceMul, Int.reduceNeg, Int.reduceEq, bne_self_eq_false, headRG, headD, hH]; rfl) (by first | with_reducible rfl | omega | (simp; done) | (simp; omega) | rfl) ?_
      refine osS (by simp (disch := omega) only [zL, zR, zC, stepOp, aval, opv, Ab.get, Ab.put, putO, Nat.reduceEqDiff, ↓reduceIte, D.val, D.cond, reduceCtorEq, aact, actT, IE.isCall, D.cells?, freezeL, freezeD, Option.map_none, Nat.reduceAdd, Nat.reduceLeDiff, Ob.slice?, headRG, headD, hH]; rfl) (by first | with_reducible rfl | omega | (simp; done) | (simp; omega) | rfl) ?_
      refine osS (by simp only [zC, stepOp, aval, opv, Ab.get, Ab.put, putO, Nat.reduceEqDiff, ↓reduceIte, D.val, D.cond, reduceCtorEq]; rfl) rfl ?_
      refine osS (by simp only [zC, stepOp, aval, opv, Ab.get, Ab.put, putO, Nat.reduceEqDiff, ↓reduceIte, D.val, D.cond, reduceCtorEq]; rfl) rfl ?_
      refine osN ?_
      simp only [keep, memN, Nat.reduceEqDiff, if_true, if_false, ↓reduceIte, Option.getD_none, Option.getD_some, List.append_nil, List.cons_append, List.nil_append, Bool.false_eq_true]
      refine hK _ _ ?_
      clear hK K
      refine thenQ_normal ?_
      refine WI.ret ?_
      refine ⟨.inr rfl, ?_⟩
      -- leaf 2
      simp (disch := omega) only [zF, retD, resD, finD, plainD, freezeD, freezeL, aval, opv, Ab.get, Nat.reduceEqDiff, ↓reduceIte, D.val, D.cond, Nat.reduceAdd, Nat.reduceLeDiff, Ob.slice?, headRG, headD, hH]
      refine ⟨_, _, rfl, ?_⟩
      simp only [mkR]
      obtain rfl := h0
      have h2 : ¬ s.length - k < n := by omega
      have h3 : ((k : Int) + (n : Int)).toNat = k + n := by omega
      simp [readD, readB, hH, h2, h3]
def readG : List D → Option (Bool × D)
  | [.x (.str s)] => some (decide (s.length ≤ 9223372036854775807), readD s)
  | _ => none
theorem readG_ok : ∀ args r, readG args = some (true, r) → PCalls Try.prog 18 args r := by
  intro args r h
  unfold readG at h
  split at h
  · rename_i s
    simp only [Option.some.injEq, Prod.mk.injEq, Bool.and_eq_true, decide_eq_true_eq, true_and] at h
    obtain ⟨h1, rfl⟩ := h
    exact read_c s h1
  · cases h
def readRG : List D → Option (Bool × D)
  | [.x (.str s)] => some (decide (s.length ≤ 9223372036854775807), readD s)
  | _ => none
theorem readRG_ok : ∀ args r, readRG args = some (true, r) → PCalls Try.prog 19 args r := by
  intro args r h
  unfold readRG at h
  split at h
  · rename_i s
    simp only [Option.some.injEq, Prod.mk.injEq, Bool.and_eq_true, decide_eq_true_eq, true_and] at h
    obtain ⟨h1, rfl⟩ := h
    exact readR_c s h1
  · cases h
def tabBer4 : Tabs := addQ (noTabs) 18 readG
theorem tabBer4_ok : SsOk Try.prog tabBer4 := addQ_ok (noTabs_ok) (G_enters G_ok (p := i18) rfl) readG_ok
theorem tabBer4_q18 (a : List D) : tabBer4.q 18 a = readG a := rfl
theorem tabBer4_r (f : FuncId) (a : List D) (o : List Ob) : tabBer4.r f a o = none := rfl
theorem tabBer4_k (f : FuncId) (a : List D) (o : List Ob) : tabBer4.k f a o = none := rfl
def tabBer4R : Tabs := addQ (noTabs) 19 readRG
theorem tabBer4R_ok : SsOk Try.prog tabBer4R := addQ_ok (noTabs_ok) (G_enters G_ok (p := i19) rfl) readRG_ok
theorem tabBer4R_q19 (a : List D) : tabBer4R.q 19 a = readRG a := rfl
theorem tabBer4R_r (f : FuncId) (a : List D) (o : List Ob) : tabBer4R.r f a o = none := rfl
theorem tabBer4R_k (f : FuncId) (a : List D) (o : List Ob) : tabBer4R.k f a o = none := rfl

theorem un_tlv (l : List Tlv) : unrows rTlv (rows rTlv l) = some l := unrows_rows good_rTlv l
theorem rows_tlv (l : List Tlv) (x : Tlv) : rows rTlv l ++ [[X.int .i64 x.1, X.str x.2.1]] = rows rTlv (l ++ [x]) := rows_app rTlv l [x]
/-- All that stand one behind the other (k: no fewer than the bytes). -/
def allF : Nat → List UInt8 → List Tlv → List Tlv × Int
  | 0, _, out => (out, 0)
  | k + 1, s, out => if s = [] then (out, 0) else if (readB s).2.2 = 0 then if out.length = 1024 then ([], 3) else allF k (s.drop (readB s).2.1) (out ++ [(readB s).1]) else ([], (readB s).2.2)
def allB (s : List UInt8) : List Tlv × Int := allF s.length s []
theorem readB_ok (s : List UInt8) (h : (readB s).2.2 = 0) : 2 ≤ (readB s).2.1 ∧ (readB s).2.1 ≤ s.length := by
  unfold readB at h ⊢
  split at h
  · rename_i h0
    have hk := headB_ok s h0
    split at h
    · cases h
    · rename_i h1
      rw [if_pos h0, if_neg h1]
      simp only
      omega
  · rename_i h0
    exact absurd h h0
theorem allF_step (k : Nat) (s : List UInt8) (out : List Tlv) (hs : s ≠ []) (hk : s.length ≤ k) (h0 : (readB s).2.2 = 0) (h1 : out.length ≠ 1024) : allF k s out = allF (k - 1) (s.drop (readB s).2.1) (out ++ [(readB s).1]) := by
  cases k with
  | zero => cases s with
    | nil => exact absurd rfl hs
    | cons a b => simp at hk
  | succ k => simp [allF, hs, h0, h1]
theorem allF_err (k : Nat) (s : List UInt8) (out : List Tlv) (hs : s ≠ []) (hk : s.length ≤ k) (h0 : (readB s).2.2 ≠ 0) : allF k s out = ([], (readB s).2.2) := by
  cases k with
  | zero => cases s with
    | nil => exact absurd rfl hs
    | cons a b => simp at hk
  | succ k => simp [allF, hs, h0]
theorem allF_long (k : Nat) (s : List UInt8) (out : List Tlv) (hs : s ≠ []) (hk : s.length ≤ k) (h0 : (readB s).2.2 = 0) (h1 : out.length = 1024) : allF k s out = ([], 3) := by
  cases k with
  | zero => cases s with
    | nil => exact absurd rfl hs
    | cons a b => simp at hk
  | succ k => simp [allF, hs, h0, h1]
theorem allF_nil (k : Nat) (out : List Tlv) : allF k [] out = (out, 0) := by cases k <;> simp [allF]
theorem all_c (s : List UInt8) (hs : s.length ≤ 9223372036854775807) : PCalls Try.prog 20 [.x (.str s)] (.tup [.x (.sl (rows rTlv (allB s).1)), .x (.int .i64 (allB s).2)]) := by
  refine FCalls.pure (fcallsG (fz := true) G_ok (p := i20) rfl _ (Nat.le_of_ble_eq_true rfl) _ (fun C0 E0 => ?_)) rfl
  dsimp only [i20, argsφ]
  refine WI.seq ?_
  refine WI.regA tabBer4_ok [0] (fun K hK => ?_)
  refine osS (by simp only [zC, stepOp, aval, opv, Ab.get, Ab.put, putO, Nat.reduceEqDiff, ↓reduceIte, D.val, D.cond, reduceCtorEq]; rfl) rfl ?_
  refine osS (by simp only [zC, stepOp, aval, opv, Ab.get, Ab.put, putO, Nat.reduceEqDiff, ↓reduceIte, D.val, D.cond, reduceCtorEq]; rfl) rfl ?_
  refine osN ?_
  simp only [keep, memN, Nat.reduceEqDiff, if_true, if_false, ↓reduceIte, Option.getD_none, Option.getD_some, List.append_nil, List.cons_append, List.nil_append, Bool.false_eq_true]
  refine hK _ _ ?_
  clear hK K
  refine thenQ_normal ?_
  refine WI.seq ?_
  refine WI.regA tabBer4_ok [0, 4] (fun K hK => ?_)
  refine osS (by simp only [zC, stepOp, aval, opv, Ab.get, Ab.put, putO, Nat.reduceEqDiff, ↓reduceIte, D.val, D.cond, reduceCtorEq]; rfl) rfl ?_
  refine osN ?_
  simp only [keep, memN, Nat.reduceEqDiff, if_true, if_false, ↓reduceIte, Option.getD_none, Option.getD_some, List.append_nil, List.cons_append, List.nil_append, Bool.false_eq_true]
  refine hK _ _ ?_
  clear hK K
  refine thenQ_normal ?_
  refine WI.seq ?_
  refine WI.block ?_
  refine WI.own 4 34 2 rfl ?_
  simp only [put, Nat.reduceEqDiff, ↓reduceIte, List.length_nil, List.nil_append]
  refine WI.loop (fun φ os => ∃ (k : Nat) (q : List UInt8) (out : List Tlv), φ = [(0, .x (.str q)), (4, .ref 0 out.length 0 out.length)] ∧ os = [.rows false 34 2 (rows rTlv out)] ∧ q.length ≤ k ∧ q.length ≤ 9223372036854775807 ∧ out.length ≤ 1024 ∧ allF k q out = allB s) (strL 0) ?_ (fun φ os hI => ?_)
  · exact ⟨s.length, s, [], rfl, rfl, by omega, hs, by simp, rfl⟩
  · obtain ⟨k, q, out, rfl, rfl, hk, hq, ho, he⟩ := hI
    refine WI.seq ?_
    refine WI.seq ?_
    refine WI.regA tabBer4_ok [0, 4, 9] (fun K hK => ?_)
    refine osS (by simp only [zC, stepOp, aval, opv, Ab.get, Ab.put, putO, Nat.reduceEqDiff, ↓reduceIte, D.val, D.cond, reduceCtorEq]; rfl) rfl ?_
    refine osS (by simp (disch := omega) only [zG, zN, zC, stepOp, aval, opv, Ab.get, Ab.put, putO, Nat.reduceEqDiff, ↓reduceIte, D.val, D.cond, reduceCtorEq, binD, bitsD, Nat.reduceAdd, Nat.reduceSub, Nat.reduceMul, Nat.reduceLeDiff, Int.reduceToNat, Int.reduceLE, Int.reduceLT, Int.reduceAdd, Int.reduceSub, Int.reduceMul, Int.reduceNeg, Int.reduceEq, bne_self_eq_false, readG, readD]; rfl) (by first | with_reducible rfl | omega | (simp; done) | (simp; omega) | rfl) ?_
    refine osN ?_
    simp only [keep, memN, Nat.reduceEqDiff, if_true, if_false, ↓reduceIte, Option.getD_none, Option.getD_some, List.append_nil, List.cons_append, List.nil_append, Bool.false_eq_true]
    refine hK _ _ ?_
    clear hK K
    refine thenQ_normal ?_
    refine WI.cond (b := _) rfl rfl (fun h0 => ?_) (fun h0 => ?_)
    · try simp only [zB] at h0
      refine WI.skip ?_
      refine thenQ_normal ?_
      refine WI.block ?_
      refine WI.seq ?_
      refine WI.regA tabBer4_ok [0, 4, 5, 6, 7] (fun K hK => ?_)
      refine osS (by simp only [zC, stepOp, aval, opv, Ab.get, Ab.put, putO, Nat.reduceEqDiff, ↓reduceIte, D.val, D.cond, reduceCtorEq]; rfl) rfl ?_
      refine osS (by simp (disch := omega) only [zS, viaNN, viaNNT, D.nn, addQ, addT, IE.isCall, Nat.reduceAdd, Nat.reduceSub, Nat.reduceMul, Nat.reduceLeDiff, Nat.reduceLT, Nat.reduceBEq, Int.reduceToNat, Int.reduceLE, Int.reduceLT, Int.reduceAdd, Int.reduceSub, Int.reduceMul, Int.reduceNeg, Int.reduceEq, Nat.reduceEqDiff, runOpsA, runDA, stepOp, aval, aact, opv, Ab.get, Ab.put, putO, keep, memN, D.val, D.cond, D.cells?, D.scalar, X.scalar, D.plain, D.isX, binD, bitsD, eqD, eqFs, eqX, unD, intOf?, lenD, okRef, rowsOf, viewD, viewX, freezeD, freezeL, partsD, buildD, slcStrD, slcSlD, Ob.slice?, ↓reduceIte, reduceCtorEq, evQ, evK, evC, evA, avalR, prefB, eqR, nzD, actT, callT1, callR1, callK1, valsL, condsL, optV, noTabs, IE.frame, memB, zeroO, IntWalk.i64_in, readG, readD, tabBer4_r, tabBer4_k, tabBer4_q18]; rfl) (by first | with_reducible rfl | omega | (simp; done) | (simp; omega) | rfl) ?_
      refine osS (by simp only [zC, stepOp, aval, opv, Ab.get, Ab.put, putO, Nat.reduceEqDiff, ↓reduceIte, D.val, D.cond, reduceCtorEq]; rfl) rfl ?_
      refine osS (by simp (disch := omega) only [zL, zC, stepOp, aval, opv, Ab.get, Ab.put, putO, Nat.reduceEqDiff, ↓reduceIte, D.val, D.cond, reduceCtorEq, Nat.reduceAdd, Nat.reduceLeDiff, readG, readD]; rfl) rfl ?_
      refine osS (by simp (disch := omega) only [zL, zC, stepOp, aval, opv, Ab.get, Ab.put, putO, Nat.reduceEqDiff, ↓reduceIte, D.val, D.cond, reduceCtorEq, Nat.reduceAdd, Nat.reduceLeDiff, readG, readD]; rfl) rfl ?_
      refine osS (by simp (disch := omega) only [zL, zC, stepOp, aval, opv, Ab.get, Ab.put, putO, Nat.reduceEqDiff, ↓reduceIte, D.val, D.cond, reduceCtorEq, Nat.reduceAdd, Nat.reduceLeDiff, readG, readD]; rfl) rfl ?_
      refine osS (by simp (disch := omega) only [zL, zC, stepOp, aval, opv, Ab.get, Ab.put, putO, Nat.reduceEqDiff, ↓reduceIte, D.val, D.cond, reduceCtorEq, aact, actT, IE.isCall, D.cells?, Nat.reduceAdd, Nat.reduceLeDiff, readG, readD]; rfl) rfl ?_
      refine osS (by simp (disch := omega) only [zL, zR, zC, stepOp, aval, opv, Ab.get, Ab.put, putO, Nat.reduceEqDiff, ↓reduceIte, D.val, D.cond, reduceCtorEq, aact, actT, IE.isCall, D.cells?, freezeL, freezeD, Option.map_none, Nat.reduceAdd, Nat.reduceLeDiff, Ob.slice?, readG, readD]; rfl) (by first | with_reducible rfl | omega | (simp; done) | (simp; omega) | rfl) ?_
      refine osS (by simp only [zC, stepOp, aval, opv, Ab.get, Ab.put, putO, Nat.reduceEqDiff, ↓reduceIte, D.val, D.cond, reduceCtorEq]; rfl) rfl ?_
      refine osS (by simp only [zC, stepOp, aval, opv, Ab.get, Ab.put, putO, Nat.reduceEqDiff, ↓reduceIte, D.val, D.cond, reduceCtorEq]; rfl) rfl ?_
      refine osN ?_
      simp only [keep, memN, Nat.reduceEqDiff, if_true, if_false, ↓reduceIte, Option.getD_none, Option.getD_some, List.append_nil, List.cons_append, List.nil_append, Bool.false_eq_true]
      refine hK _ _ ?_
      clear hK K
      refine thenQ_normal ?_
      refine WI.seq ?_
      refine WI.block ?_
      refine WI.seq ?_
      refine WI.regA tabBer4_ok [0, 4, 5, 6, 7, 16] (fun K hK => ?_)
      refine osS (by simp only [zC, stepOp, aval, opv, Ab.get, Ab.put, putO, Nat.reduceEqDiff, ↓reduceIte, D.val, D.cond, reduceCtorEq]; rfl) rfl ?_
      refine osS (by simp (disch := omega) only [zG, zN, zC, stepOp, aval, opv, Ab.get, Ab.put, putO, Nat.reduceEqDiff, ↓reduceIte, D.val, D.cond, reduceCtorEq, binD, bitsD, Nat.reduceAdd, Nat.reduceSub, Nat.reduceMul, Nat.reduceLeDiff, Int.reduceToNat, Int.reduceLE, Int.reduceLT, Int.reduceAdd, Int.reduceSub, Int.reduceMul, Int.reduceNeg, Int.reduceEq, bne_self_eq_false, readG, readD]; rfl) (by first | with_reducible rfl | omega | (simp; done) | (simp; omega) | rfl) ?_
      refine osS (by simp only [zC, stepOp, aval, opv, Ab.get, Ab.put, putO, Nat.reduceEqDiff, ↓reduceIte, D.val, D.cond, reduceCtorEq]; rfl) rfl ?_
      refine osN ?_
      simp only [keep, memN, Nat.reduceEqDiff, if_true, if_false, ↓reduceIte, Option.getD_none, Option.getD_some, List.append_nil, List.cons_append, List.nil_append, Bool.false_eq_true]
      refine hK _ _ ?_
      clear hK K
      refine thenQ_normal ?_
      refine WI.cond (b := _) rfl rfl (fun h1 => ?_) (fun h1 => ?_)
      · try simp only [zB] at h1
        refine WI.seq ?_
        refine WI.regA tabBer4_ok [2, 3] (fun K hK => ?_)
        refine osS (by simp only [zC, stepOp, aval, opv, Ab.get, Ab.put, putO, Nat.reduceEqDiff, ↓reduceIte, D.val, D.cond, reduceCtorEq]; rfl) rfl ?_
        refine osS (by simp only [zC, stepOp, aval, opv, Ab.get, Ab.put, putO, Nat.reduceEqDiff, ↓reduceIte, D.val, D.cond, reduceCtorEq]; rfl) rfl ?_
        refine osS (by simp only [zC, stepOp, aval, opv, Ab.get, Ab.put, putO, Nat.reduceEqDiff, ↓reduceIte, D.val, D.cond, reduceCtorEq]; rfl) rfl ?_
        refine osN ?_
        simp only [keep, memN, Nat.reduceEqDiff, if_true, if_false, ↓reduceIte, Option.getD_none, Option.getD_some, List.append_nil, List.cons_append, List.nil_append, Bool.false_eq_true]
        refine hK _ _ ?_
        clear hK K
        refine thenQ_normal ?_
        refine WI.nn ?_
        simp only [zV, frzL, nrmφ, nrmO, onF, D.vw, vwL, D.on, D.inP, inL, memB, D.ren, renL, inv, fpO, Ob.mp, Ob.ren, D.nn, nnφ, Nat.reduceBEq, Nat.reduceEqDiff, Nat.reduceAdd, ↓reduceIte]
        refine WI.ret ?_
        refine blockQ_ret ?_
        refine thenQ_ret ?_
        refine blockQ_ret ?_
        refine thenQ_ret ?_
        refine blockQ_ret ?_
        refine thenQ_ret ?_
        refine ⟨.inr rfl, ?_⟩
        -- leaf 0
        simp (disch := omega) only [zF, retD, resD, finD, plainD, freezeD, freezeL, aval, opv, Ab.get, Nat.reduceEqDiff, ↓reduceIte, D.val, D.cond, Nat.reduceAdd, Nat.reduceLeDiff, Ob.slice?, readG, readD]
        refine ⟨_, _, rfl, ?_⟩
        simp only [mkR]
        rw [← he, allF_err k q out h0 hk h1]; rfl
      · try simp only [zB] at h1
        refine WI.seq ?_
        refine WI.regA tabBer4_ok [0, 4, 5, 6, 20] (fun K hK => ?_)
        refine osS (by simp only [zC, stepOp, aval, opv, Ab.get, Ab.put, putO, Nat.reduceEqDiff, ↓reduceIte, D.val, D.cond, reduceCtorEq]; rfl) rfl ?_
        refine osS (by simp (disch := omega) only [zL, zR, zC, stepOp, aval, opv, Ab.get, Ab.put, putO, Nat.reduceEqDiff, ↓reduceIte, D.val, D.cond, reduceCtorEq, lenD, okRef, Nat.reduceAdd, Nat.reduceLeDiff, Ob.slice?, readG, readD]; rfl) (by first | with_reducible rfl | omega | (simp; done) | (simp; omega) | rfl) ?_
        refine osS (by simp (disch := omega) only [zG, zN, zC, stepOp, aval, opv, Ab.get, Ab.put, putO, Nat.reduceEqDiff, ↓reduceIte, D.val, D.cond, reduceCtorEq, binD, bitsD, Nat.reduceAdd, Nat.reduceSub, Nat.reduceMul, Nat.reduceLeDiff, Int.reduceToNat, Int.reduceLE, Int.reduceLT, Int.reduceAdd, Int.reduceSub, Int.reduceMul, Int.reduceNeg, Int.reduceEq, bne_self_eq_false, readG, readD]; rfl) (by first | with_reducible rfl | omega | (simp; done) | (simp; omega) | rfl) ?_
        refine osS (by simp only [zC, stepOp, aval, opv, Ab.get, Ab.put, putO, Nat.reduceEqDiff, ↓reduceIte, D.val, D.cond, reduceCtorEq]; rfl) rfl ?_
        refine osN ?_
        simp only [keep, memN, Nat.reduceEqDiff, if_true, if_false, ↓reduceIte, Option.getD_none, Option.getD_some, List.append_nil, List.cons_append, List.nil_append, Bool.false_eq_true]
        refine hK _ _ ?_
        clear hK K
        refine thenQ_normal ?_
        refine WI.cond (b := _) rfl rfl (fun h2 => ?_) (fun h2 => ?_)
        · try simp only [zB] at h2
          refine WI.seq ?_
          refine WI.regA tabBer4_ok [2, 3] (fun K hK => ?_)
          refine osS (by simp only [zC, stepOp, aval, opv, Ab.get, Ab.put, putO, Nat.reduceEqDiff, ↓reduceIte, D.val, D.cond, reduceCtorEq]; rfl) rfl ?_
          refine osS (by simp only [zC, stepOp, aval, opv, Ab.get, Ab.put, putO, Nat.reduceEqDiff, ↓reduceIte, D.val, D.cond, reduceCtorEq]; rfl) rfl ?_
          refine osN ?_
          simp only [keep, memN, Nat.reduceEqDiff, if_true, if_false, ↓reduceIte, Option.getD_none, Option.getD_some, List.append_nil, List.cons_append, List.nil_append, Bool.false_eq_true]
          refine hK _ _ ?_
          clear hK K
          refine thenQ_normal ?_
          refine WI.nn ?_
          simp only [zV, frzL, nrmφ, nrmO, onF, D.vw, vwL, D.on, D.inP, inL, memB, D.ren, renL, inv, fpO, Ob.mp, Ob.ren, D.nn, nnφ, Nat.reduceBEq, Nat.reduceEqDiff, Nat.reduceAdd, ↓reduceIte]
          refine WI.ret ?_
          refine blockQ_ret ?_
          refine thenQ_ret ?_
          refine blockQ_ret ?_
          refine thenQ_ret ?_
          refine blockQ_ret ?_
          refine thenQ_ret ?_
          refine ⟨.inr rfl, ?_⟩
          -- leaf 1
          simp (disch := omega) only [zF, retD, resD, finD, plainD, freezeD, freezeL, aval, opv, Ab.get, Nat.reduceEqDiff, ↓reduceIte, D.val, D.cond, Nat.reduceAdd, Nat.reduceLeDiff, Ob.slice?, readG, readD]
          refine ⟨_, _, rfl, ?_⟩
          simp only [mkR]
          rw [← he, allF_long k q out h0 hk h1 (by omega)]; rfl
        · try simp only [zB] at h2
          refine WI.skip ?_
          refine blockQ_normal ?_
          refine thenQ_normal ?_
          refine WI.seq ?_
          refine WI.regA tabBer4_ok [0, 4, 6] (fun K hK => ?_)
          refine osS (by simp only [zC, stepOp, aval, opv, Ab.get, Ab.put, putO, Nat.reduceEqDiff, ↓reduceIte, D.val, D.cond, reduceCtorEq]; rfl) rfl ?_
          refine osS (by simp (disch := omega) only [zL, zR, zC, stepOp, aval, opv, Ab.get, Ab.put, putO, Nat.reduceEqDiff, ↓reduceIte, D.val, D.cond, reduceCtorEq, Nat.reduceAdd, Nat.reduceLeDiff, Ob.slice?, readG, readD]; rfl) (by first | with_reducible rfl | omega | (simp; done) | (simp; omega) | rfl) ?_
          refine osS (by simp (disch := omega) only [zM, stepOp, aval, opv, Ab.get, Ab.put, putO, Nat.reduceEqDiff, ↓reduceIte, D.val, D.cond, reduceCtorEq, aact, actT, IE.isCall, D.cells?, Nat.reduceAdd, Nat.reduceLeDiff, Ob.slice?, Nat.reduceSub, Nat.reduceMul, Int.reduceToNat, Int.reduceLE, Int.reduceLT, Int.reduceAdd, Int.reduceSub, Int.reduceMul, Int.reduceNeg, Int.reduceEq, rowsOf, srcOf, okRef, intOf?, partsD, freezeL, freezeD, buildD, slcStrD, slcSlD, optV, zeroO, eqR, eqD, eqFs, eqX, nzD, binD, unD, lenD, evK, evC, Nat.reduceLT, readG, readD]; rfl) (by first | with_reducible rfl | omega | (simp; done) | (simp; omega) | rfl) ?_
          refine osS (by simp (disch := omega) only [zM, stepOp, aval, opv, Ab.get, Ab.put, putO, Nat.reduceEqDiff, ↓reduceIte, D.val, D.cond, reduceCtorEq, aact, actT, IE.isCall, D.cells?, Nat.reduceAdd, Nat.reduceLeDiff, Ob.slice?, Nat.reduceSub, Nat.reduceMul, Int.reduceToNat, Int.reduceLE, Int.reduceLT, Int.reduceAdd, Int.reduceSub, Int.reduceMul, Int.reduceNeg, Int.reduceEq, rowsOf, srcOf, okRef, intOf?, partsD, freezeL, freezeD, buildD, slcStrD, slcSlD, optV, zeroO, eqR, eqD, eqFs, eqX, nzD, binD, unD, lenD, evK, evC, Nat.reduceLT, readG, readD]; rfl) (by first | with_reducible rfl | omega | (simp; done) | (simp; omega) | rfl) ?_
          refine osS (by simp only [zC, stepOp, aval, opv, Ab.get, Ab.put, putO, Nat.reduceEqDiff, ↓reduceIte, D.val, D.cond, reduceCtorEq]; rfl) rfl ?_
          refine osN ?_
          simp only [keep, memN, Nat.reduceEqDiff, if_true, if_false, ↓reduceIte, Option.getD_none, Option.getD_some, List.append_nil, List.cons_append, List.nil_append, Bool.false_eq_true]
          refine hK _ _ ?_
          clear hK K
          refine thenQ_normal ?_
          have hr := readB_ok q h1
          refine WI.pick [0] rfl ?_
          simp (disch := decide) only [zV, frzL, nrmφ, nrmO, onF, D.vw, vwL, D.on, D.inP, inL, memB, D.ren, renL, inv, fpO, Ob.mp, Ob.ren, D.nn, nnφ, Nat.reduceBEq, Nat.reduceEqDiff, Nat.reduceAdd, ↓reduceIte]
          refine WI.regA tabBer4_ok [0, 4] (fun K hK => ?_)
          refine osS (by simp only [zC, stepOp, aval, opv, Ab.get, Ab.put, putO, Nat.reduceEqDiff, ↓reduceIte, D.val, D.cond, reduceCtorEq]; rfl) rfl ?_
          refine osS (by simp only [zC, stepOp, aval, opv, Ab.get, Ab.put, putO, Nat.reduceEqDiff, ↓reduceIte, D.val, D.cond, reduceCtorEq]; rfl) rfl ?_
          refine osS (by simp (disch := omega) only [zM, stepOp, aval, opv, Ab.get, Ab.put, putO, Nat.reduceEqDiff, ↓reduceIte, D.val, D.cond, reduceCtorEq, aact, actT, IE.isCall, D.cells?, Nat.reduceAdd, Nat.reduceLeDiff, Ob.slice?, Nat.reduceSub, Nat.reduceMul, Int.reduceToNat, Int.reduceLE, Int.reduceLT, Int.reduceAdd, Int.reduceSub, Int.reduceMul, Int.reduceNeg, Int.reduceEq, rowsOf, srcOf, okRef, intOf?, partsD, freezeL, freezeD, buildD, slcStrD, slcSlD, optV, zeroO, eqR, eqD, eqFs, eqX, nzD, binD, unD, lenD, evK, evC, Nat.reduceLT, readG, readD]; rfl) (by first | with_reducible rfl | omega | (simp; done) | (simp; omega) | rfl) ?_
          refine osS (by simp only [zC, stepOp, aval, opv, Ab.get, Ab.put, putO, Nat.reduceEqDiff, ↓reduceIte, D.val, D.cond, reduceCtorEq]; rfl) rfl ?_
          refine osN ?_
          simp only [keep, memN, Nat.reduceEqDiff, if_true, if_false, ↓reduceIte, Option.getD_none, Option.getD_some, List.append_nil, List.cons_append, List.nil_append, Bool.false_eq_true]
          refine hK _ _ ?_
          clear hK K
          refine blockQ_normal ?_
          refine thenQ_normal ?_
          exact ⟨⟨k - 1, q.drop (readB q).2.1, out ++ [(readB q).1], by simp, by rw [← rows_tlv], by rw [List.length_drop]; omega, by rw [List.length_drop]; omega, by simp; omega, by rw [← he, allF_step k q out h0 hk h1 (by omega)]⟩, by simp [strL, Ab.get, D.val]; have := List.length_pos_iff.2 h0; omega⟩
    · try simp only [zB] at h0
      refine WI.exit ?_
      refine thenQ_exit ?_
      refine thenQ_exit ?_
      refine blockQ_hit ?_
      refine thenQ_normal ?_
      refine WI.seq ?_
      refine WI.regA tabBer4_ok [2, 3] (fun K hK => ?_)
      refine osS (by simp only [zC, stepOp, aval, opv, Ab.get, Ab.put, putO, Nat.reduceEqDiff, ↓reduceIte, D.val, D.cond, reduceCtorEq]; rfl) rfl ?_
      refine osS (by simp only [zC, stepOp, aval, opv, Ab.get, Ab.put, putO, Nat.reduceEqDiff, ↓reduceIte, D.val, D.cond, reduceCtorEq]; rfl) rfl ?_
      refine osS (by simp only [zC, stepOp, aval, opv, Ab.get, Ab.put, putO, Nat.reduceEqDiff, ↓reduceIte, D.val, D.cond, reduceCtorEq]; rfl) rfl ?_
      refine osN ?_
      simp only [keep, memN, Nat.reduceEqDiff, if_true, if_false, ↓reduceIte, Option.getD_none, Option.getD_some, List.append_nil, List.cons_append, List.nil_append, Bool.false_eq_true]
      refine hK _ _ ?_
      clear hK K
      refine thenQ_normal ?_
      refine WI.ret ?_
      refine ⟨.inr rfl, ?_⟩
      -- leaf 2
      simp (disch := omega) only [zF, retD, resD, finD, plainD, freezeD, freezeL, aval, opv, Ab.get, Nat.reduceEqDiff, ↓reduceIte, D.val, D.cond, Nat.reduceAdd, Nat.reduceLeDiff, Ob.slice?, readG, readD]
      refine ⟨_, _, rfl, ?_⟩
      simp only [mkR]
      subst h0; rw [← he, allF_nil]
theorem allR_c (s : List UInt8) (hs : s.length ≤ 9223372036854775807) : PCalls Try.prog 21 [.x (.str s)] (.tup [.x (.sl (rows rTlv (allB s).1)), .x (.int .i64 (allB s).2)]) := by
  refine FCalls.pure (fcallsG (fz := true) G_ok (p := i21) rfl _ (Nat.le_of_ble_eq_true rfl) _ (fun C0 E0 => ?_)) rfl
  dsimp only [i21, argsφ]
  refine WI.seq ?_
  refine WI.regA tabBer4R_ok [0] (fun K hK => ?_)
  refine osS (by simp only [zC, stepOp, aval, opv, Ab.get, Ab.put, putO, Nat.reduceEqDiff, ↓reduceIte, D.val, D.cond, reduceCtorEq]; rfl) rfl ?_
  refine osS (by simp only [zC, stepOp, aval, opv, Ab.get, Ab.put, putO, Nat.reduceEqDiff, ↓reduceIte, D.val, D.cond, reduceCtorEq]; rfl) rfl ?_
  refine osN ?_
  simp only [keep, memN, Nat.reduceEqDiff, if_true, if_false, ↓reduceIte, Option.getD_none, Option.getD_some, List.append_nil, List.cons_append, List.nil_append, Bool.false_eq_true]
  refine hK _ _ ?_
  clear hK K
  refine thenQ_normal ?_
  refine WI.seq ?_
  refine WI.regA tabBer4R_ok [0, 4] (fun K hK => ?_)
  refine osS (by simp only [zC, stepOp, aval, opv, Ab.get, Ab.put, putO, Nat.reduceEqDiff, ↓reduceIte, D.val, D.cond, reduceCtorEq]; rfl) rfl ?_
  refine osN ?_
  simp only [keep, memN, Nat.reduceEqDiff, if_true, if_false, ↓reduceIte, Option.getD_none, Option.getD_some, List.append_nil, List.cons_append, List.nil_append, Bool.false_eq_true]
  refine hK _ _ ?_
  clear hK K
  refine thenQ_normal ?_
  refine WI.seq ?_
  refine WI.block ?_
  refine WI.own 4 34 2 rfl ?_
  simp only [put, Nat.reduceEqDiff, ↓reduceIte, List.length_nil, List.nil_append]
  refine WI.loop (fun φ os => ∃ (k : Nat) (q : List UInt8) (out : List Tlv), φ = [(0, .x (.str q)), (4, .ref 0 out.length 0 out.length)] ∧ os = [.rows false 34 2 (rows rTlv out)] ∧ q.length ≤ k ∧ q.length ≤ 9223372036854775807 ∧ out.length ≤ 1024 ∧ allF k q out = allB s) (strL 0) ?_ (fun φ os hI => ?_)
  · exact ⟨s.length, s, [], rfl, rfl, by omega, hs, by simp, rfl⟩
  · obtain ⟨k, q, out, rfl, rfl, hk, hq, ho, he⟩ := hI
    refine WI.seq ?_
    refine WI.seq ?_
    refine WI.regA tabBer4R_ok [0, 4, 9] (fun K hK => ?_)
    refine osS (by simp only [zC, stepOp, aval, opv, Ab.get, Ab.put, putO, Nat.reduceEqDiff, ↓reduceIte, D.val, D.cond, reduceCtorEq]; rfl) rfl ?_
    refine osS (by simp (disch := omega) only [zG, zN, zC, stepOp, aval, opv, Ab.get, Ab.put, putO, Nat.reduceEqDiff, ↓reduceIte, D.val, D.cond, reduceCtorEq, binD, bitsD, Nat.reduceAdd, Nat.reduceSub, Nat.reduceMul, Nat.reduceLeDiff, Int.reduceToNat, Int.reduceLE, Int.reduceLT, Int.reduceAdd, Int.reduceSub, Int.reduceMul, Int.reduceNeg, Int.reduceEq, bne_self_eq_false, readRG, readD]; rfl) (by first | with_reducible rfl | omega | (simp; done) | (simp; omega) | rfl) ?_
    refine osN ?_
    simp only [keep, memN, Nat.reduceEqDiff, if_true, if_false, ↓reduceIte, Option.getD_none, Option.getD_some, List.append_nil, List.cons_append, List.nil_append, Bool.false_eq_true]
    refine hK _ _ ?_
    clear hK K
    refine thenQ_normal ?_
    refine WI.cond (b := _) rfl rfl (fun h0 => ?_) (fun h0 => ?_)
    · try simp only [zB] at h0
      refine WI.skip ?_
      refine thenQ_normal ?_
      refine WI.block ?_
      refine WI.seq ?_
      refine WI.regA tabBer4R_ok [0, 4, 5, 6, 7] (fun K hK => ?_)
      refine osS (by simp only [zC, stepOp, aval, opv, Ab.get, Ab.put, putO, Nat.reduceEqDiff, ↓reduceIte, D.val, D.cond, reduceCtorEq]; rfl) rfl ?_
      refine osS (by simp (disch := omega) only [zS, viaNN, viaNNT, D.nn, addQ, addT, IE.isCall, Nat.reduceAdd, Nat.reduceSub, Nat.reduceMul, Nat.reduceLeDiff, Nat.reduceLT, Nat.reduceBEq, Int.reduceToNat, Int.reduceLE, Int.reduceLT, Int.reduceAdd, Int.reduceSub, Int.reduceMul, Int.reduceNeg, Int.reduceEq, Nat.reduceEqDiff, runOpsA, runDA, stepOp, aval, aact, opv, Ab.get, Ab.put, putO, keep, memN, D.val, D.cond, D.cells?, D.scalar, X.scalar, D.plain, D.isX, binD, bitsD, eqD, eqFs, eqX, unD, intOf?, lenD, okRef, rowsOf, viewD, viewX, freezeD, freezeL, partsD, buildD, slcStrD, slcSlD, Ob.slice?, ↓reduceIte, reduceCtorEq, evQ, evK, evC, evA, avalR, prefB, eqR, nzD, actT, callT1, callR1, callK1, valsL, condsL, optV, noTabs, IE.frame, memB, zeroO, IntWalk.i64_in, readRG, readD, tabBer4R_r, tabBer4R_k, tabBer4R_q19]; rfl) (by first | with_reducible rfl | omega | (simp; done) | (simp; omega) | rfl) ?_
      refine osS (by simp only [zC, stepOp, aval, opv, Ab.get, Ab.put, putO, Nat.reduceEqDiff, ↓reduceIte, D.val, D.cond, reduceCtorEq]; rfl) rfl ?_
      refine osS (by simp (disch := omega) only [zL, zC, stepOp, aval, opv, Ab.get, Ab.put, putO, Nat.reduceEqDiff, ↓reduceIte, D.val, D.cond, reduceCtorEq, Nat.reduceAdd, Nat.reduceLeDiff, readRG, readD]; rfl) rfl ?_
      refine osS (by simp (disch := omega) only [zL, zC, stepOp, aval, opv, Ab.get, Ab.put, putO, Nat.reduceEqDiff, ↓reduceIte, D.val, D.cond, reduceCtorEq, Nat.reduceAdd, Nat.reduceLeDiff, readRG, readD]; rfl) rfl ?_
      refine osS (by simp (disch := omega) only [zL, zC, stepOp, aval, opv, Ab.get, Ab.put, putO, Nat.reduceEqDiff, ↓reduceIte, D.val, D.cond, reduceCtorEq, Nat.reduceAdd, Nat.reduceLeDiff, readRG, readD]; rfl) rfl ?_
      refine osS (by simp (disch := omega) only [zL, zC, stepOp, aval, opv, Ab.get, Ab.put, putO, Nat.reduceEqDiff, ↓reduceIte, D.val, D.cond, reduceCtorEq, aact, actT, IE.isCall, D.cells?, Nat.reduceAdd, Nat.reduceLeDiff, readRG, readD]; rfl) rfl ?_
      refine osS (by simp (disch := omega) only [zL, zR, zC, stepOp, aval, opv, Ab.get, Ab.put, putO, Nat.reduceEqDiff, ↓reduceIte, D.val, D.cond, reduceCtorEq, aact, actT, IE.isCall, D.cells?, freezeL, freezeD, Option.map_none, Nat.reduceAdd, Nat.reduceLeDiff, Ob.slice?, readRG, readD]; rfl) (by first | with_reducible rfl | omega | (simp; done) | (simp; omega) | rfl) ?_
      refine osS (by simp only [zC, stepOp, aval, opv, Ab.get, Ab.put, putO, Nat.reduceEqDiff, ↓reduceIte, D.val, D.cond, reduceCtorEq]; rfl) rfl ?_
      refine osS (by simp only [zC, stepOp, aval, opv, Ab.get, Ab.put, putO, Nat.reduceEqDiff, ↓reduceIte, D.val, D.cond, reduceCtorEq]; rfl) rfl ?_
      refine osN ?_
      simp only [keep, memN, Nat.reduceEqDiff, if_true, if_false, ↓reduceIte, Option.getD_none, Option.getD_some, List.append_nil, List.cons_append, List.nil_append, Bool.false_eq_true]
      refine hK _ _ ?_
      clear hK K
      refine thenQ_normal ?_
      refine WI.seq ?_
      refine WI.seq ?_
      refine WI.regA tabBer4R_ok [0, 4, 5, 6, 7, 17] (fun K hK => ?_)
      refine osS (by simp only [zC, stepOp, aval, opv, Ab.get, Ab.put, putO, Nat.reduceEqDiff, ↓reduceIte, D.val, D.cond, reduceCtorEq]; rfl) rfl ?_
      refine osS (by simp (disch := omega) only [zG, zN, zC, stepOp, aval, opv, Ab.get, Ab.put, putO, Nat.reduceEqDiff, ↓reduceIte, D.val, D.cond, reduceCtorEq, binD, bitsD, Nat.reduceAdd, Nat.reduceSub, Nat.reduceMul, Nat.reduceLeDiff, Int.reduceToNat, Int.reduceLE, Int.reduceLT, Int.reduceAdd, Int.reduceSub, Int.reduceMul, Int.reduceNeg, Int.reduceEq, bne_self_eq_false, readRG, readD]; rfl) (by first | with_reducible rfl | omega | (simp; done) | (simp; omega) | rfl) ?_
      refine osN ?_
      simp only [keep, memN, Nat.reduceEqDiff, if_true, if_false, ↓reduceIte, Option.getD_none, Option.getD_some, List.append_nil, List.cons_append, List.nil_append, Bool.false_eq_true]
      refine hK _ _ ?_
      clear hK K
      refine thenQ_normal ?_
      refine WI.cond (b := _) rfl rfl (fun h1 => ?_) (fun h1 => ?_)
      · try simp only [zB] at h1
        refine WI.seq ?_
        refine WI.regA tabBer4R_ok [2, 3] (fun K hK => ?_)
        refine osS (by simp only [zC, stepOp, aval, opv, Ab.get, Ab.put, putO, Nat.reduceEqDiff, ↓reduceIte, D.val, D.cond, reduceCtorEq]; rfl) rfl ?_
        refine osS (by simp only [zC, stepOp, aval, opv, Ab.get, Ab.put, putO, Nat.reduceEqDiff, ↓reduceIte, D.val, D.cond, reduceCtorEq]; rfl) rfl ?_
        refine osS (by simp only [zC, stepOp, aval, opv, Ab.get, Ab.put, putO, Nat.reduceEqDiff, ↓reduceIte, D.val, D.cond, reduceCtorEq]; rfl) rfl ?_
        refine osN ?_
        simp only [keep, memN, Nat.reduceEqDiff, if_true, if_false, ↓reduceIte, Option.getD_none, Option.getD_some, List.append_nil, List.cons_append, List.nil_append, Bool.false_eq_true]
        refine hK _ _ ?_
        clear hK K
        refine thenQ_normal ?_
        refine WI.nn ?_
        simp only [zV, frzL, nrmφ, nrmO, onF, D.vw, vwL, D.on, D.inP, inL, memB, D.ren, renL, inv, fpO, Ob.mp, Ob.ren, D.nn, nnφ, Nat.reduceBEq, Nat.reduceEqDiff, Nat.reduceAdd, ↓reduceIte]
        refine WI.ret ?_
        refine thenQ_ret ?_
        refine blockQ_ret ?_
        refine thenQ_ret ?_
        refine blockQ_ret ?_
        refine thenQ_ret ?_
        refine ⟨.inr rfl, ?_⟩
        -- leaf 0
        simp (disch := omega) only [zF, retD, resD, finD, plainD, freezeD, freezeL, aval, opv, Ab.get, Nat.reduceEqDiff, ↓reduceIte, D.val, D.cond, Nat.reduceAdd, Nat.reduceLeDiff, Ob.slice?, readRG, readD]
        refine ⟨_, _, rfl, ?_⟩
        simp only [mkR]
        rw [← he, allF_err k q out h0 hk h1]; rfl
      · try simp only [zB] at h1
        refine WI.skip ?_
        refine thenQ_normal ?_
        refine WI.seq ?_
        refine WI.seq ?_
        refine WI.regA tabBer4R_ok [0, 4, 5, 6, 21] (fun K hK => ?_)
        refine osS (by simp only [zC, stepOp, aval, opv, Ab.get, Ab.put, putO, Nat.reduceEqDiff, ↓reduceIte, D.val, D.cond, reduceCtorEq]; rfl) rfl ?_
        refine osS (by simp (disch := omega) only [zL, zR, zC, stepOp, aval, opv, Ab.get, Ab.put, putO, Nat.reduceEqDiff, ↓reduceIte, D.val, D.cond, reduceCtorEq, lenD, okRef, Nat.reduceAdd, Nat.reduceLeDiff, Ob.slice?, readRG, readD]; rfl) (by first | with_reducible rfl | omega | (simp; done) | (simp; omega) | rfl) ?_
        refine osS (by simp (disch := omega) only [zG, zN, zC, stepOp, aval, opv, Ab.get, Ab.put, putO, Nat.reduceEqDiff, ↓reduceIte, D.val, D.cond, reduceCtorEq, binD, bitsD, Nat.reduceAdd, Nat.reduceSub, Nat.reduceMul, Nat.reduceLeDiff, Int.reduceToNat, Int.reduceLE, Int.reduceLT, Int.reduceAdd, Int.reduceSub, Int.reduceMul, Int.reduceNeg, Int.reduceEq, bne_self_eq_false, readRG, readD]; rfl) (by first | with_reducible rfl | omega | (simp; done) | (simp; omega) | rfl) ?_
        refine osN ?_
        simp only [keep, memN, Nat.reduceEqDiff, if_true, if_false, ↓reduceIte, Option.getD_none, Option.getD_some, List.append_nil, List.cons_append, List.nil_append, Bool.false_eq_true]
        refine hK _ _ ?_
        clear hK K
        refine thenQ_normal ?_
        refine WI.cond (b := _) rfl rfl (fun h2 => ?_) (fun h2 => ?_)
        · try simp only [zB] at h2
          refine WI.seq ?_
          refine WI.regA tabBer4R_ok [2, 3] (fun K hK => ?_)
          refine osS (by simp only [zC, stepOp, aval, opv, Ab.get, Ab.put, putO, Nat.reduceEqDiff, ↓reduceIte, D.val, D.cond, reduceCtorEq]; rfl) rfl ?_
          refine osS (by simp only [zC, stepOp, aval, opv, Ab.get, Ab.put, putO, Nat.reduceEqDiff, ↓reduceIte, D.val, D.cond, reduceCtorEq]; rfl) rfl ?_
          refine osN ?_
          simp only [keep, memN, Nat.reduceEqDiff, if_true, if_false, ↓reduceIte, Option.getD_none, Option.getD_some, List.append_nil, List.cons_append, List.nil_append, Bool.false_eq_true]
          refine hK _ _ ?_
          clear hK K
          refine thenQ_normal ?_
          refine WI.nn ?_
          simp only [zV, frzL, nrmφ, nrmO, onF, D.vw, vwL, D.on, D.inP, inL, memB, D.ren, renL, inv, fpO, Ob.mp, Ob.ren, D.nn, nnφ, Nat.reduceBEq, Nat.reduceEqDiff, Nat.reduceAdd, ↓reduceIte]
          refine WI.ret ?_
          refine thenQ_ret ?_
          refine blockQ_ret ?_
          refine thenQ_ret ?_
          refine blockQ_ret ?_
          refine thenQ_ret ?_
          refine ⟨.inr rfl, ?_⟩
          -- leaf 1
          simp (disch := omega) only [zF, retD, resD, finD, plainD, freezeD, freezeL, aval, opv, Ab.get, Nat.reduceEqDiff, ↓reduceIte, D.val, D.cond, Nat.reduceAdd, Nat.reduceLeDiff, Ob.slice?, readRG, readD]
          refine ⟨_, _, rfl, ?_⟩
          simp only [mkR]
          rw [← he, allF_long k q out h0 hk h1 (by omega)]; rfl
        · try simp only [zB] at h2
          refine WI.skip ?_
          refine thenQ_normal ?_
          refine WI.seq ?_
          refine WI.regA tabBer4R_ok [0, 4, 6] (fun K hK => ?_)
          refine osS (by simp only [zC, stepOp, aval, opv, Ab.get, Ab.put, putO, Nat.reduceEqDiff, ↓reduceIte, D.val, D.cond, reduceCtorEq]; rfl) rfl ?_
          refine osS (by simp (disch := omega) only [zL, zR, zC, stepOp, aval, opv, Ab.get, Ab.put, putO, Nat.reduceEqDiff, ↓reduceIte, D.val, D.cond, reduceCtorEq, Nat.reduceAdd, Nat.reduceLeDiff, Ob.slice?, readRG, readD]; rfl) (by first | with_reducible rfl | omega | (simp; done) | (simp; omega) | rfl) ?_
          refine osS (by simp (disch := omega) only [zM, stepOp, aval, opv, Ab.get, Ab.put, putO, Nat.reduceEqDiff, ↓reduceIte, D.val, D.cond, reduceCtorEq, aact, actT, IE.isCall, D.cells?, Nat.reduceAdd, Nat.reduceLeDiff, Ob.slice?, Nat.reduceSub, Nat.reduceMul, Int.reduceToNat, Int.reduceLE, Int.reduceLT, Int.reduceAdd, Int.reduceSub, Int.reduceMul, Int.reduceNeg, Int.reduceEq, rowsOf, srcOf, okRef, intOf?, partsD, freezeL, freezeD, buildD, slcStrD, slcSlD, optV, zeroO, eqR, eqD, eqFs, eqX, nzD, binD, unD, lenD, evK, evC, Nat.reduceLT, readRG, readD]; rfl) (by first | with_reducible rfl | omega | (simp; done) | (simp; omega) | rfl) ?_
          refine osS (by simp (disch := omega) only [zM, stepOp, aval, opv, Ab.get, Ab.put, putO, Nat.reduceEqDiff, ↓reduceIte, D.val, D.cond, reduceCtorEq, aact, actT, IE.isCall, D.cells?, Nat.reduceAdd, Nat.reduceLeDiff, Ob.slice?, Nat.reduceSub, Nat.reduceMul, Int.reduceToNat, Int.reduceLE, Int.reduceLT, Int.reduceAdd, Int.reduceSub, Int.reduceMul, Int.reduceNeg, Int.reduceEq, rowsOf, srcOf, okRef, intOf?, partsD, freezeL, freezeD, buildD, slcStrD, slcSlD, optV, zeroO, eqR, eqD, eqFs, eqX, nzD, binD, unD, lenD, evK, evC, Nat.reduceLT, readRG, readD]; rfl) (by first | with_reducible rfl | omega | (simp; done) | (simp; omega) | rfl) ?_
          refine osS (by simp only [zC, stepOp, aval, opv, Ab.get, Ab.put, putO, Nat.reduceEqDiff, ↓reduceIte, D.val, D.cond, reduceCtorEq]; rfl) rfl ?_
          refine osN ?_
          simp only [keep, memN, Nat.reduceEqDiff, if_true, if_false, ↓reduceIte, Option.getD_none, Option.getD_some, List.append_nil, List.cons_append, List.nil_append, Bool.false_eq_true]
          refine hK _ _ ?_
          clear hK K
          refine thenQ_normal ?_
          have hr := readB_ok q h1
          refine WI.pick [0] rfl ?_
          simp (disch := decide) only [zV, frzL, nrmφ, nrmO, onF, D.vw, vwL, D.on, D.inP, inL, memB, D.ren, renL, inv, fpO, Ob.mp, Ob.ren, D.nn, nnφ, Nat.reduceBEq, Nat.reduceEqDiff, Nat.reduceAdd, ↓reduceIte]
          refine WI.regA tabBer4R_ok [0, 4] (fun K hK => ?_)
          refine osS (by simp only [zC, stepOp, aval, opv, Ab.get, Ab.put, putO, Nat.reduceEqDiff, ↓reduceIte, D.val, D.cond, reduceCtorEq]; rfl) rfl ?_
          refine osS (by simp only [zC, stepOp, aval, opv, Ab.get, Ab.put, putO, Nat.reduceEqDiff, ↓reduceIte, D.val, D.cond, reduceCtorEq]; rfl) rfl ?_
          refine osS (by simp (disch := omega) only [zM, stepOp, aval, opv, Ab.get, Ab.put, putO, Nat.reduceEqDiff, ↓reduceIte, D.val, D.cond, reduceCtorEq, aact, actT, IE.isCall, D.cells?, Nat.reduceAdd, Nat.reduceLeDiff, Ob.slice?, Nat.reduceSub, Nat.reduceMul, Int.reduceToNat, Int.reduceLE, Int.reduceLT, Int.reduceAdd, Int.reduceSub, Int.reduceMul, Int.reduceNeg, Int.reduceEq, rowsOf, srcOf, okRef, intOf?, partsD, freezeL, freezeD, buildD, slcStrD, slcSlD, optV, zeroO, eqR, eqD, eqFs, eqX, nzD, binD, unD, lenD, evK, evC, Nat.reduceLT, readRG, readD]; rfl) (by first | with_reducible rfl | omega | (simp; done) | (simp; omega) | rfl) ?_
          refine osS (by simp only [zC, stepOp, aval, opv, Ab.get, Ab.put, putO, Nat.reduceEqDiff, ↓reduceIte, D.val, D.cond, reduceCtorEq]; rfl) rfl ?_
          refine osN ?_
          simp only [keep, memN, Nat.reduceEqDiff, if_true, if_false, ↓reduceIte, Option.getD_none, Option.getD_some, List.append_nil, List.cons_append, List.nil_append, Bool.false_eq_true]
          refine hK _ _ ?_
          clear hK K
          refine blockQ_normal ?_
          refine thenQ_normal ?_
          exact ⟨⟨k - 1, q.drop (readB q).2.1, out ++ [(readB q).1], by simp, by rw [← rows_tlv], by rw [List.length_drop]; omega, by rw [List.length_drop]; omega, by simp; omega, by rw [← he, allF_step k q out h0 hk h1 (by omega)]⟩, by simp [strL, Ab.get, D.val]; have := List.length_pos_iff.2 h0; omega⟩
    · try simp only [zB] at h0
      refine WI.exit ?_
      refine thenQ_exit ?_
      refine thenQ_exit ?_
      refine blockQ_hit ?_
      refine thenQ_normal ?_
      refine WI.seq ?_
      refine WI.regA tabBer4R_ok [2, 3] (fun K hK => ?_)
      refine osS (by simp only [zC, stepOp, aval, opv, Ab.get, Ab.put, putO, Nat.reduceEqDiff, ↓reduceIte, D.val, D.cond, reduceCtorEq]; rfl) rfl ?_
      refine osS (by simp only [zC, stepOp, aval, opv, Ab.get, Ab.put, putO, Nat.reduceEqDiff, ↓reduceIte, D.val, D.cond, reduceCtorEq]; rfl) rfl ?_
      refine osS (by simp only [zC, stepOp, aval, opv, Ab.get, Ab.put, putO, Nat.reduceEqDiff, ↓reduceIte, D.val, D.cond, reduceCtorEq]; rfl) rfl ?_
      refine osN ?_
      simp only [keep, memN, Nat.reduceEqDiff, if_true, if_false, ↓reduceIte, Option.getD_none, Option.getD_some, List.append_nil, List.cons_append, List.nil_append, Bool.false_eq_true]
      refine hK _ _ ?_
      clear hK K
      refine thenQ_normal ?_
      refine WI.ret ?_
      refine ⟨.inr rfl, ?_⟩
      -- leaf 2
      simp (disch := omega) only [zF, retD, resD, finD, plainD, freezeD, freezeL, aval, opv, Ab.get, Nat.reduceEqDiff, ↓reduceIte, D.val, D.cond, Nat.reduceAdd, Nat.reduceLeDiff, Ob.slice?, readRG, readD]
      refine ⟨_, _, rfl, ?_⟩
      simp only [mkR]
      subst h0; rw [← he, allF_nil]
def allG : List D → Option (Bool × D)
  | [.x (.str s)] => some (decide (s.length ≤ 9223372036854775807), .tup [.x (.sl (rows rTlv (allB s).1)), .x (.int .i64 (allB s).2)])
  | _ => none
theorem allG_ok : ∀ args r, allG args = some (true, r) → PCalls Try.prog 20 args r := by
  intro args r h
  unfold allG at h
  split at h
  · rename_i s
    simp only [Option.some.injEq, Prod.mk.injEq, Bool.and_eq_true, decide_eq_true_eq, true_and] at h
    obtain ⟨h1, rfl⟩ := h
    exact all_c s h1
  · cases h
def allRG : List D → Option (Bool × D)
  | [.x (.str s)] => some (decide (s.length ≤ 9223372036854775807), .tup [.x (.sl (rows rTlv (allB s).1)), .x (.int .i64 (allB s).2)])
  | _ => none
theorem allRG_ok : ∀ args r, allRG args = some (true, r) → PCalls Try.prog 21 args r := by
  intro args r h
  unfold allRG at h
  split at h
  · rename_i s
    simp only [Option.some.injEq, Prod.mk.injEq, Bool.and_eq_true, decide_eq_true_eq, true_and] at h
    obtain ⟨h1, rfl⟩ := h
    exact allR_c s h1
  · cases h
theorem take_ext {α : Type} {a b : List α} {j : Nat} (h : a.take j = b.take j) (ha : j < a.length) (hb : j < b.length) (he : a[j] = b[j]) : a.take (j + 1) = b.take (j + 1) := by
  rw [← List.take_append_getElem ha, ← List.take_append_getElem hb, h, he]
theorem tlv_ext {x y : Tlv} (h : x.1 = y.1 ∧ x.2.1 = y.2.1) : x = y := Prod.ext h.1 (Prod.ext h.2 rfl)
theorem same_c (a b : List Tlv) : PCalls Try.prog 22 [.x (.sl (rows rTlv a)), .x (.sl (rows rTlv b))] (.x (.bool (decide (a = b)))) := by
  refine PCalls.wf (fun hw => ?_)
  have ha : a.length ≤ maxLen := by have := (hw _ (List.mem_cons_self)).1; rwa [rows_len] at this
  have hb : b.length ≤ maxLen := by have := (hw _ (List.mem_cons_of_mem _ List.mem_cons_self)).1; rwa [rows_len] at this
  clear hw
  simp only [maxLen] at ha hb
  refine FCalls.pure (fcallsG (fz := true) G_ok (p := i22) rfl _ (Nat.le_of_ble_eq_true rfl) _ (fun C0 E0 => ?_)) rfl
  dsimp only [i22, argsφ]
  refine WI.seq ?_
  refine WI.regA noTabs_ok [0, 1] (fun K hK => ?_)
  refine osS (by simp only [zC, stepOp, aval, opv, Ab.get, Ab.put, putO, Nat.reduceEqDiff, ↓reduceIte, D.val, D.cond, reduceCtorEq]; rfl) rfl ?_
  refine osN ?_
  simp only [keep, memN, Nat.reduceEqDiff, if_true, if_false, ↓reduceIte, Option.getD_none, Option.getD_some, List.append_nil, List.cons_append, List.nil_append, Bool.false_eq_true]
  refine hK _ _ ?_
  clear hK K
  refine thenQ_normal ?_
  refine WI.seq ?_
  refine WI.seq ?_
  refine WI.regA noTabs_ok [0, 1, 10] (fun K hK => ?_)
  refine osS (by simp only [zC, stepOp, aval, opv, Ab.get, Ab.put, putO, Nat.reduceEqDiff, ↓reduceIte, D.val, D.cond, reduceCtorEq]; rfl) rfl ?_
  refine osS (by simp (disch := omega) only [zL, zR, zC, stepOp, aval, opv, Ab.get, Ab.put, putO, Nat.reduceEqDiff, ↓reduceIte, D.val, D.cond, reduceCtorEq, lenD, okRef, Nat.reduceAdd, Nat.reduceLeDiff, Ob.slice?]; rfl) (by first | with_reducible rfl | omega | (simp; done) | (simp; omega) | rfl) ?_
  refine osS (by simp only [zC, stepOp, aval, opv, Ab.get, Ab.put, putO, Nat.reduceEqDiff, ↓reduceIte, D.val, D.cond, reduceCtorEq]; rfl) rfl ?_
  refine osS (by simp (disch := omega) only [zL, zR, zC, stepOp, aval, opv, Ab.get, Ab.put, putO, Nat.reduceEqDiff, ↓reduceIte, D.val, D.cond, reduceCtorEq, lenD, okRef, Nat.reduceAdd, Nat.reduceLeDiff, Ob.slice?]; rfl) (by first | with_reducible rfl | omega | (simp; done) | (simp; omega) | rfl) ?_
  refine osS (by simp (disch := omega) only [zG, zN, zC, stepOp, aval, opv, Ab.get, Ab.put, putO, Nat.reduceEqDiff, ↓reduceIte, D.val, D.cond, reduceCtorEq, binD, bitsD, Nat.reduceAdd, Nat.reduceSub, Nat.reduceMul, Nat.reduceLeDiff, Int.reduceToNat, Int.reduceLE, Int.reduceLT, Int.reduceAdd, Int.reduceSub, Int.reduceMul, Int.reduceNeg, Int.reduceEq, bne_self_eq_false]; rfl) (by first | with_reducible rfl | omega | (simp; done) | (simp; omega) | rfl) ?_
  refine osN ?_
  simp only [keep, memN, Nat.reduceEqDiff, if_true, if_false, ↓reduceIte, Option.getD_none, Option.getD_some, List.append_nil, List.cons_append, List.nil_append, Bool.false_eq_true]
  refine hK _ _ ?_
  clear hK K
  refine thenQ_normal ?_
  refine WI.cond (b := _) rfl rfl (fun h0 => ?_) (fun h0 => ?_)
  · try simp only [zB] at h0
    refine WI.seq ?_
    refine WI.regA noTabs_ok [4] (fun K hK => ?_)
    refine osS (by simp only [zC, stepOp, aval, opv, Ab.get, Ab.put, putO, Nat.reduceEqDiff, ↓reduceIte, D.val, D.cond, reduceCtorEq]; rfl) rfl ?_
    refine osN ?_
    simp only [keep, memN, Nat.reduceEqDiff, if_true, if_false, ↓reduceIte, Option.getD_none, Option.getD_some, List.append_nil, List.cons_append, List.nil_append, Bool.false_eq_true]
    refine hK _ _ ?_
    clear hK K
    refine thenQ_normal ?_
    refine WI.ret ?_
    refine thenQ_ret ?_
    refine ⟨.inr rfl, ?_⟩
    -- leaf 0
    simp (disch := omega) only [zF, retD, resD, finD, plainD, freezeD, freezeL, aval, opv, Ab.get, Nat.reduceEqDiff, ↓reduceIte, D.val, D.cond, Nat.reduceAdd, Nat.reduceLeDiff, Ob.slice?]
    refine ⟨_, _, rfl, ?_⟩
    simp only [mkR]
    rw [decide_eq_false (by rintro rfl; simp at h0)]
  · try simp only [zB] at h0
    refine WI.skip ?_
    refine thenQ_normal ?_
    refine WI.seq ?_
    refine WI.seq ?_
    refine WI.regA noTabs_ok [0, 1, 5] (fun K hK => ?_)
    refine osS (by simp only [zC, stepOp, aval, opv, Ab.get, Ab.put, putO, Nat.reduceEqDiff, ↓reduceIte, D.val, D.cond, reduceCtorEq]; rfl) rfl ?_
    refine osN ?_
    simp only [keep, memN, Nat.reduceEqDiff, if_true, if_false, ↓reduceIte, Option.getD_none, Option.getD_some, List.append_nil, List.cons_append, List.nil_append, Bool.false_eq_true]
    refine hK _ _ ?_
    clear hK K
    refine thenQ_normal ?_
    refine WI.block ?_
    refine WI.loop (fun φ os => ∃ j : Nat, φ = [(0, .x (.sl (rows rTlv a))), (1, .x (.sl (rows rTlv b))), (5, .x (.int .i64 j))] ∧ os = [] ∧ j ≤ a.length ∧ a.length = b.length ∧ a.take j = b.take j) (down a.length 5) ?_ (fun φ os hI => ?_)
    · exact ⟨0, rfl, rfl, by omega, by omega, rfl⟩
    · obtain ⟨j, rfl, rfl, hj, hl, he⟩ := hI
      refine WI.seq ?_
      refine WI.seq ?_
      refine WI.regA noTabs_ok [0, 1, 5, 14] (fun K hK => ?_)
      refine osS (by simp only [zC, stepOp, aval, opv, Ab.get, Ab.put, putO, Nat.reduceEqDiff, ↓reduceIte, D.val, D.cond, reduceCtorEq]; rfl) rfl ?_
      refine osS (by simp only [zC, stepOp, aval, opv, Ab.get, Ab.put, putO, Nat.reduceEqDiff, ↓reduceIte, D.val, D.cond, reduceCtorEq]; rfl) rfl ?_
      refine osS (by simp (disch := omega) only [zL, zR, zC, stepOp, aval, opv, Ab.get, Ab.put, putO, Nat.reduceEqDiff, ↓reduceIte, D.val, D.cond, reduceCtorEq, lenD, okRef, Nat.reduceAdd, Nat.reduceLeDiff, Ob.slice?]; rfl) (by first | with_reducible rfl | omega | (simp; done) | (simp; omega) | rfl) ?_
      refine osS (by simp (disch := omega) only [zG, zN, zC, stepOp, aval, opv, Ab.get, Ab.put, putO, Nat.reduceEqDiff, ↓reduceIte, D.val, D.cond, reduceCtorEq, binD, bitsD, Nat.reduceAdd, Nat.reduceSub, Nat.reduceMul, Nat.reduceLeDiff, Int.reduceToNat, Int.reduceLE, Int.reduceLT, Int.reduceAdd, Int.reduceSub, Int.reduceMul, Int.reduceNeg, Int.reduceEq, bne_self_eq_false]; rfl) (by first | with_reducible rfl | omega | (simp; done) | (simp; omega) | rfl) ?_
      refine osN ?_
      simp only [keep, memN, Nat.reduceEqDiff, if_true, if_false, ↓reduceIte, Option.getD_none, Option.getD_some, List.append_nil, List.cons_append, List.nil_append, Bool.false_eq_true]
      refine hK _ _ ?_
      clear hK K
      refine thenQ_normal ?_
      refine WI.cond (b := _) rfl rfl (fun h1 => ?_) (fun h1 => ?_)
      · try simp only [zB] at h1
        refine WI.skip ?_
        refine thenQ_normal ?_
        refine WI.seq ?_
        refine WI.block ?_
        refine WI.seq ?_
        refine WI.dregA noTabs_ok [0, 1, 5, 25] (fun K hK => ?_)
        refine dsF rfl (by simp only [zC, evQ, evA, avalR, prefB, Ob.beq_refl, stepOp, aval, opv, Ab.get, Ab.put, putO, Nat.reduceEqDiff, ↓reduceIte, D.val, D.cond, reduceCtorEq]; rfl) rfl ?_
        refine dsF rfl (by simp only [zC, evQ, evA, avalR, prefB, Ob.beq_refl, stepOp, aval, opv, Ab.get, Ab.put, putO, Nat.reduceEqDiff, ↓reduceIte, D.val, D.cond, reduceCtorEq]; rfl) rfl ?_
        refine dsQ rfl rfl rfl (by simp (disch := omega) only [zL, zR, zC, evQ, evA, avalR, prefB, Ob.beq_refl, stepOp, aval, opv, Ab.get, Ab.put, putO, Nat.reduceEqDiff, ↓reduceIte, D.val, D.cond, reduceCtorEq, intOf?, Nat.reduceAdd, Nat.reduceLeDiff, Ob.slice?, Nat.reduceSub, Nat.reduceMul, Int.reduceToNat, Int.reduceLE, Int.reduceLT, Int.reduceAdd, Int.reduceSub, Int.reduceMul, Int.reduceNeg, Int.reduceEq, decide_false, IntWalk.i64_in]; rfl) (by first | with_reducible rfl | omega | (simp; done) | (simp; omega) | rfl) ?_
        refine dsQ rfl rfl rfl (by simp (disch := omega) only [zL, zR, zC, evQ, evA, avalR, prefB, Ob.beq_refl, stepOp, aval, opv, Ab.get, Ab.put, putO, Nat.reduceEqDiff, ↓reduceIte, D.val, D.cond, reduceCtorEq, Nat.reduceAdd, Nat.reduceLeDiff, Ob.slice?]; rfl) (by first | with_reducible rfl | omega | (simp; done) | (simp; omega) | rfl) ?_
        refine dsF rfl (by simp only [zC, evQ, evA, avalR, prefB, Ob.beq_refl, stepOp, aval, opv, Ab.get, Ab.put, putO, Nat.reduceEqDiff, ↓reduceIte, D.val, D.cond, reduceCtorEq]; rfl) rfl ?_
        refine dsF rfl (by simp only [zC, evQ, evA, avalR, prefB, Ob.beq_refl, stepOp, aval, opv, Ab.get, Ab.put, putO, Nat.reduceEqDiff, ↓reduceIte, D.val, D.cond, reduceCtorEq]; rfl) rfl ?_
        refine dsQ rfl rfl rfl (by simp (disch := omega) only [zL, zR, zC, evQ, evA, avalR, prefB, Ob.beq_refl, stepOp, aval, opv, Ab.get, Ab.put, putO, Nat.reduceEqDiff, ↓reduceIte, D.val, D.cond, reduceCtorEq, intOf?, Nat.reduceAdd, Nat.reduceLeDiff, Ob.slice?, Nat.reduceSub, Nat.reduceMul, Int.reduceToNat, Int.reduceLE, Int.reduceLT, Int.reduceAdd, Int.reduceSub, Int.reduceMul, Int.reduceNeg, Int.reduceEq, decide_false, IntWalk.i64_in]; rfl) (by first | with_reducible rfl | omega | (simp; done) | (simp; omega) | rfl) ?_
        refine dsQ rfl rfl rfl (by simp (disch := omega) only [zL, zR, zC, evQ, evA, avalR, prefB, Ob.beq_refl, stepOp, aval, opv, Ab.get, Ab.put, putO, Nat.reduceEqDiff, ↓reduceIte, D.val, D.cond, reduceCtorEq, Nat.reduceAdd, Nat.reduceLeDiff, Ob.slice?]; rfl) (by first | with_reducible rfl | omega | (simp; done) | (simp; omega) | rfl) ?_
        refine dsF rfl (by simp (disch := omega) only [zM, evQ, evA, avalR, prefB, Ob.beq_refl, stepOp, aval, opv, Ab.get, Ab.put, putO, Nat.reduceEqDiff, ↓reduceIte, D.val, D.cond, reduceCtorEq, aact, actT, IE.isCall, D.cells?, Nat.reduceAdd, Nat.reduceLeDiff, Ob.slice?, Nat.reduceSub, Nat.reduceMul, Int.reduceToNat, Int.reduceLE, Int.reduceLT, Int.reduceAdd, Int.reduceSub, Int.reduceMul, Int.reduceNeg, Int.reduceEq, rowsOf, srcOf, okRef, intOf?, partsD, freezeL, freezeD, buildD, slcStrD, slcSlD, optV, zeroO, eqR, eqD, eqFs, eqX, nzD, binD, unD, lenD, evK, evC, Nat.reduceLT]; rfl) (by first | with_reducible rfl | omega | (simp; done) | (simp; omega) | rfl) ?_
        refine dsN ?_
        simp only [keep, memN, Nat.reduceEqDiff, if_true, if_false, ↓reduceIte, Option.getD_none, Option.getD_some, List.append_nil, List.cons_append, List.nil_append, Bool.false_eq_true]
        refine hK _ _ ?_
        clear hK K
        refine thenQ_normal ?_
        refine WI.cond (b := _) rfl rfl (fun h2 => ?_) (fun h2 => ?_)
        · try simp only [zB] at h2
          refine WI.seq ?_
          refine WI.regA noTabs_ok [4] (fun K hK => ?_)
          refine osS (by simp only [zC, stepOp, aval, opv, Ab.get, Ab.put, putO, Nat.reduceEqDiff, ↓reduceIte, D.val, D.cond, reduceCtorEq]; rfl) rfl ?_
          refine osN ?_
          simp only [keep, memN, Nat.reduceEqDiff, if_true, if_false, ↓reduceIte, Option.getD_none, Option.getD_some, List.append_nil, List.cons_append, List.nil_append, Bool.false_eq_true]
          refine hK _ _ ?_
          clear hK K
          refine thenQ_normal ?_
          refine WI.ret ?_
          refine blockQ_ret ?_
          refine thenQ_ret ?_
          refine thenQ_ret ?_
          refine blockQ_ret ?_
          refine thenQ_ret ?_
          refine ⟨.inr rfl, ?_⟩
          -- leaf 1
          simp (disch := omega) only [zF, retD, resD, finD, plainD, freezeD, freezeL, aval, opv, Ab.get, Nat.reduceEqDiff, ↓reduceIte, D.val, D.cond, Nat.reduceAdd, Nat.reduceLeDiff, Ob.slice?]
          refine ⟨_, _, rfl, ?_⟩
          simp only [mkR]
          rw [decide_eq_false (by rintro rfl; simp at h2)]
        · try simp only [zB] at h2
          refine WI.skip ?_
          refine blockQ_normal ?_
          refine thenQ_normal ?_
          refine WI.regA noTabs_ok [0, 1, 5] (fun K hK => ?_)
          refine osS (by simp only [zC, stepOp, aval, opv, Ab.get, Ab.put, putO, Nat.reduceEqDiff, ↓reduceIte, D.val, D.cond, reduceCtorEq]; rfl) rfl ?_
          refine osS (by simp (disch := omega) only [zG, zN, zC, stepOp, aval, opv, Ab.get, Ab.put, putO, Nat.reduceEqDiff, ↓reduceIte, D.val, D.cond, reduceCtorEq, binD, bitsD, Nat.reduceAdd, Nat.reduceSub, Nat.reduceMul, Nat.reduceLeDiff, Int.reduceToNat, Int.reduceLE, Int.reduceLT, Int.reduceAdd, Int.reduceSub, Int.reduceMul, Int.reduceNeg, Int.reduceEq, bne_self_eq_false]; rfl) (by first | with_reducible rfl | omega | (simp; done) | (simp; omega) | rfl) ?_
          refine osS (by simp only [zC, stepOp, aval, opv, Ab.get, Ab.put, putO, Nat.reduceEqDiff, ↓reduceIte, D.val, D.cond, reduceCtorEq]; rfl) rfl ?_
          refine osN ?_
          simp only [keep, memN, Nat.reduceEqDiff, if_true, if_false, ↓reduceIte, Option.getD_none, Option.getD_some, List.append_nil, List.cons_append, List.nil_append, Bool.false_eq_true]
          refine hK _ _ ?_
          clear hK K
          refine thenQ_normal ?_
          exact ⟨⟨j + 1, by simp, rfl, by omega, hl, take_ext he (by omega) (by omega) (tlv_ext h2)⟩, by simp [down, Ab.get, D.val, intOf?]; omega⟩
      · try simp only [zB] at h1
        refine WI.exit ?_
        refine thenQ_exit ?_
        refine thenQ_exit ?_
        refine blockQ_hit ?_
        refine thenQ_normal ?_
        refine WI.seq ?_
        refine WI.regA noTabs_ok [4] (fun K hK => ?_)
        refine osS (by simp only [zC, stepOp, aval, opv, Ab.get, Ab.put, putO, Nat.reduceEqDiff, ↓reduceIte, D.val, D.cond, reduceCtorEq]; rfl) rfl ?_
        refine osN ?_
        simp only [keep, memN, Nat.reduceEqDiff, if_true, if_false, ↓reduceIte, Option.getD_none, Option.getD_some, List.append_nil, List.cons_append, List.nil_append, Bool.false_eq_true]
        refine hK _ _ ?_
        clear hK K
        refine thenQ_normal ?_
        refine WI.ret ?_
        refine ⟨.inr rfl, ?_⟩
        -- leaf 2
        simp (disch := omega) only [zF, retD, resD, finD, plainD, freezeD, freezeL, aval, opv, Ab.get, Nat.reduceEqDiff, ↓reduceIte, D.val, D.cond, Nat.reduceAdd, Nat.reduceLeDiff, Ob.slice?]
        refine ⟨_, _, rfl, ?_⟩
        simp only [mkR]
        rw [decide_eq_true]; rw [List.take_of_length_le (by omega), List.take_of_length_le (by omega)] at he; exact he
def sameG : List D → Option (Bool × D)
  | [.x (.sl A), .x (.sl B)] => (unrows rTlv A).bind fun a => (unrows rTlv B).bind fun b => some (true, .x (.bool (decide (a = b))))
  | _ => none
theorem sameG_ok : ∀ args r, sameG args = some (true, r) → PCalls Try.prog 22 args r := by
  intro args r h
  unfold sameG at h
  split at h
  · rename_i A B
    obtain ⟨a, hr0, h⟩ := Option.bind_eq_some_iff.1 h
    obtain ⟨b, hr1, h⟩ := Option.bind_eq_some_iff.1 h
    simp only [Option.some.injEq, Prod.mk.injEq, Bool.and_eq_true, decide_eq_true_eq, true_and] at h
    obtain rfl := h
    rw [← rows_unrows good_rTlv hr0]
    rw [← rows_unrows good_rTlv hr1]
    exact same_c a b
  · cases h
theorem awake01_c : PCalls Try.prog 13 [] (.x (.bool true)) := (ev_closed G_ok 300 (p := i13) rfl (by kernel_rfl) rfl).2
def awake01G : List D → Option (Bool × D)
  | [] => some (true, .x (.bool true))
  | _ => none
theorem awake01G_ok : ∀ args r, awake01G args = some (true, r) → PCalls Try.prog 13 args r := by
  intro args r h
  unfold awake01G at h
  split at h
  · simp only [Option.some.injEq, Prod.mk.injEq, Bool.and_eq_true, decide_eq_true_eq, true_and] at h
    obtain rfl := h
    exact awake01_c 
  · cases h
end Go.Proofs.Ytogmbfaijmhamaa
