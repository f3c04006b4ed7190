/- Policy: what each function does, in the abstract. -/
import Derived.Test.YtogplpcamiicgaaTexts
set_option linter.unusedSimpArgs false
namespace Go.Proofs.Ytogplpcamiicgaa
open Go.RowKit Go.Bo Go.Ab

theorem within_c (n m : Int) : PCalls Try.prog 35 [.x (.int .i64 n), .x (.int .i64 m)] (.x (.bool (decide (0 ≤ n ∧ n ≤ m)))) := by
  refine FCalls.pure (fcallsG (fz := true) G_ok (p := i35) rfl _ (Nat.le_of_ble_eq_true rfl) _ (fun c E0 => ?_)) rfl
  dsimp only [i35, argsφ]
  refine WI.seq ?_
  refine WI.regA noTabs_ok [0, 1] (fun K hK => ?_)
  refine osS (by simp only [stepOp, aval, opv, Ab.get, Ab.put, putO, Nat.reduceEqDiff, ↓reduceIte, Option.map_some, Option.bind_some, D.val, D.cond, Bool.and_true, Bool.true_and, Bool.false_eq_true, reduceCtorEq]; rfl) rfl ?_
  refine osN ?_
  simp only [keep, memN, Nat.reduceEqDiff, if_true, if_false, ↓reduceIte, Option.getD_none, Option.getD_some, List.append_nil, List.cons_append, List.nil_append, Bool.false_eq_true]
  refine hK _ _ ?_
  clear hK K
  refine thenQ_normal ?_
  refine WI.seq ?_
  refine WI.regA noTabs_ok [4] (fun K hK => ?_)
  refine osS (by simp only [stepOp, aval, opv, Ab.get, Ab.put, putO, Nat.reduceEqDiff, ↓reduceIte, Option.map_some, Option.bind_some, D.val, D.cond, Bool.and_true, Bool.true_and, Bool.false_eq_true, reduceCtorEq]; rfl) rfl ?_
  refine osS (by simp (disch := omega) only [stepOp, aval, opv, Ab.get, Ab.put, putO, Nat.reduceEqDiff, ↓reduceIte, Option.map_some, Option.bind_some, D.val, D.cond, Bool.and_true, Bool.true_and, Bool.false_eq_true, reduceCtorEq, binD, bitsD, Nat.reduceAdd, Nat.reduceSub, Nat.reduceMul, Nat.reduceLeDiff, Nat.add_zero, Nat.zero_add, Int.reduceToNat, Int.reduceLE, Int.reduceLT, Int.reduceAdd, Int.reduceSub, Int.reduceMul, Int.reduceNeg, Int.reduceEq, Int.toNat_natCast, Int.natCast_nonneg, decide_true, decide_false, IntWalk.i64_in, Bool.not_true, Bool.not_false, Bool.or_true, Bool.true_or, Bool.or_false, Bool.false_or, Bool.and_false, Bool.false_and, beq_self_eq_true, or_eqf, Bool.and_self, Bool.not_or_self, Bool.or_not_self, beq_true, beq_false, Bool.not_not, bne_self_eq_false]; rfl) (by first | rfl | omega | (simp; done) | (simp; omega)) ?_
  refine osS (by simp only [stepOp, aval, opv, Ab.get, Ab.put, putO, Nat.reduceEqDiff, ↓reduceIte, Option.map_some, Option.bind_some, D.val, D.cond, Bool.and_true, Bool.true_and, Bool.false_eq_true, reduceCtorEq]; rfl) rfl ?_
  refine osS (by simp (disch := omega) only [stepOp, aval, opv, Ab.get, Ab.put, putO, Nat.reduceEqDiff, ↓reduceIte, Option.map_some, Option.bind_some, D.val, D.cond, Bool.and_true, Bool.true_and, Bool.false_eq_true, reduceCtorEq, Bool.not_true, Bool.not_false, Bool.or_true, Bool.true_or, Bool.or_false, Bool.false_or, Bool.and_false, Bool.false_and, beq_self_eq_true, or_eqf, Bool.and_self, Bool.not_or_self, Bool.or_not_self, beq_true, beq_false, Bool.not_not]; rfl) rfl ?_
  refine osS (by simp (disch := omega) only [stepOp, aval, opv, Ab.get, Ab.put, putO, Nat.reduceEqDiff, ↓reduceIte, Option.map_some, Option.bind_some, D.val, D.cond, Bool.and_true, Bool.true_and, Bool.false_eq_true, reduceCtorEq, Bool.not_true, Bool.not_false, Bool.or_true, Bool.true_or, Bool.or_false, Bool.false_or, Bool.and_false, Bool.false_and, beq_self_eq_true, or_eqf, Bool.and_self, Bool.not_or_self, Bool.or_not_self, beq_true, beq_false, Bool.not_not]; rfl) rfl ?_
  refine osS (by simp (disch := omega) only [stepOp, aval, opv, Ab.get, Ab.put, putO, Nat.reduceEqDiff, ↓reduceIte, Option.map_some, Option.bind_some, D.val, D.cond, Bool.and_true, Bool.true_and, Bool.false_eq_true, reduceCtorEq, binD, bitsD, Nat.reduceAdd, Nat.reduceSub, Nat.reduceMul, Nat.reduceLeDiff, Nat.add_zero, Nat.zero_add, Int.reduceToNat, Int.reduceLE, Int.reduceLT, Int.reduceAdd, Int.reduceSub, Int.reduceMul, Int.reduceNeg, Int.reduceEq, Int.toNat_natCast, Int.natCast_nonneg, decide_true, decide_false, IntWalk.i64_in, Bool.not_true, Bool.not_false, Bool.or_true, Bool.true_or, Bool.or_false, Bool.false_or, Bool.and_false, Bool.false_and, beq_self_eq_true, or_eqf, Bool.and_self, Bool.not_or_self, Bool.or_not_self, beq_true, beq_false, Bool.not_not, bne_self_eq_false]; rfl) (by first | rfl | omega | (simp; done) | (simp; omega)) ?_
  refine osS (by simp (disch := omega) only [stepOp, aval, opv, Ab.get, Ab.put, putO, Nat.reduceEqDiff, ↓reduceIte, Option.map_some, Option.bind_some, D.val, D.cond, Bool.and_true, Bool.true_and, Bool.false_eq_true, reduceCtorEq, Bool.not_true, Bool.not_false, Bool.or_true, Bool.true_or, Bool.or_false, Bool.false_or, Bool.and_false, Bool.false_and, beq_self_eq_true, or_eqf, Bool.and_self, Bool.not_or_self, Bool.or_not_self, beq_true, beq_false, Bool.not_not, Bool.cond_true_left, Bool.cond_false_right, cond_true, cond_false]; rfl) (by first | rfl | omega | (simp; done) | (simp; omega)) ?_
  refine osS (by simp only [stepOp, aval, opv, Ab.get, Ab.put, putO, Nat.reduceEqDiff, ↓reduceIte, Option.map_some, Option.bind_some, D.val, D.cond, Bool.and_true, Bool.true_and, Bool.false_eq_true, reduceCtorEq]; rfl) rfl ?_
  refine osN ?_
  simp only [keep, memN, Nat.reduceEqDiff, if_true, if_false, ↓reduceIte, Option.getD_none, Option.getD_some, List.append_nil, List.cons_append, List.nil_append, Bool.false_eq_true]
  refine hK _ _ ?_
  clear hK K
  refine thenQ_normal ?_
  refine WI.ret ?_
  refine ⟨.inr rfl, ?_⟩
  -- leaf 0
  simp (disch := omega) only [retD, resD, finD, plainD, freezeD, freezeL, aval, opv, Ab.get, Nat.reduceEqDiff, ↓reduceIte, Option.map_some, Option.bind_some, D.val, D.cond, Bool.and_true, Bool.true_and, List.getElem?_cons_zero, List.getElem?_cons_succ, List.drop_zero, List.take_zero, List.drop_succ_cons, List.take_succ_cons, List.drop_nil, List.take_nil, List.length_cons, List.length_nil, List.map_cons, List.map_nil, List.cons_append, List.nil_append, List.set_cons_zero, List.set_cons_succ, Nat.reduceAdd, Nat.add_zero, Nat.zero_add, Nat.reduceLeDiff, if_true, decide_true, rows_len, rows_get, bytes_get, bytes_len, enc_rInt, enc_rStr, enc_rBool, enc_rEnd, enc_rSl, enc_rCat, enc_rVia, Int.toNat_natCast, Int.natCast_nonneg, Ob.slice?, rows_drop, rows_take, rows_app, List.length_append, List.take_length, Ob.slice?]
  refine ⟨_, _, rfl, ?_⟩
  simp only [mkR]
  simp
def withinG : List D → Option (Bool × D)
  | [.x (.int .i64 n), .x (.int .i64 m)] => some (true, .x (.bool (decide (0 ≤ n ∧ n ≤ m))))
  | _ => none
theorem withinG_ok : ∀ args r, withinG args = some (true, r) → PCalls Try.prog 35 args r := by
  intro args r h
  unfold withinG at h
  split at h
  · cases h; exact within_c _ _
  · cases h

/-- A byte's class. -/
def cls (n : Int) : Nat := if 97 ≤ n ∧ n ≤ 122 then 0 else if 65 ≤ n ∧ n ≤ 90 then 1 else if 48 ≤ n ∧ n ≤ 57 then 2 else 3
theorem cls_lt (n : Int) : cls n = 0 ∨ cls n = 1 ∨ cls n = 2 ∨ cls n = 3 := by
  unfold cls; split; simp; split; simp; split <;> simp
theorem class_c (n : Int) : PCalls Try.prog 46 [.x (.int .u8 n)] (.x (.int .i64 (cls n))) := by
  refine FCalls.pure (fcallsG (fz := true) G_ok (p := i46) rfl _ (Nat.le_of_ble_eq_true rfl) _ (fun c E0 => ?_)) rfl
  dsimp only [i46, argsφ]
  refine WI.seq ?_
  refine WI.regA noTabs_ok [0] (fun K hK => ?_)
  refine osS (by simp only [stepOp, aval, opv, Ab.get, Ab.put, putO, Nat.reduceEqDiff, ↓reduceIte, Option.map_some, Option.bind_some, D.val, D.cond, Bool.and_true, Bool.true_and, Bool.false_eq_true, reduceCtorEq]; rfl) rfl ?_
  refine osN ?_
  simp only [keep, memN, Nat.reduceEqDiff, if_true, if_false, ↓reduceIte, Option.getD_none, Option.getD_some, List.append_nil, List.cons_append, List.nil_append, Bool.false_eq_true]
  refine hK _ _ ?_
  clear hK K
  refine thenQ_normal ?_
  refine WI.seq ?_
  refine WI.block ?_
  refine WI.seq ?_
  refine WI.regA noTabs_ok [0, 3] (fun K hK => ?_)
  refine osS (by simp only [stepOp, aval, opv, Ab.get, Ab.put, putO, Nat.reduceEqDiff, ↓reduceIte, Option.map_some, Option.bind_some, D.val, D.cond, Bool.and_true, Bool.true_and, Bool.false_eq_true, reduceCtorEq]; rfl) rfl ?_
  refine osS (by simp (disch := omega) only [stepOp, aval, opv, Ab.get, Ab.put, putO, Nat.reduceEqDiff, ↓reduceIte, Option.map_some, Option.bind_some, D.val, D.cond, Bool.and_true, Bool.true_and, Bool.false_eq_true, reduceCtorEq, binD, bitsD, Nat.reduceAdd, Nat.reduceSub, Nat.reduceMul, Nat.reduceLeDiff, Nat.add_zero, Nat.zero_add, Int.reduceToNat, Int.reduceLE, Int.reduceLT, Int.reduceAdd, Int.reduceSub, Int.reduceMul, Int.reduceNeg, Int.reduceEq, Int.toNat_natCast, Int.natCast_nonneg, decide_true, decide_false, IntWalk.i64_in, Bool.not_true, Bool.not_false, Bool.or_true, Bool.true_or, Bool.or_false, Bool.false_or, Bool.and_false, Bool.false_and, beq_self_eq_true, or_eqf, Bool.and_self, Bool.not_or_self, Bool.or_not_self, beq_true, beq_false, Bool.not_not, bne_self_eq_false]; rfl) (by first | rfl | omega | (simp; done) | (simp; omega)) ?_
  refine osS (by simp only [stepOp, aval, opv, Ab.get, Ab.put, putO, Nat.reduceEqDiff, ↓reduceIte, Option.map_some, Option.bind_some, D.val, D.cond, Bool.and_true, Bool.true_and, Bool.false_eq_true, reduceCtorEq]; rfl) rfl ?_
  refine osS (by simp (disch := omega) only [stepOp, aval, opv, Ab.get, Ab.put, putO, Nat.reduceEqDiff, ↓reduceIte, Option.map_some, Option.bind_some, D.val, D.cond, Bool.and_true, Bool.true_and, Bool.false_eq_true, reduceCtorEq, Bool.not_true, Bool.not_false, Bool.or_true, Bool.true_or, Bool.or_false, Bool.false_or, Bool.and_false, Bool.false_and, beq_self_eq_true, or_eqf, Bool.and_self, Bool.not_or_self, Bool.or_not_self, beq_true, beq_false, Bool.not_not]; rfl) rfl ?_
  refine osS (by simp (disch := omega) only [stepOp, aval, opv, Ab.get, Ab.put, putO, Nat.reduceEqDiff, ↓reduceIte, Option.map_some, Option.bind_some, D.val, D.cond, Bool.and_true, Bool.true_and, Bool.false_eq_true, reduceCtorEq, binD, bitsD, Nat.reduceAdd, Nat.reduceSub, Nat.reduceMul, Nat.reduceLeDiff, Nat.add_zero, Nat.zero_add, Int.reduceToNat, Int.reduceLE, Int.reduceLT, Int.reduceAdd, Int.reduceSub, Int.reduceMul, Int.reduceNeg, Int.reduceEq, Int.toNat_natCast, Int.natCast_nonneg, decide_true, decide_false, IntWalk.i64_in, Bool.not_true, Bool.not_false, Bool.or_true, Bool.true_or, Bool.or_false, Bool.false_or, Bool.and_false, Bool.false_and, beq_self_eq_true, or_eqf, Bool.and_self, Bool.not_or_self, Bool.or_not_self, beq_true, beq_false, Bool.not_not, bne_self_eq_false]; rfl) (by first | rfl | omega | (simp; done) | (simp; omega)) ?_
  refine osS (by simp (disch := omega) only [stepOp, aval, opv, Ab.get, Ab.put, putO, Nat.reduceEqDiff, ↓reduceIte, Option.map_some, Option.bind_some, D.val, D.cond, Bool.and_true, Bool.true_and, Bool.false_eq_true, reduceCtorEq, Bool.not_true, Bool.not_false, Bool.or_true, Bool.true_or, Bool.or_false, Bool.false_or, Bool.and_false, Bool.false_and, beq_self_eq_true, or_eqf, Bool.and_self, Bool.not_or_self, Bool.or_not_self, beq_true, beq_false, Bool.not_not, Bool.cond_true_left, Bool.cond_false_right, cond_true, cond_false]; rfl) (by first | rfl | omega | (simp; done) | (simp; omega)) ?_
  refine osS (by simp only [stepOp, aval, opv, Ab.get, Ab.put, putO, Nat.reduceEqDiff, ↓reduceIte, Option.map_some, Option.bind_some, D.val, D.cond, Bool.and_true, Bool.true_and, Bool.false_eq_true, reduceCtorEq]; rfl) rfl ?_
  refine osN ?_
  simp only [keep, memN, Nat.reduceEqDiff, if_true, if_false, ↓reduceIte, Option.getD_none, Option.getD_some, List.append_nil, List.cons_append, List.nil_append, Bool.false_eq_true]
  refine hK _ _ ?_
  clear hK K
  refine thenQ_normal ?_
  refine WI.cond (b := _) rfl rfl (fun h0 => ?_) (fun h0 => ?_)
  · try simp only [Bool.or_eq_true, Bool.and_eq_true, Bool.not_eq_true', Bool.or_eq_false_iff, Bool.and_eq_false_iff, Bool.not_eq_false', decide_eq_true_eq, decide_eq_false_iff_not, Bool.not_eq_true, gt_iff_lt, ge_iff_le, Int.not_lt, Int.not_le, bne_iff_ne, ne_eq, beq_iff_eq, bne_eq_false_iff_eq, beq_eq_false_iff_ne] at h0
    refine WI.seq ?_
    refine WI.regA noTabs_ok [2] (fun K hK => ?_)
    refine osS (by simp only [stepOp, aval, opv, Ab.get, Ab.put, putO, Nat.reduceEqDiff, ↓reduceIte, Option.map_some, Option.bind_some, D.val, D.cond, Bool.and_true, Bool.true_and, Bool.false_eq_true, reduceCtorEq]; rfl) rfl ?_
    refine osN ?_
    simp only [keep, memN, Nat.reduceEqDiff, if_true, if_false, ↓reduceIte, Option.getD_none, Option.getD_some, List.append_nil, List.cons_append, List.nil_append, Bool.false_eq_true]
    refine hK _ _ ?_
    clear hK K
    refine thenQ_normal ?_
    refine WI.ret ?_
    refine blockQ_ret ?_
    refine thenQ_ret ?_
    refine ⟨.inr rfl, ?_⟩
    -- leaf 0
    simp (disch := omega) only [retD, resD, finD, plainD, freezeD, freezeL, aval, opv, Ab.get, Nat.reduceEqDiff, ↓reduceIte, Option.map_some, Option.bind_some, D.val, D.cond, Bool.and_true, Bool.true_and, List.getElem?_cons_zero, List.getElem?_cons_succ, List.drop_zero, List.take_zero, List.drop_succ_cons, List.take_succ_cons, List.drop_nil, List.take_nil, List.length_cons, List.length_nil, List.map_cons, List.map_nil, List.cons_append, List.nil_append, List.set_cons_zero, List.set_cons_succ, Nat.reduceAdd, Nat.add_zero, Nat.zero_add, Nat.reduceLeDiff, if_true, decide_true, rows_len, rows_get, bytes_get, bytes_len, enc_rInt, enc_rStr, enc_rBool, enc_rEnd, enc_rSl, enc_rCat, enc_rVia, Int.toNat_natCast, Int.natCast_nonneg, Ob.slice?, rows_drop, rows_take, rows_app, List.length_append, List.take_length, Ob.slice?]
    refine ⟨_, _, rfl, ?_⟩
    simp only [mkR]
    rw [show cls n = 0 by unfold cls; split <;> (try split) <;> (try split) <;> omega]; rfl
  · try simp only [Bool.or_eq_true, Bool.and_eq_true, Bool.not_eq_true', Bool.or_eq_false_iff, Bool.and_eq_false_iff, Bool.not_eq_false', decide_eq_true_eq, decide_eq_false_iff_not, Bool.not_eq_true, gt_iff_lt, ge_iff_le, Int.not_lt, Int.not_le, bne_iff_ne, ne_eq, beq_iff_eq, bne_eq_false_iff_eq, beq_eq_false_iff_ne] at h0
    refine WI.seq ?_
    refine WI.regA noTabs_ok [0, 10] (fun K hK => ?_)
    refine osS (by simp only [stepOp, aval, opv, Ab.get, Ab.put, putO, Nat.reduceEqDiff, ↓reduceIte, Option.map_some, Option.bind_some, D.val, D.cond, Bool.and_true, Bool.true_and, Bool.false_eq_true, reduceCtorEq]; rfl) rfl ?_
    refine osS (by simp (disch := omega) only [stepOp, aval, opv, Ab.get, Ab.put, putO, Nat.reduceEqDiff, ↓reduceIte, Option.map_some, Option.bind_some, D.val, D.cond, Bool.and_true, Bool.true_and, Bool.false_eq_true, reduceCtorEq, binD, bitsD, Nat.reduceAdd, Nat.reduceSub, Nat.reduceMul, Nat.reduceLeDiff, Nat.add_zero, Nat.zero_add, Int.reduceToNat, Int.reduceLE, Int.reduceLT, Int.reduceAdd, Int.reduceSub, Int.reduceMul, Int.reduceNeg, Int.reduceEq, Int.toNat_natCast, Int.natCast_nonneg, decide_true, decide_false, IntWalk.i64_in, Bool.not_true, Bool.not_false, Bool.or_true, Bool.true_or, Bool.or_false, Bool.false_or, Bool.and_false, Bool.false_and, beq_self_eq_true, or_eqf, Bool.and_self, Bool.not_or_self, Bool.or_not_self, beq_true, beq_false, Bool.not_not, bne_self_eq_false]; rfl) (by first | rfl | omega | (simp; done) | (simp; omega)) ?_
    refine osS (by simp only [stepOp, aval, opv, Ab.get, Ab.put, putO, Nat.reduceEqDiff, ↓reduceIte, Option.map_some, Option.bind_some, D.val, D.cond, Bool.and_true, Bool.true_and, Bool.false_eq_true, reduceCtorEq]; rfl) rfl ?_
    refine osS (by simp (disch := omega) only [stepOp, aval, opv, Ab.get, Ab.put, putO, Nat.reduceEqDiff, ↓reduceIte, Option.map_some, Option.bind_some, D.val, D.cond, Bool.and_true, Bool.true_and, Bool.false_eq_true, reduceCtorEq, Bool.not_true, Bool.not_false, Bool.or_true, Bool.true_or, Bool.or_false, Bool.false_or, Bool.and_false, Bool.false_and, beq_self_eq_true, or_eqf, Bool.and_self, Bool.not_or_self, Bool.or_not_self, beq_true, beq_false, Bool.not_not]; rfl) rfl ?_
    refine osS (by simp (disch := omega) only [stepOp, aval, opv, Ab.get, Ab.put, putO, Nat.reduceEqDiff, ↓reduceIte, Option.map_some, Option.bind_some, D.val, D.cond, Bool.and_true, Bool.true_and, Bool.false_eq_true, reduceCtorEq, binD, bitsD, Nat.reduceAdd, Nat.reduceSub, Nat.reduceMul, Nat.reduceLeDiff, Nat.add_zero, Nat.zero_add, Int.reduceToNat, Int.reduceLE, Int.reduceLT, Int.reduceAdd, Int.reduceSub, Int.reduceMul, Int.reduceNeg, Int.reduceEq, Int.toNat_natCast, Int.natCast_nonneg, decide_true, decide_false, IntWalk.i64_in, Bool.not_true, Bool.not_false, Bool.or_true, Bool.true_or, Bool.or_false, Bool.false_or, Bool.and_false, Bool.false_and, beq_self_eq_true, or_eqf, Bool.and_self, Bool.not_or_self, Bool.or_not_self, beq_true, beq_false, Bool.not_not, bne_self_eq_false]; rfl) (by first | rfl | omega | (simp; done) | (simp; omega)) ?_
    refine osS (by simp (disch := omega) only [stepOp, aval, opv, Ab.get, Ab.put, putO, Nat.reduceEqDiff, ↓reduceIte, Option.map_some, Option.bind_some, D.val, D.cond, Bool.and_true, Bool.true_and, Bool.false_eq_true, reduceCtorEq, Bool.not_true, Bool.not_false, Bool.or_true, Bool.true_or, Bool.or_false, Bool.false_or, Bool.and_false, Bool.false_and, beq_self_eq_true, or_eqf, Bool.and_self, Bool.not_or_self, Bool.or_not_self, beq_true, beq_false, Bool.not_not, Bool.cond_true_left, Bool.cond_false_right, cond_true, cond_false]; rfl) (by first | rfl | omega | (simp; done) | (simp; omega)) ?_
    refine osS (by simp only [stepOp, aval, opv, Ab.get, Ab.put, putO, Nat.reduceEqDiff, ↓reduceIte, Option.map_some, Option.bind_some, D.val, D.cond, Bool.and_true, Bool.true_and, Bool.false_eq_true, reduceCtorEq]; rfl) rfl ?_
    refine osN ?_
    simp only [keep, memN, Nat.reduceEqDiff, if_true, if_false, ↓reduceIte, Option.getD_none, Option.getD_some, List.append_nil, List.cons_append, List.nil_append, Bool.false_eq_true]
    refine hK _ _ ?_
    clear hK K
    refine thenQ_normal ?_
    refine WI.cond (b := _) rfl rfl (fun h1 => ?_) (fun h1 => ?_)
    · try simp only [Bool.or_eq_true, Bool.and_eq_true, Bool.not_eq_true', Bool.or_eq_false_iff, Bool.and_eq_false_iff, Bool.not_eq_false', decide_eq_true_eq, decide_eq_false_iff_not, Bool.not_eq_true, gt_iff_lt, ge_iff_le, Int.not_lt, Int.not_le, bne_iff_ne, ne_eq, beq_iff_eq, bne_eq_false_iff_eq, beq_eq_false_iff_ne] at h1
      refine WI.seq ?_
      refine WI.regA noTabs_ok [2] (fun K hK => ?_)
      refine osS (by simp only [stepOp, aval, opv, Ab.get, Ab.put, putO, Nat.reduceEqDiff, ↓reduceIte, Option.map_some, Option.bind_some, D.val, D.cond, Bool.and_true, Bool.true_and, Bool.false_eq_true, reduceCtorEq]; rfl) rfl ?_
      refine osN ?_
      simp only [keep, memN, Nat.reduceEqDiff, if_true, if_false, ↓reduceIte, Option.getD_none, Option.getD_some, List.append_nil, List.cons_append, List.nil_append, Bool.false_eq_true]
      refine hK _ _ ?_
      clear hK K
      refine thenQ_normal ?_
      refine WI.ret ?_
      refine blockQ_ret ?_
      refine thenQ_ret ?_
      refine ⟨.inr rfl, ?_⟩
      -- leaf 1
      simp (disch := omega) only [retD, resD, finD, plainD, freezeD, freezeL, aval, opv, Ab.get, Nat.reduceEqDiff, ↓reduceIte, Option.map_some, Option.bind_some, D.val, D.cond, Bool.and_true, Bool.true_and, List.getElem?_cons_zero, List.getElem?_cons_succ, List.drop_zero, List.take_zero, List.drop_succ_cons, List.take_succ_cons, List.drop_nil, List.take_nil, List.length_cons, List.length_nil, List.map_cons, List.map_nil, List.cons_append, List.nil_append, List.set_cons_zero, List.set_cons_succ, Nat.reduceAdd, Nat.add_zero, Nat.zero_add, Nat.reduceLeDiff, if_true, decide_true, rows_len, rows_get, bytes_get, bytes_len, enc_rInt, enc_rStr, enc_rBool, enc_rEnd, enc_rSl, enc_rCat, enc_rVia, Int.toNat_natCast, Int.natCast_nonneg, Ob.slice?, rows_drop, rows_take, rows_app, List.length_append, List.take_length, Ob.slice?]
      refine ⟨_, _, rfl, ?_⟩
      simp only [mkR]
      rw [show cls n = 1 by unfold cls; split <;> (try split) <;> (try split) <;> omega]; rfl
    · try simp only [Bool.or_eq_true, Bool.and_eq_true, Bool.not_eq_true', Bool.or_eq_false_iff, Bool.and_eq_false_iff, Bool.not_eq_false', decide_eq_true_eq, decide_eq_false_iff_not, Bool.not_eq_true, gt_iff_lt, ge_iff_le, Int.not_lt, Int.not_le, bne_iff_ne, ne_eq, beq_iff_eq, bne_eq_false_iff_eq, beq_eq_false_iff_ne] at h1
      refine WI.seq ?_
      refine WI.regA noTabs_ok [17] (fun K hK => ?_)
      refine osS (by simp only [stepOp, aval, opv, Ab.get, Ab.put, putO, Nat.reduceEqDiff, ↓reduceIte, Option.map_some, Option.bind_some, D.val, D.cond, Bool.and_true, Bool.true_and, Bool.false_eq_true, reduceCtorEq]; rfl) rfl ?_
      refine osS (by simp (disch := omega) only [stepOp, aval, opv, Ab.get, Ab.put, putO, Nat.reduceEqDiff, ↓reduceIte, Option.map_some, Option.bind_some, D.val, D.cond, Bool.and_true, Bool.true_and, Bool.false_eq_true, reduceCtorEq, binD, bitsD, Nat.reduceAdd, Nat.reduceSub, Nat.reduceMul, Nat.reduceLeDiff, Nat.add_zero, Nat.zero_add, Int.reduceToNat, Int.reduceLE, Int.reduceLT, Int.reduceAdd, Int.reduceSub, Int.reduceMul, Int.reduceNeg, Int.reduceEq, Int.toNat_natCast, Int.natCast_nonneg, decide_true, decide_false, IntWalk.i64_in, Bool.not_true, Bool.not_false, Bool.or_true, Bool.true_or, Bool.or_false, Bool.false_or, Bool.and_false, Bool.false_and, beq_self_eq_true, or_eqf, Bool.and_self, Bool.not_or_self, Bool.or_not_self, beq_true, beq_false, Bool.not_not, bne_self_eq_false]; rfl) (by first | rfl | omega | (simp; done) | (simp; omega)) ?_
      refine osS (by simp only [stepOp, aval, opv, Ab.get, Ab.put, putO, Nat.reduceEqDiff, ↓reduceIte, Option.map_some, Option.bind_some, D.val, D.cond, Bool.and_true, Bool.true_and, Bool.false_eq_true, reduceCtorEq]; rfl) rfl ?_
      refine osS (by simp (disch := omega) only [stepOp, aval, opv, Ab.get, Ab.put, putO, Nat.reduceEqDiff, ↓reduceIte, Option.map_some, Option.bind_some, D.val, D.cond, Bool.and_true, Bool.true_and, Bool.false_eq_true, reduceCtorEq, Bool.not_true, Bool.not_false, Bool.or_true, Bool.true_or, Bool.or_false, Bool.false_or, Bool.and_false, Bool.false_and, beq_self_eq_true, or_eqf, Bool.and_self, Bool.not_or_self, Bool.or_not_self, beq_true, beq_false, Bool.not_not]; rfl) rfl ?_
      refine osS (by simp (disch := omega) only [stepOp, aval, opv, Ab.get, Ab.put, putO, Nat.reduceEqDiff, ↓reduceIte, Option.map_some, Option.bind_some, D.val, D.cond, Bool.and_true, Bool.true_and, Bool.false_eq_true, reduceCtorEq, binD, bitsD, Nat.reduceAdd, Nat.reduceSub, Nat.reduceMul, Nat.reduceLeDiff, Nat.add_zero, Nat.zero_add, Int.reduceToNat, Int.reduceLE, Int.reduceLT, Int.reduceAdd, Int.reduceSub, Int.reduceMul, Int.reduceNeg, Int.reduceEq, Int.toNat_natCast, Int.natCast_nonneg, decide_true, decide_false, IntWalk.i64_in, Bool.not_true, Bool.not_false, Bool.or_true, Bool.true_or, Bool.or_false, Bool.false_or, Bool.and_false, Bool.false_and, beq_self_eq_true, or_eqf, Bool.and_self, Bool.not_or_self, Bool.or_not_self, beq_true, beq_false, Bool.not_not, bne_self_eq_false]; rfl) (by first | rfl | omega | (simp; done) | (simp; omega)) ?_
      refine osS (by simp (disch := omega) only [stepOp, aval, opv, Ab.get, Ab.put, putO, Nat.reduceEqDiff, ↓reduceIte, Option.map_some, Option.bind_some, D.val, D.cond, Bool.and_true, Bool.true_and, Bool.false_eq_true, reduceCtorEq, Bool.not_true, Bool.not_false, Bool.or_true, Bool.true_or, Bool.or_false, Bool.false_or, Bool.and_false, Bool.false_and, beq_self_eq_true, or_eqf, Bool.and_self, Bool.not_or_self, Bool.or_not_self, beq_true, beq_false, Bool.not_not, Bool.cond_true_left, Bool.cond_false_right, cond_true, cond_false]; rfl) (by first | rfl | omega | (simp; done) | (simp; omega)) ?_
      refine osS (by simp only [stepOp, aval, opv, Ab.get, Ab.put, putO, Nat.reduceEqDiff, ↓reduceIte, Option.map_some, Option.bind_some, D.val, D.cond, Bool.and_true, Bool.true_and, Bool.false_eq_true, reduceCtorEq]; rfl) rfl ?_
      refine osN ?_
      simp only [keep, memN, Nat.reduceEqDiff, if_true, if_false, ↓reduceIte, Option.getD_none, Option.getD_some, List.append_nil, List.cons_append, List.nil_append, Bool.false_eq_true]
      refine hK _ _ ?_
      clear hK K
      refine thenQ_normal ?_
      refine WI.cond (b := _) rfl rfl (fun h2 => ?_) (fun h2 => ?_)
      · try simp only [Bool.or_eq_true, Bool.and_eq_true, Bool.not_eq_true', Bool.or_eq_false_iff, Bool.and_eq_false_iff, Bool.not_eq_false', decide_eq_true_eq, decide_eq_false_iff_not, Bool.not_eq_true, gt_iff_lt, ge_iff_le, Int.not_lt, Int.not_le, bne_iff_ne, ne_eq, beq_iff_eq, bne_eq_false_iff_eq, beq_eq_false_iff_ne] at h2
        refine WI.seq ?_
        refine WI.regA noTabs_ok [2] (fun K hK => ?_)
        refine osS (by simp only [stepOp, aval, opv, Ab.get, Ab.put, putO, Nat.reduceEqDiff, ↓reduceIte, Option.map_some, Option.bind_some, D.val, D.cond, Bool.and_true, Bool.true_and, Bool.false_eq_true, reduceCtorEq]; rfl) rfl ?_
        refine osN ?_
        simp only [keep, memN, Nat.reduceEqDiff, if_true, if_false, ↓reduceIte, Option.getD_none, Option.getD_some, List.append_nil, List.cons_append, List.nil_append, Bool.false_eq_true]
        refine hK _ _ ?_
        clear hK K
        refine thenQ_normal ?_
        refine WI.ret ?_
        refine blockQ_ret ?_
        refine thenQ_ret ?_
        refine ⟨.inr rfl, ?_⟩
        -- leaf 2
        simp (disch := omega) only [retD, resD, finD, plainD, freezeD, freezeL, aval, opv, Ab.get, Nat.reduceEqDiff, ↓reduceIte, Option.map_some, Option.bind_some, D.val, D.cond, Bool.and_true, Bool.true_and, List.getElem?_cons_zero, List.getElem?_cons_succ, List.drop_zero, List.take_zero, List.drop_succ_cons, List.take_succ_cons, List.drop_nil, List.take_nil, List.length_cons, List.length_nil, List.map_cons, List.map_nil, List.cons_append, List.nil_append, List.set_cons_zero, List.set_cons_succ, Nat.reduceAdd, Nat.add_zero, Nat.zero_add, Nat.reduceLeDiff, if_true, decide_true, rows_len, rows_get, bytes_get, bytes_len, enc_rInt, enc_rStr, enc_rBool, enc_rEnd, enc_rSl, enc_rCat, enc_rVia, Int.toNat_natCast, Int.natCast_nonneg, Ob.slice?, rows_drop, rows_take, rows_app, List.length_append, List.take_length, Ob.slice?]
        refine ⟨_, _, rfl, ?_⟩
        simp only [mkR]
        rw [show cls n = 2 by unfold cls; split <;> (try split) <;> (try split) <;> omega]; rfl
      · try simp only [Bool.or_eq_true, Bool.and_eq_true, Bool.not_eq_true', Bool.or_eq_false_iff, Bool.and_eq_false_iff, Bool.not_eq_false', decide_eq_true_eq, decide_eq_false_iff_not, Bool.not_eq_true, gt_iff_lt, ge_iff_le, Int.not_lt, Int.not_le, bne_iff_ne, ne_eq, beq_iff_eq, bne_eq_false_iff_eq, beq_eq_false_iff_ne] at h2
        refine WI.skip ?_
        refine blockQ_normal ?_
        refine thenQ_normal ?_
        refine WI.seq ?_
        refine WI.regA noTabs_ok [2] (fun K hK => ?_)
        refine osS (by simp only [stepOp, aval, opv, Ab.get, Ab.put, putO, Nat.reduceEqDiff, ↓reduceIte, Option.map_some, Option.bind_some, D.val, D.cond, Bool.and_true, Bool.true_and, Bool.false_eq_true, reduceCtorEq]; rfl) rfl ?_
        refine osN ?_
        simp only [keep, memN, Nat.reduceEqDiff, if_true, if_false, ↓reduceIte, Option.getD_none, Option.getD_some, List.append_nil, List.cons_append, List.nil_append, Bool.false_eq_true]
        refine hK _ _ ?_
        clear hK K
        refine thenQ_normal ?_
        refine WI.ret ?_
        refine ⟨.inr rfl, ?_⟩
        -- leaf 3
        simp (disch := omega) only [retD, resD, finD, plainD, freezeD, freezeL, aval, opv, Ab.get, Nat.reduceEqDiff, ↓reduceIte, Option.map_some, Option.bind_some, D.val, D.cond, Bool.and_true, Bool.true_and, List.getElem?_cons_zero, List.getElem?_cons_succ, List.drop_zero, List.take_zero, List.drop_succ_cons, List.take_succ_cons, List.drop_nil, List.take_nil, List.length_cons, List.length_nil, List.map_cons, List.map_nil, List.cons_append, List.nil_append, List.set_cons_zero, List.set_cons_succ, Nat.reduceAdd, Nat.add_zero, Nat.zero_add, Nat.reduceLeDiff, if_true, decide_true, rows_len, rows_get, bytes_get, bytes_len, enc_rInt, enc_rStr, enc_rBool, enc_rEnd, enc_rSl, enc_rCat, enc_rVia, Int.toNat_natCast, Int.natCast_nonneg, Ob.slice?, rows_drop, rows_take, rows_app, List.length_append, List.take_length, Ob.slice?]
        refine ⟨_, _, rfl, ?_⟩
        simp only [mkR]
        rw [show cls n = 3 by unfold cls; split <;> (try split) <;> (try split) <;> omega]; rfl
def classG : List D → Option (Bool × D)
  | [.x (.int .u8 n)] => some (true, .x (.int .i64 (cls n)))
  | _ => none
theorem classG_ok : ∀ args r, classG args = some (true, r) → PCalls Try.prog 46 args r := by
  intro args r h
  unfold classG at h
  split at h
  · cases h; exact class_c _
  · cases h

def okP (a b c : Int) : Bool := decide (0 ≤ a ∧ a ≤ 128) && (decide (0 ≤ b ∧ b ≤ 4) && decide (0 ≤ c ∧ c ≤ 24))
def tabPo1 : Tabs := addQ (addQ (noTabs) 35 withinG) 46 classG
theorem tabPo1_ok : SsOk Try.prog tabPo1 := addQ_ok (addQ_ok (noTabs_ok) (G_enters G_ok (p := i35) rfl) withinG_ok) (G_enters G_ok (p := i46) rfl) classG_ok
theorem tabPo1_q35 (a : List D) : tabPo1.q 35 a = withinG a := rfl
theorem tabPo1_q46 (a : List D) : tabPo1.q 46 a = classG a := rfl
theorem tabPo1_r (f : FuncId) (a : List D) (o : List Ob) : tabPo1.r f a o = none := rfl
theorem tabPo1_k (f : FuncId) (a : List D) (o : List Ob) : tabPo1.k f a o = none := rfl

theorem check_c (a b c : Int) : PCalls Try.prog 24 [.agg [.x (.int .i64 a), .x (.int .i64 b), .x (.int .i64 c)]] (.x (.int .i64 (if okP a b c = true then 0 else 2))) := by
  refine FCalls.pure (fcallsG (fz := true) G_ok (p := i24) rfl _ (Nat.le_of_ble_eq_true rfl) _ (fun c E0 => ?_)) rfl
  dsimp only [i24, argsφ]
  refine WI.seq ?_
  refine WI.regA tabPo1_ok [1] (fun K hK => ?_)
  refine osS (by simp (disch := omega) only [stepOp, aval, opv, Ab.get, Ab.put, putO, Nat.reduceEqDiff, ↓reduceIte, Option.map_some, Option.bind_some, D.val, D.cond, Bool.and_true, Bool.true_and, Bool.false_eq_true, reduceCtorEq, aact, actT, IE.isCall, D.cells?, List.getElem?_cons_zero, List.getElem?_cons_succ, List.drop_zero, List.take_zero, List.drop_succ_cons, List.take_succ_cons, List.drop_nil, List.take_nil, List.length_cons, List.length_nil, List.map_cons, List.map_nil, List.cons_append, List.nil_append, List.set_cons_zero, List.set_cons_succ, Nat.reduceAdd, Nat.add_zero, Nat.zero_add, Nat.reduceLeDiff, if_true, decide_true]; rfl) rfl ?_
  refine osS (by simp only [stepOp, aval, opv, Ab.get, Ab.put, putO, Nat.reduceEqDiff, ↓reduceIte, Option.map_some, Option.bind_some, D.val, D.cond, Bool.and_true, Bool.true_and, Bool.false_eq_true, reduceCtorEq]; rfl) rfl ?_
  refine osN ?_
  simp only [keep, memN, Nat.reduceEqDiff, if_true, if_false, ↓reduceIte, Option.getD_none, Option.getD_some, List.append_nil, List.cons_append, List.nil_append, Bool.false_eq_true]
  refine hK _ _ ?_
  clear hK K
  refine thenQ_normal ?_
  refine WI.seq ?_
  refine WI.seq ?_
  refine WI.regA tabPo1_ok [18] (fun K hK => ?_)
  refine osS (by simp only [stepOp, aval, opv, Ab.get, Ab.put, putO, Nat.reduceEqDiff, ↓reduceIte, Option.map_some, Option.bind_some, D.val, D.cond, Bool.and_true, Bool.true_and, Bool.false_eq_true, reduceCtorEq, Nat.reduceAdd, Nat.add_zero, Nat.zero_add]; rfl) rfl ?_
  refine osS (by simp (disch := omega) only [stepOp, aval, opv, Ab.get, Ab.put, putO, Nat.reduceEqDiff, ↓reduceIte, Option.map_some, Option.bind_some, D.val, D.cond, Bool.and_true, Bool.true_and, Bool.false_eq_true, reduceCtorEq, List.getElem?_cons_zero, List.getElem?_cons_succ, List.drop_zero, List.take_zero, List.drop_succ_cons, List.take_succ_cons, List.drop_nil, List.take_nil, List.length_cons, List.length_nil, List.map_cons, List.map_nil, List.cons_append, List.nil_append, List.set_cons_zero, List.set_cons_succ, Nat.reduceAdd, Nat.add_zero, Nat.zero_add, Nat.reduceLeDiff, if_true, decide_true, rows_len, rows_get, bytes_get, bytes_len, enc_rInt, enc_rStr, enc_rBool, enc_rEnd, enc_rSl, enc_rCat, enc_rVia, Int.toNat_natCast, Int.natCast_nonneg, Ob.slice?]; rfl) (by first | rfl | omega | (simp; done) | (simp; omega)) ?_
  refine osS (by simp (disch := omega) only [Ob.beq_refl, List.reverse_cons, List.reverse_nil, bytes_get, bytes_len, bytes_row, bytes_all, beq_true, beq_false, Bool.not_not, un_nil, all_rStr, all_rInt, all_rAttr, all_rEntry, all_rChange, List.length_replicate, or_eqf, Int.natCast_nonneg, Bool.and_self, enc_rInt, enc_rStr, enc_rBool, enc_rEnd, enc_rSl, enc_rCat, enc_rVia, rows_len, rows_get, rows_drop, rows_take, rows_app, un_rStr, un_rInt, un_rAttr, un_rEntry, un_rChange, viaNN, viaNNT, D.nn, addQ, addT, Int.toNat_natCast, IE.isCall, Nat.reduceAdd, Nat.reduceSub, Nat.reduceMul, Nat.reduceLeDiff, Nat.reduceLT, Nat.reduceBEq, Int.reduceToNat, Int.reduceLE, Int.reduceLT, Int.reduceAdd, Int.reduceSub, Int.reduceMul, Int.reduceNeg, Int.reduceEq, Nat.add_zero, Nat.zero_add, Nat.reduceEqDiff, runOpsA, runDA, Option.getD_none, Option.getD_some, stepOp, aval, aact, opv, Ab.get, Ab.put, putO, keep, memN, D.val, D.cond, D.cells?, D.scalar, X.scalar, D.plain, D.isX, binD, bitsD, eqD, unD, intOf?, lenD, okRef, rowsOf, viewD, viewX, freezeD, freezeL, partsD, buildD, slcStr_eq, slcSl_eq, slcStrD, slcSlD, Ob.slice?, Option.bind_some, Option.map_some, Option.bind_none, Option.map_none, Res.some_iff, Bool.and_true, Bool.true_and, Bool.and_false, Bool.false_and, Bool.not_true, Bool.not_false, Bool.or_true, Bool.true_or, Bool.or_false, Bool.false_or, beq_self_eq_true, true_and, and_true, if_true, if_false, ↓reduceIte, List.map_cons, List.map_nil, List.all_cons, List.all_nil, List.mapM_cons, List.mapM_nil, Option.pure_def, Option.bind_eq_bind, List.length_cons, List.length_nil, List.getElem?_cons_zero, List.getElem?_cons_succ, List.cons_append, List.nil_append, List.set_cons_zero, List.set_cons_succ, decide_true, decide_false, Bool.false_eq_true, reduceCtorEq, Bool.cond_true_left, Bool.cond_false_right, Bool.not_eq_true', Bool.not_or_self, Bool.or_not_self, evQ, evK, evC, evA, avalR, prefB, eqR, nzD, actT, callT_eq, callR_eq, callK_eq, callT1, callR1, callK1, valsL, condsL, optV, noTabs, IE.frame, memB, zeroO, bne_self_eq_false, List.drop_zero, List.take_zero, List.drop_succ_cons, List.take_succ_cons, List.drop_nil, List.take_nil, Bool.bne_false, Bool.bne_true, IntWalk.i64_in, tabPo1_r, tabPo1_k, tabPo1_q35, tabPo1_q46, classG, withinG]; rfl) (by first | rfl | omega | (simp; done) | (simp; omega)) ?_
  refine osS (by simp (disch := omega) only [stepOp, aval, opv, Ab.get, Ab.put, putO, Nat.reduceEqDiff, ↓reduceIte, Option.map_some, Option.bind_some, D.val, D.cond, Bool.and_true, Bool.true_and, Bool.false_eq_true, reduceCtorEq, unD, Bool.not_true, Bool.not_false, Bool.or_true, Bool.true_or, Bool.or_false, Bool.false_or, Bool.and_false, Bool.false_and, beq_self_eq_true, or_eqf, Bool.and_self, Bool.not_or_self, Bool.or_not_self, beq_true, beq_false, Bool.not_not]; rfl) (by first | rfl | omega | (simp; done) | (simp; omega)) ?_
  refine osS (by simp only [stepOp, aval, opv, Ab.get, Ab.put, putO, Nat.reduceEqDiff, ↓reduceIte, Option.map_some, Option.bind_some, D.val, D.cond, Bool.and_true, Bool.true_and, Bool.false_eq_true, reduceCtorEq]; rfl) rfl ?_
  refine osS (by simp (disch := omega) only [stepOp, aval, opv, Ab.get, Ab.put, putO, Nat.reduceEqDiff, ↓reduceIte, Option.map_some, Option.bind_some, D.val, D.cond, Bool.and_true, Bool.true_and, Bool.false_eq_true, reduceCtorEq, Nat.reduceAdd, Nat.add_zero, Nat.zero_add, Bool.not_true, Bool.not_false, Bool.or_true, Bool.true_or, Bool.or_false, Bool.false_or, Bool.and_false, Bool.false_and, beq_self_eq_true, or_eqf, Bool.and_self, Bool.not_or_self, Bool.or_not_self, beq_true, beq_false, Bool.not_not]; rfl) rfl ?_
  refine osS (by simp (disch := omega) only [stepOp, aval, opv, Ab.get, Ab.put, putO, Nat.reduceEqDiff, ↓reduceIte, Option.map_some, Option.bind_some, D.val, D.cond, Bool.and_true, Bool.true_and, Bool.false_eq_true, reduceCtorEq, List.getElem?_cons_zero, List.getElem?_cons_succ, List.drop_zero, List.take_zero, List.drop_succ_cons, List.take_succ_cons, List.drop_nil, List.take_nil, List.length_cons, List.length_nil, List.map_cons, List.map_nil, List.cons_append, List.nil_append, List.set_cons_zero, List.set_cons_succ, Nat.reduceAdd, Nat.add_zero, Nat.zero_add, Nat.reduceLeDiff, if_true, decide_true, rows_len, rows_get, bytes_get, bytes_len, enc_rInt, enc_rStr, enc_rBool, enc_rEnd, enc_rSl, enc_rCat, enc_rVia, Int.toNat_natCast, Int.natCast_nonneg, Ob.slice?, Bool.not_true, Bool.not_false, Bool.or_true, Bool.true_or, Bool.or_false, Bool.false_or, Bool.and_false, Bool.false_and, beq_self_eq_true, or_eqf, Bool.and_self, Bool.not_or_self, Bool.or_not_self, beq_true, beq_false, Bool.not_not]; rfl) (by first | rfl | omega | (simp; done) | (simp; omega)) ?_
  refine osS (by simp (disch := omega) only [Ob.beq_refl, List.reverse_cons, List.reverse_nil, bytes_get, bytes_len, bytes_row, bytes_all, beq_true, beq_false, Bool.not_not, un_nil, all_rStr, all_rInt, all_rAttr, all_rEntry, all_rChange, List.length_replicate, or_eqf, Int.natCast_nonneg, Bool.and_self, enc_rInt, enc_rStr, enc_rBool, enc_rEnd, enc_rSl, enc_rCat, enc_rVia, rows_len, rows_get, rows_drop, rows_take, rows_app, un_rStr, un_rInt, un_rAttr, un_rEntry, un_rChange, viaNN, viaNNT, D.nn, addQ, addT, Int.toNat_natCast, IE.isCall, Nat.reduceAdd, Nat.reduceSub, Nat.reduceMul, Nat.reduceLeDiff, Nat.reduceLT, Nat.reduceBEq, Int.reduceToNat, Int.reduceLE, Int.reduceLT, Int.reduceAdd, Int.reduceSub, Int.reduceMul, Int.reduceNeg, Int.reduceEq, Nat.add_zero, Nat.zero_add, Nat.reduceEqDiff, runOpsA, runDA, Option.getD_none, Option.getD_some, stepOp, aval, aact, opv, Ab.get, Ab.put, putO, keep, memN, D.val, D.cond, D.cells?, D.scalar, X.scalar, D.plain, D.isX, binD, bitsD, eqD, unD, intOf?, lenD, okRef, rowsOf, viewD, viewX, freezeD, freezeL, partsD, buildD, slcStr_eq, slcSl_eq, slcStrD, slcSlD, Ob.slice?, Option.bind_some, Option.map_some, Option.bind_none, Option.map_none, Res.some_iff, Bool.and_true, Bool.true_and, Bool.and_false, Bool.false_and, Bool.not_true, Bool.not_false, Bool.or_true, Bool.true_or, Bool.or_false, Bool.false_or, beq_self_eq_true, true_and, and_true, if_true, if_false, ↓reduceIte, List.map_cons, List.map_nil, List.all_cons, List.all_nil, List.mapM_cons, List.mapM_nil, Option.pure_def, Option.bind_eq_bind, List.length_cons, List.length_nil, List.getElem?_cons_zero, List.getElem?_cons_succ, List.cons_append, List.nil_append, List.set_cons_zero, List.set_cons_succ, decide_true, decide_false, Bool.false_eq_true, reduceCtorEq, Bool.cond_true_left, Bool.cond_false_right, Bool.not_eq_true', Bool.not_or_self, Bool.or_not_self, evQ, evK, evC, evA, avalR, prefB, eqR, nzD, actT, callT_eq, callR_eq, callK_eq, callT1, callR1, callK1, valsL, condsL, optV, noTabs, IE.frame, memB, zeroO, bne_self_eq_false, List.drop_zero, List.take_zero, List.drop_succ_cons, List.take_succ_cons, List.drop_nil, List.take_nil, Bool.bne_false, Bool.bne_true, IntWalk.i64_in, tabPo1_r, tabPo1_k, tabPo1_q35, tabPo1_q46, classG, withinG]; rfl) (by first | rfl | omega | (simp; done) | (simp; omega)) ?_
  refine osS (by simp (disch := omega) only [stepOp, aval, opv, Ab.get, Ab.put, putO, Nat.reduceEqDiff, ↓reduceIte, Option.map_some, Option.bind_some, D.val, D.cond, Bool.and_true, Bool.true_and, Bool.false_eq_true, reduceCtorEq, unD, Bool.not_true, Bool.not_false, Bool.or_true, Bool.true_or, Bool.or_false, Bool.false_or, Bool.and_false, Bool.false_and, beq_self_eq_true, or_eqf, Bool.and_self, Bool.not_or_self, Bool.or_not_self, beq_true, beq_false, Bool.not_not]; rfl) (by first | rfl | omega | (simp; done) | (simp; omega)) ?_
  refine osS (by simp (disch := omega) only [stepOp, aval, opv, Ab.get, Ab.put, putO, Nat.reduceEqDiff, ↓reduceIte, Option.map_some, Option.bind_some, D.val, D.cond, Bool.and_true, Bool.true_and, Bool.false_eq_true, reduceCtorEq, Bool.not_true, Bool.not_false, Bool.or_true, Bool.true_or, Bool.or_false, Bool.false_or, Bool.and_false, Bool.false_and, beq_self_eq_true, or_eqf, Bool.and_self, Bool.not_or_self, Bool.or_not_self, beq_true, beq_false, Bool.not_not, Bool.cond_true_left, Bool.cond_false_right, cond_true, cond_false]; rfl) (by first | rfl | omega | (simp; done) | (simp; omega)) ?_
  refine osS (by simp only [stepOp, aval, opv, Ab.get, Ab.put, putO, Nat.reduceEqDiff, ↓reduceIte, Option.map_some, Option.bind_some, D.val, D.cond, Bool.and_true, Bool.true_and, Bool.false_eq_true, reduceCtorEq]; rfl) rfl ?_
  refine osS (by simp (disch := omega) only [stepOp, aval, opv, Ab.get, Ab.put, putO, Nat.reduceEqDiff, ↓reduceIte, Option.map_some, Option.bind_some, D.val, D.cond, Bool.and_true, Bool.true_and, Bool.false_eq_true, reduceCtorEq, Nat.reduceAdd, Nat.add_zero, Nat.zero_add, Bool.not_true, Bool.not_false, Bool.or_true, Bool.true_or, Bool.or_false, Bool.false_or, Bool.and_false, Bool.false_and, beq_self_eq_true, or_eqf, Bool.and_self, Bool.not_or_self, Bool.or_not_self, beq_true, beq_false, Bool.not_not]; rfl) rfl ?_
  refine osS (by simp (disch := omega) only [stepOp, aval, opv, Ab.get, Ab.put, putO, Nat.reduceEqDiff, ↓reduceIte, Option.map_some, Option.bind_some, D.val, D.cond, Bool.and_true, Bool.true_and, Bool.false_eq_true, reduceCtorEq, List.getElem?_cons_zero, List.getElem?_cons_succ, List.drop_zero, List.take_zero, List.drop_succ_cons, List.take_succ_cons, List.drop_nil, List.take_nil, List.length_cons, List.length_nil, List.map_cons, List.map_nil, List.cons_append, List.nil_append, List.set_cons_zero, List.set_cons_succ, Nat.reduceAdd, Nat.add_zero, Nat.zero_add, Nat.reduceLeDiff, if_true, decide_true, rows_len, rows_get, bytes_get, bytes_len, enc_rInt, enc_rStr, enc_rBool, enc_rEnd, enc_rSl, enc_rCat, enc_rVia, Int.toNat_natCast, Int.natCast_nonneg, Ob.slice?, Bool.not_true, Bool.not_false, Bool.or_true, Bool.true_or, Bool.or_false, Bool.false_or, Bool.and_false, Bool.false_and, beq_self_eq_true, or_eqf, Bool.and_self, Bool.not_or_self, Bool.or_not_self, beq_true, beq_false, Bool.not_not]; rfl) (by first | rfl | omega | (simp; done) | (simp; omega)) ?_
  refine osS (by simp (disch := omega) only [Ob.beq_refl, List.reverse_cons, List.reverse_nil, bytes_get, bytes_len, bytes_row, bytes_all, beq_true, beq_false, Bool.not_not, un_nil, all_rStr, all_rInt, all_rAttr, all_rEntry, all_rChange, List.length_replicate, or_eqf, Int.natCast_nonneg, Bool.and_self, enc_rInt, enc_rStr, enc_rBool, enc_rEnd, enc_rSl, enc_rCat, enc_rVia, rows_len, rows_get, rows_drop, rows_take, rows_app, un_rStr, un_rInt, un_rAttr, un_rEntry, un_rChange, viaNN, viaNNT, D.nn, addQ, addT, Int.toNat_natCast, IE.isCall, Nat.reduceAdd, Nat.reduceSub, Nat.reduceMul, Nat.reduceLeDiff, Nat.reduceLT, Nat.reduceBEq, Int.reduceToNat, Int.reduceLE, Int.reduceLT, Int.reduceAdd, Int.reduceSub, Int.reduceMul, Int.reduceNeg, Int.reduceEq, Nat.add_zero, Nat.zero_add, Nat.reduceEqDiff, runOpsA, runDA, Option.getD_none, Option.getD_some, stepOp, aval, aact, opv, Ab.get, Ab.put, putO, keep, memN, D.val, D.cond, D.cells?, D.scalar, X.scalar, D.plain, D.isX, binD, bitsD, eqD, unD, intOf?, lenD, okRef, rowsOf, viewD, viewX, freezeD, freezeL, partsD, buildD, slcStr_eq, slcSl_eq, slcStrD, slcSlD, Ob.slice?, Option.bind_some, Option.map_some, Option.bind_none, Option.map_none, Res.some_iff, Bool.and_true, Bool.true_and, Bool.and_false, Bool.false_and, Bool.not_true, Bool.not_false, Bool.or_true, Bool.true_or, Bool.or_false, Bool.false_or, beq_self_eq_true, true_and, and_true, if_true, if_false, ↓reduceIte, List.map_cons, List.map_nil, List.all_cons, List.all_nil, List.mapM_cons, List.mapM_nil, Option.pure_def, Option.bind_eq_bind, List.length_cons, List.length_nil, List.getElem?_cons_zero, List.getElem?_cons_succ, List.cons_append, List.nil_append, List.set_cons_zero, List.set_cons_succ, decide_true, decide_false, Bool.false_eq_true, reduceCtorEq, Bool.cond_true_left, Bool.cond_false_right, Bool.not_eq_true', Bool.not_or_self, Bool.or_not_self, evQ, evK, evC, evA, avalR, prefB, eqR, nzD, actT, callT_eq, callR_eq, callK_eq, callT1, callR1, callK1, valsL, condsL, optV, noTabs, IE.frame, memB, zeroO, bne_self_eq_false, List.drop_zero, List.take_zero, List.drop_succ_cons, List.take_succ_cons, List.drop_nil, List.take_nil, Bool.bne_false, Bool.bne_true, IntWalk.i64_in, tabPo1_r, tabPo1_k, tabPo1_q35, tabPo1_q46, classG, withinG]; rfl) (by first | rfl | omega | (simp; done) | (simp; omega)) ?_
  refine osS (by simp (disch := omega) only [stepOp, aval, opv, Ab.get, Ab.put, putO, Nat.reduceEqDiff, ↓reduceIte, Option.map_some, Option.bind_some, D.val, D.cond, Bool.and_true, Bool.true_and, Bool.false_eq_true, reduceCtorEq, unD, Bool.not_true, Bool.not_false, Bool.or_true, Bool.true_or, Bool.or_false, Bool.false_or, Bool.and_false, Bool.false_and, beq_self_eq_true, or_eqf, Bool.and_self, Bool.not_or_self, Bool.or_not_self, beq_true, beq_false, Bool.not_not]; rfl) (by first | rfl | omega | (simp; done) | (simp; omega)) ?_
  refine osS (by simp (disch := omega) only [stepOp, aval, opv, Ab.get, Ab.put, putO, Nat.reduceEqDiff, ↓reduceIte, Option.map_some, Option.bind_some, D.val, D.cond, Bool.and_true, Bool.true_and, Bool.false_eq_true, reduceCtorEq, Bool.not_true, Bool.not_false, Bool.or_true, Bool.true_or, Bool.or_false, Bool.false_or, Bool.and_false, Bool.false_and, beq_self_eq_true, or_eqf, Bool.and_self, Bool.not_or_self, Bool.or_not_self, beq_true, beq_false, Bool.not_not, Bool.cond_true_left, Bool.cond_false_right, cond_true, cond_false]; rfl) (by first | rfl | omega | (simp; done) | (simp; omega)) ?_
  refine osN ?_
  simp only [keep, memN, Nat.reduceEqDiff, if_true, if_false, ↓reduceIte, Option.getD_none, Option.getD_some, List.append_nil, List.cons_append, List.nil_append, Bool.false_eq_true]
  refine hK _ _ ?_
  clear hK K
  refine thenQ_normal ?_
  refine WI.cond (b := _) rfl rfl (fun h0 => ?_) (fun h0 => ?_)
  · skip
    refine WI.seq ?_
    refine WI.regA tabPo1_ok [2] (fun K hK => ?_)
    refine osS (by simp only [stepOp, aval, opv, Ab.get, Ab.put, putO, Nat.reduceEqDiff, ↓reduceIte, Option.map_some, Option.bind_some, D.val, D.cond, Bool.and_true, Bool.true_and, Bool.false_eq_true, reduceCtorEq]; rfl) rfl ?_
    refine osN ?_
    simp only [keep, memN, Nat.reduceEqDiff, if_true, if_false, ↓reduceIte, Option.getD_none, Option.getD_some, List.append_nil, List.cons_append, List.nil_append, Bool.false_eq_true]
    refine hK _ _ ?_
    clear hK K
    refine thenQ_normal ?_
    refine WI.ret ?_
    refine thenQ_ret ?_
    refine ⟨.inr rfl, ?_⟩
    -- leaf 0
    simp (disch := omega) only [retD, resD, finD, plainD, freezeD, freezeL, aval, opv, Ab.get, Nat.reduceEqDiff, ↓reduceIte, Option.map_some, Option.bind_some, D.val, D.cond, Bool.and_true, Bool.true_and, List.getElem?_cons_zero, List.getElem?_cons_succ, List.drop_zero, List.take_zero, List.drop_succ_cons, List.take_succ_cons, List.drop_nil, List.take_nil, List.length_cons, List.length_nil, List.map_cons, List.map_nil, List.cons_append, List.nil_append, List.set_cons_zero, List.set_cons_succ, Nat.reduceAdd, Nat.add_zero, Nat.zero_add, Nat.reduceLeDiff, if_true, decide_true, rows_len, rows_get, bytes_get, bytes_len, enc_rInt, enc_rStr, enc_rBool, enc_rEnd, enc_rSl, enc_rCat, enc_rVia, Int.toNat_natCast, Int.natCast_nonneg, Ob.slice?, rows_drop, rows_take, rows_app, List.length_append, List.take_length, Ob.slice?]
    refine ⟨_, _, rfl, ?_⟩
    simp only [mkR]
    rw [if_neg]; intro h; simp [okP] at h h0; omega
  · skip
    refine WI.skip ?_
    refine thenQ_normal ?_
    refine WI.seq ?_
    refine WI.regA tabPo1_ok [2] (fun K hK => ?_)
    refine osS (by simp only [stepOp, aval, opv, Ab.get, Ab.put, putO, Nat.reduceEqDiff, ↓reduceIte, Option.map_some, Option.bind_some, D.val, D.cond, Bool.and_true, Bool.true_and, Bool.false_eq_true, reduceCtorEq]; rfl) rfl ?_
    refine osN ?_
    simp only [keep, memN, Nat.reduceEqDiff, if_true, if_false, ↓reduceIte, Option.getD_none, Option.getD_some, List.append_nil, List.cons_append, List.nil_append, Bool.false_eq_true]
    refine hK _ _ ?_
    clear hK K
    refine thenQ_normal ?_
    refine WI.ret ?_
    refine ⟨.inr rfl, ?_⟩
    -- leaf 1
    simp (disch := omega) only [retD, resD, finD, plainD, freezeD, freezeL, aval, opv, Ab.get, Nat.reduceEqDiff, ↓reduceIte, Option.map_some, Option.bind_some, D.val, D.cond, Bool.and_true, Bool.true_and, List.getElem?_cons_zero, List.getElem?_cons_succ, List.drop_zero, List.take_zero, List.drop_succ_cons, List.take_succ_cons, List.drop_nil, List.take_nil, List.length_cons, List.length_nil, List.map_cons, List.map_nil, List.cons_append, List.nil_append, List.set_cons_zero, List.set_cons_succ, Nat.reduceAdd, Nat.add_zero, Nat.zero_add, Nat.reduceLeDiff, if_true, decide_true, rows_len, rows_get, bytes_get, bytes_len, enc_rInt, enc_rStr, enc_rBool, enc_rEnd, enc_rSl, enc_rCat, enc_rVia, Int.toNat_natCast, Int.natCast_nonneg, Ob.slice?, rows_drop, rows_take, rows_app, List.length_append, List.take_length, Ob.slice?]
    refine ⟨_, _, rfl, ?_⟩
    simp only [mkR]
    rw [if_pos]; simp at h0; simp [okP]; omega
def checkG : List D → Option (Bool × D)
  | [.agg [.x (.int .i64 a), .x (.int .i64 b), .x (.int .i64 c)]] => some (true, .x (.int .i64 (if okP a b c = true then 0 else 2)))
  | _ => none
theorem checkG_ok : ∀ args r, checkG args = some (true, r) → PCalls Try.prog 24 args r := by
  intro args r h
  unfold checkG at h
  split at h
  · cases h; exact check_c _ _ _
  · cases h

/-- Whether a byte of a class is there. -/
def seen (s : List UInt8) (k : Nat) : Bool := s.any fun b => decide (cls (b.toNat : Int) = k)
theorem seen_snoc (s : List UInt8) (b : UInt8) (k : Nat) : seen (s ++ [b]) k = (seen s k || decide (cls (b.toNat : Int) = k)) := by simp [seen]
theorem seen_take (s : List UInt8) (i : Nat) (h : i < s.length) (k : Nat) : seen (s.take (i + 1)) k = (seen (s.take i) k || decide (cls (s[i].toNat : Int) = k)) := by
  rw [List.take_add_one, List.getElem?_eq_getElem h, Option.toList_some, seen_snoc]
def cnt (s : List UInt8) : Nat → Nat
  | 0 => 0
  | k + 1 => cnt s k + (if seen s k = true then 1 else 0)
theorem cnt_le (s : List UInt8) : ∀ k, cnt s k ≤ k
  | 0 => Nat.le_refl _
  | k + 1 => by have := cnt_le s k; simp only [cnt]; split <;> omega

theorem seen_of (s : List UInt8) (k i : Nat) (h : i < s.length) (hc : cls ((s.getD i 0).toNat : Int) = k) : seen s k = true := by
  unfold seen
  rw [List.any_eq_true]
  refine ⟨s[i], List.getElem_mem h, ?_⟩
  simpa [List.getD, h] using hc
theorem seen_no (s : List UInt8) (k i : Nat) (h : i < s.length) (he : seen (s.take i) k = false) (hc : ¬ cls ((s.getD i 0).toNat : Int) = k) : seen (s.take (i + 1)) k = false := by
  rw [seen_take s i h, he]
  simpa [List.getD, h] using hc
set_option maxHeartbeats 1000000 in
theorem has_c (s : List UInt8) (k : Nat) (hs : s.length ≤ 9223372036854775807) : PCalls Try.prog 38 [.x (.str s), .x (.int .i64 k)] (.x (.bool (seen s k))) := by
  refine FCalls.pure (fcallsG (fz := true) G_ok (p := i38) rfl _ (Nat.le_of_ble_eq_true rfl) _ (fun c E0 => ?_)) rfl
  dsimp only [i38, argsφ]
  refine WI.seq ?_
  refine WI.regA noTabs_ok [0, 1] (fun K hK => ?_)
  refine osS (by simp only [stepOp, aval, opv, Ab.get, Ab.put, putO, Nat.reduceEqDiff, ↓reduceIte, Option.map_some, Option.bind_some, D.val, D.cond, Bool.and_true, Bool.true_and, Bool.false_eq_true, reduceCtorEq]; rfl) rfl ?_
  refine osN ?_
  simp only [keep, memN, Nat.reduceEqDiff, if_true, if_false, ↓reduceIte, Option.getD_none, Option.getD_some, List.append_nil, List.cons_append, List.nil_append, Bool.false_eq_true]
  refine hK _ _ ?_
  clear hK K
  refine thenQ_normal ?_
  refine WI.seq ?_
  refine WI.seq ?_
  refine WI.regA noTabs_ok [0, 1, 5] (fun K hK => ?_)
  refine osS (by simp only [stepOp, aval, opv, Ab.get, Ab.put, putO, Nat.reduceEqDiff, ↓reduceIte, Option.map_some, Option.bind_some, D.val, D.cond, Bool.and_true, Bool.true_and, Bool.false_eq_true, reduceCtorEq]; rfl) rfl ?_
  refine osN ?_
  simp only [keep, memN, Nat.reduceEqDiff, if_true, if_false, ↓reduceIte, Option.getD_none, Option.getD_some, List.append_nil, List.cons_append, List.nil_append, Bool.false_eq_true]
  refine hK _ _ ?_
  clear hK K
  refine thenQ_normal ?_
  refine WI.block ?_
  refine WI.loop (fun φ os => ∃ i : Nat, φ = [(0, .x (.str s)), (1, .x (.int .i64 k)), (5, .x (.int .i64 i))] ∧ os = [] ∧ i ≤ s.length ∧ seen (s.take i) k = false) (down s.length 5) ?_ (fun φ os hI => ?_)
  · exact ⟨0, rfl, rfl, by omega, by simp [seen]⟩
  · obtain ⟨i, rfl, rfl, hi, he⟩ := hI
    refine WI.seq ?_
    refine WI.seq ?_
    refine WI.regA noTabs_ok [0, 1, 5, 11] (fun K hK => ?_)
    refine osS (by simp only [stepOp, aval, opv, Ab.get, Ab.put, putO, Nat.reduceEqDiff, ↓reduceIte, Option.map_some, Option.bind_some, D.val, D.cond, Bool.and_true, Bool.true_and, Bool.false_eq_true, reduceCtorEq]; rfl) rfl ?_
    refine osS (by simp only [stepOp, aval, opv, Ab.get, Ab.put, putO, Nat.reduceEqDiff, ↓reduceIte, Option.map_some, Option.bind_some, D.val, D.cond, Bool.and_true, Bool.true_and, Bool.false_eq_true, reduceCtorEq]; rfl) rfl ?_
    refine osS (by simp (disch := omega) only [stepOp, aval, opv, Ab.get, Ab.put, putO, Nat.reduceEqDiff, ↓reduceIte, Option.map_some, Option.bind_some, D.val, D.cond, Bool.and_true, Bool.true_and, Bool.false_eq_true, reduceCtorEq, lenD, okRef, List.getElem?_cons_zero, List.getElem?_cons_succ, List.drop_zero, List.take_zero, List.drop_succ_cons, List.take_succ_cons, List.drop_nil, List.take_nil, List.length_cons, List.length_nil, List.map_cons, List.map_nil, List.cons_append, List.nil_append, List.set_cons_zero, List.set_cons_succ, Nat.reduceAdd, Nat.add_zero, Nat.zero_add, Nat.reduceLeDiff, if_true, decide_true, rows_len, rows_get, bytes_get, bytes_len, enc_rInt, enc_rStr, enc_rBool, enc_rEnd, enc_rSl, enc_rCat, enc_rVia, Int.toNat_natCast, Int.natCast_nonneg, Ob.slice?]; rfl) (by first | rfl | omega | (simp; done) | (simp; omega)) ?_
    refine osS (by simp (disch := omega) only [stepOp, aval, opv, Ab.get, Ab.put, putO, Nat.reduceEqDiff, ↓reduceIte, Option.map_some, Option.bind_some, D.val, D.cond, Bool.and_true, Bool.true_and, Bool.false_eq_true, reduceCtorEq, binD, bitsD, Nat.reduceAdd, Nat.reduceSub, Nat.reduceMul, Nat.reduceLeDiff, Nat.add_zero, Nat.zero_add, Int.reduceToNat, Int.reduceLE, Int.reduceLT, Int.reduceAdd, Int.reduceSub, Int.reduceMul, Int.reduceNeg, Int.reduceEq, Int.toNat_natCast, Int.natCast_nonneg, decide_true, decide_false, IntWalk.i64_in, Bool.not_true, Bool.not_false, Bool.or_true, Bool.true_or, Bool.or_false, Bool.false_or, Bool.and_false, Bool.false_and, beq_self_eq_true, or_eqf, Bool.and_self, Bool.not_or_self, Bool.or_not_self, beq_true, beq_false, Bool.not_not, bne_self_eq_false]; rfl) (by first | rfl | omega | (simp; done) | (simp; omega)) ?_
    refine osN ?_
    simp only [keep, memN, Nat.reduceEqDiff, if_true, if_false, ↓reduceIte, Option.getD_none, Option.getD_some, List.append_nil, List.cons_append, List.nil_append, Bool.false_eq_true]
    refine hK _ _ ?_
    clear hK K
    refine thenQ_normal ?_
    refine WI.cond (b := _) rfl rfl (fun h0 => ?_) (fun h0 => ?_)
    · try simp only [Bool.or_eq_true, Bool.and_eq_true, Bool.not_eq_true', Bool.or_eq_false_iff, Bool.and_eq_false_iff, Bool.not_eq_false', decide_eq_true_eq, decide_eq_false_iff_not, Bool.not_eq_true, gt_iff_lt, ge_iff_le, Int.not_lt, Int.not_le, bne_iff_ne, ne_eq, beq_iff_eq, bne_eq_false_iff_eq, beq_eq_false_iff_ne] at h0
      refine WI.skip ?_
      refine thenQ_normal ?_
      refine WI.seq ?_
      refine WI.block ?_
      refine WI.seq ?_
      refine WI.regA noTabs_ok [0, 1, 5, 6, 7] (fun K hK => ?_)
      refine osS (by simp only [stepOp, aval, opv, Ab.get, Ab.put, putO, Nat.reduceEqDiff, ↓reduceIte, Option.map_some, Option.bind_some, D.val, D.cond, Bool.and_true, Bool.true_and, Bool.false_eq_true, reduceCtorEq]; rfl) rfl ?_
      refine osS (by simp only [stepOp, aval, opv, Ab.get, Ab.put, putO, Nat.reduceEqDiff, ↓reduceIte, Option.map_some, Option.bind_some, D.val, D.cond, Bool.and_true, Bool.true_and, Bool.false_eq_true, reduceCtorEq]; rfl) rfl ?_
      refine osS (by simp (disch := omega) only [stepOp, aval, opv, Ab.get, Ab.put, putO, Nat.reduceEqDiff, ↓reduceIte, Option.map_some, Option.bind_some, D.val, D.cond, Bool.and_true, Bool.true_and, Bool.false_eq_true, reduceCtorEq, aact, actT, IE.isCall, D.cells?, List.getElem?_cons_zero, List.getElem?_cons_succ, List.drop_zero, List.take_zero, List.drop_succ_cons, List.take_succ_cons, List.drop_nil, List.take_nil, List.length_cons, List.length_nil, List.map_cons, List.map_nil, List.cons_append, List.nil_append, List.set_cons_zero, List.set_cons_succ, Nat.reduceAdd, Nat.add_zero, Nat.zero_add, Nat.reduceLeDiff, if_true, decide_true, rows_len, rows_get, bytes_get, bytes_len, enc_rInt, enc_rStr, enc_rBool, enc_rEnd, enc_rSl, enc_rCat, enc_rVia, Int.toNat_natCast, Int.natCast_nonneg, Ob.slice?, Nat.reduceSub, Nat.reduceMul, Int.reduceToNat, Int.reduceLE, Int.reduceLT, Int.reduceAdd, Int.reduceSub, Int.reduceMul, Int.reduceNeg, Int.reduceEq, decide_false, IntWalk.i64_in, Bool.not_true, Bool.not_false, Bool.or_true, Bool.true_or, Bool.or_false, Bool.false_or, Bool.and_false, Bool.false_and, beq_self_eq_true, or_eqf, Bool.and_self, Bool.not_or_self, Bool.or_not_self, beq_true, beq_false, Bool.not_not, rowsOf, okRef, intOf?, partsD, freezeL, freezeD, buildD, slcStr_eq, slcSl_eq, slcStrD, slcSlD, optV, zeroO, eqR, eqD, nzD, binD, unD, lenD, rows_drop, rows_take, rows_app, all_rStr, all_rInt, all_rAttr, all_rEntry, all_rChange, bytes_row, bytes_all, List.length_replicate, evK, evC, Option.map_none, Option.bind_none, Bool.cond_true_left, Bool.cond_false_right, List.reverse_cons, List.reverse_nil, List.mapM_cons, List.mapM_nil, Option.pure_def, Option.bind_eq_bind, true_and, and_true, if_false, bne_self_eq_false, List.all_cons, List.all_nil, Nat.reduceLT]; rfl) (by first | rfl | omega | (simp; done) | (simp; omega)) ?_
      refine osS (by simp only [stepOp, aval, opv, Ab.get, Ab.put, putO, Nat.reduceEqDiff, ↓reduceIte, Option.map_some, Option.bind_some, D.val, D.cond, Bool.and_true, Bool.true_and, Bool.false_eq_true, reduceCtorEq]; rfl) rfl ?_
      refine osS (by simp only [stepOp, aval, opv, Ab.get, Ab.put, putO, Nat.reduceEqDiff, ↓reduceIte, Option.map_some, Option.bind_some, D.val, D.cond, Bool.and_true, Bool.true_and, Bool.false_eq_true, reduceCtorEq]; rfl) rfl ?_
      refine osN ?_
      simp only [keep, memN, Nat.reduceEqDiff, if_true, if_false, ↓reduceIte, Option.getD_none, Option.getD_some, List.append_nil, List.cons_append, List.nil_append, Bool.false_eq_true]
      refine hK _ _ ?_
      clear hK K
      refine thenQ_normal ?_
      refine WI.seq ?_
      refine WI.block ?_
      refine WI.seq ?_
      refine WI.regA noTabs_ok [0, 1, 5, 6, 7, 17] (fun K hK => ?_)
      refine osS (by simp only [stepOp, aval, opv, Ab.get, Ab.put, putO, Nat.reduceEqDiff, ↓reduceIte, Option.map_some, Option.bind_some, D.val, D.cond, Bool.and_true, Bool.true_and, Bool.false_eq_true, reduceCtorEq]; rfl) rfl ?_
      refine osS (by simp (disch := omega) only [stepOp, aval, opv, Ab.get, Ab.put, putO, Nat.reduceEqDiff, ↓reduceIte, Option.map_some, Option.bind_some, D.val, D.cond, Bool.and_true, Bool.true_and, Bool.false_eq_true, reduceCtorEq, binD, bitsD, Nat.reduceAdd, Nat.reduceSub, Nat.reduceMul, Nat.reduceLeDiff, Nat.add_zero, Nat.zero_add, Int.reduceToNat, Int.reduceLE, Int.reduceLT, Int.reduceAdd, Int.reduceSub, Int.reduceMul, Int.reduceNeg, Int.reduceEq, Int.toNat_natCast, Int.natCast_nonneg, decide_true, decide_false, IntWalk.i64_in, Bool.not_true, Bool.not_false, Bool.or_true, Bool.true_or, Bool.or_false, Bool.false_or, Bool.and_false, Bool.false_and, beq_self_eq_true, or_eqf, Bool.and_self, Bool.not_or_self, Bool.or_not_self, beq_true, beq_false, Bool.not_not, bne_self_eq_false]; rfl) (by first | rfl | omega | (simp; done) | (simp; omega)) ?_
      refine osS (by simp only [stepOp, aval, opv, Ab.get, Ab.put, putO, Nat.reduceEqDiff, ↓reduceIte, Option.map_some, Option.bind_some, D.val, D.cond, Bool.and_true, Bool.true_and, Bool.false_eq_true, reduceCtorEq]; rfl) rfl ?_
      refine osS (by simp (disch := omega) only [stepOp, aval, opv, Ab.get, Ab.put, putO, Nat.reduceEqDiff, ↓reduceIte, Option.map_some, Option.bind_some, D.val, D.cond, Bool.and_true, Bool.true_and, Bool.false_eq_true, reduceCtorEq, Bool.not_true, Bool.not_false, Bool.or_true, Bool.true_or, Bool.or_false, Bool.false_or, Bool.and_false, Bool.false_and, beq_self_eq_true, or_eqf, Bool.and_self, Bool.not_or_self, Bool.or_not_self, beq_true, beq_false, Bool.not_not]; rfl) rfl ?_
      refine osS (by simp (disch := omega) only [stepOp, aval, opv, Ab.get, Ab.put, putO, Nat.reduceEqDiff, ↓reduceIte, Option.map_some, Option.bind_some, D.val, D.cond, Bool.and_true, Bool.true_and, Bool.false_eq_true, reduceCtorEq, binD, bitsD, Nat.reduceAdd, Nat.reduceSub, Nat.reduceMul, Nat.reduceLeDiff, Nat.add_zero, Nat.zero_add, Int.reduceToNat, Int.reduceLE, Int.reduceLT, Int.reduceAdd, Int.reduceSub, Int.reduceMul, Int.reduceNeg, Int.reduceEq, Int.toNat_natCast, Int.natCast_nonneg, decide_true, decide_false, IntWalk.i64_in, Bool.not_true, Bool.not_false, Bool.or_true, Bool.true_or, Bool.or_false, Bool.false_or, Bool.and_false, Bool.false_and, beq_self_eq_true, or_eqf, Bool.and_self, Bool.not_or_self, Bool.or_not_self, beq_true, beq_false, Bool.not_not, bne_self_eq_false]; rfl) (by first | rfl | omega | (simp; done) | (simp; omega)) ?_
      refine osS (by simp (disch := omega) only [stepOp, aval, opv, Ab.get, Ab.put, putO, Nat.reduceEqDiff, ↓reduceIte, Option.map_some, Option.bind_some, D.val, D.cond, Bool.and_true, Bool.true_and, Bool.false_eq_true, reduceCtorEq, Bool.not_true, Bool.not_false, Bool.or_true, Bool.true_or, Bool.or_false, Bool.false_or, Bool.and_false, Bool.false_and, beq_self_eq_true, or_eqf, Bool.and_self, Bool.not_or_self, Bool.or_not_self, beq_true, beq_false, Bool.not_not, Bool.cond_true_left, Bool.cond_false_right, cond_true, cond_false]; rfl) (by first | rfl | omega | (simp; done) | (simp; omega)) ?_
      refine osS (by simp only [stepOp, aval, opv, Ab.get, Ab.put, putO, Nat.reduceEqDiff, ↓reduceIte, Option.map_some, Option.bind_some, D.val, D.cond, Bool.and_true, Bool.true_and, Bool.false_eq_true, reduceCtorEq]; rfl) rfl ?_
      refine osN ?_
      simp only [keep, memN, Nat.reduceEqDiff, if_true, if_false, ↓reduceIte, Option.getD_none, Option.getD_some, List.append_nil, List.cons_append, List.nil_append, Bool.false_eq_true]
      refine hK _ _ ?_
      clear hK K
      refine thenQ_normal ?_
      refine WI.cond (b := _) rfl rfl (fun h1 => ?_) (fun h1 => ?_)
      · try simp only [Bool.or_eq_true, Bool.and_eq_true, Bool.not_eq_true', Bool.or_eq_false_iff, Bool.and_eq_false_iff, Bool.not_eq_false', decide_eq_true_eq, decide_eq_false_iff_not, Bool.not_eq_true, gt_iff_lt, ge_iff_le, Int.not_lt, Int.not_le, bne_iff_ne, ne_eq, beq_iff_eq, bne_eq_false_iff_eq, beq_eq_false_iff_ne] at h1
        refine WI.regA noTabs_ok [0, 1, 5, 7] (fun K hK => ?_)
        refine osS (by simp only [stepOp, aval, opv, Ab.get, Ab.put, putO, Nat.reduceEqDiff, ↓reduceIte, Option.map_some, Option.bind_some, D.val, D.cond, Bool.and_true, Bool.true_and, Bool.false_eq_true, reduceCtorEq]; rfl) rfl ?_
        refine osN ?_
        simp only [keep, memN, Nat.reduceEqDiff, if_true, if_false, ↓reduceIte, Option.getD_none, Option.getD_some, List.append_nil, List.cons_append, List.nil_append, Bool.false_eq_true]
        refine hK _ _ ?_
        clear hK K
        refine blockQ_normal ?_
        refine thenQ_normal ?_
        refine WI.seq ?_
        refine WI.regA noTabs_ok [0, 1, 5, 40] (fun K hK => ?_)
        refine osS (by simp only [stepOp, aval, opv, Ab.get, Ab.put, putO, Nat.reduceEqDiff, ↓reduceIte, Option.map_some, Option.bind_some, D.val, D.cond, Bool.and_true, Bool.true_and, Bool.false_eq_true, reduceCtorEq]; rfl) rfl ?_
        refine osS (by simp only [stepOp, aval, opv, Ab.get, Ab.put, putO, Nat.reduceEqDiff, ↓reduceIte, Option.map_some, Option.bind_some, D.val, D.cond, Bool.and_true, Bool.true_and, Bool.false_eq_true, reduceCtorEq]; rfl) rfl ?_
        refine osS (by simp (disch := omega) only [stepOp, aval, opv, Ab.get, Ab.put, putO, Nat.reduceEqDiff, ↓reduceIte, Option.map_some, Option.bind_some, D.val, D.cond, Bool.and_true, Bool.true_and, Bool.false_eq_true, reduceCtorEq, binD, bitsD, Nat.reduceAdd, Nat.reduceSub, Nat.reduceMul, Nat.reduceLeDiff, Nat.add_zero, Nat.zero_add, Int.reduceToNat, Int.reduceLE, Int.reduceLT, Int.reduceAdd, Int.reduceSub, Int.reduceMul, Int.reduceNeg, Int.reduceEq, Int.toNat_natCast, Int.natCast_nonneg, decide_true, decide_false, IntWalk.i64_in, Bool.not_true, Bool.not_false, Bool.or_true, Bool.true_or, Bool.or_false, Bool.false_or, Bool.and_false, Bool.false_and, beq_self_eq_true, or_eqf, Bool.and_self, Bool.not_or_self, Bool.or_not_self, beq_true, beq_false, Bool.not_not, bne_self_eq_false]; rfl) (by first | rfl | omega | (simp; done) | (simp; omega)) ?_
        refine osN ?_
        simp only [keep, memN, Nat.reduceEqDiff, if_true, if_false, ↓reduceIte, Option.getD_none, Option.getD_some, List.append_nil, List.cons_append, List.nil_append, Bool.false_eq_true]
        refine hK _ _ ?_
        clear hK K
        refine thenQ_normal ?_
        refine WI.cond (b := _) rfl rfl (fun h4 => ?_) (fun h4 => ?_)
        · try simp only [Bool.or_eq_true, Bool.and_eq_true, Bool.not_eq_true', Bool.or_eq_false_iff, Bool.and_eq_false_iff, Bool.not_eq_false', decide_eq_true_eq, decide_eq_false_iff_not, Bool.not_eq_true, gt_iff_lt, ge_iff_le, Int.not_lt, Int.not_le, bne_iff_ne, ne_eq, beq_iff_eq, bne_eq_false_iff_eq, beq_eq_false_iff_ne] at h4
          refine WI.seq ?_
          refine WI.regA noTabs_ok [4] (fun K hK => ?_)
          refine osS (by simp only [stepOp, aval, opv, Ab.get, Ab.put, putO, Nat.reduceEqDiff, ↓reduceIte, Option.map_some, Option.bind_some, D.val, D.cond, Bool.and_true, Bool.true_and, Bool.false_eq_true, reduceCtorEq]; rfl) rfl ?_
          refine osN ?_
          simp only [keep, memN, Nat.reduceEqDiff, if_true, if_false, ↓reduceIte, Option.getD_none, Option.getD_some, List.append_nil, List.cons_append, List.nil_append, Bool.false_eq_true]
          refine hK _ _ ?_
          clear hK K
          refine thenQ_normal ?_
          refine WI.ret ?_
          refine blockQ_ret ?_
          refine thenQ_ret ?_
          refine thenQ_ret ?_
          refine blockQ_ret ?_
          refine thenQ_ret ?_
          refine ⟨.inr rfl, ?_⟩
          -- leaf 0
          simp (disch := omega) only [retD, resD, finD, plainD, freezeD, freezeL, aval, opv, Ab.get, Nat.reduceEqDiff, ↓reduceIte, Option.map_some, Option.bind_some, D.val, D.cond, Bool.and_true, Bool.true_and, List.getElem?_cons_zero, List.getElem?_cons_succ, List.drop_zero, List.take_zero, List.drop_succ_cons, List.take_succ_cons, List.drop_nil, List.take_nil, List.length_cons, List.length_nil, List.map_cons, List.map_nil, List.cons_append, List.nil_append, List.set_cons_zero, List.set_cons_succ, Nat.reduceAdd, Nat.add_zero, Nat.zero_add, Nat.reduceLeDiff, if_true, decide_true, rows_len, rows_get, bytes_get, bytes_len, enc_rInt, enc_rStr, enc_rBool, enc_rEnd, enc_rSl, enc_rCat, enc_rVia, Int.toNat_natCast, Int.natCast_nonneg, Ob.slice?, rows_drop, rows_take, rows_app, List.length_append, List.take_length, Ob.slice?]
          refine ⟨_, _, rfl, ?_⟩
          simp only [mkR]
          rw [seen_of s k i (by omega) (by unfold cls; split <;> (try split) <;> (try split) <;> omega)]
        · try simp only [Bool.or_eq_true, Bool.and_eq_true, Bool.not_eq_true', Bool.or_eq_false_iff, Bool.and_eq_false_iff, Bool.not_eq_false', decide_eq_true_eq, decide_eq_false_iff_not, Bool.not_eq_true, gt_iff_lt, ge_iff_le, Int.not_lt, Int.not_le, bne_iff_ne, ne_eq, beq_iff_eq, bne_eq_false_iff_eq, beq_eq_false_iff_ne] at h4
          refine WI.skip ?_
          refine blockQ_normal ?_
          refine thenQ_normal ?_
          refine WI.regA noTabs_ok [0, 1, 5] (fun K hK => ?_)
          refine osS (by simp only [stepOp, aval, opv, Ab.get, Ab.put, putO, Nat.reduceEqDiff, ↓reduceIte, Option.map_some, Option.bind_some, D.val, D.cond, Bool.and_true, Bool.true_and, Bool.false_eq_true, reduceCtorEq]; rfl) rfl ?_
          refine osS (by simp (disch := omega) only [stepOp, aval, opv, Ab.get, Ab.put, putO, Nat.reduceEqDiff, ↓reduceIte, Option.map_some, Option.bind_some, D.val, D.cond, Bool.and_true, Bool.true_and, Bool.false_eq_true, reduceCtorEq, binD, bitsD, Nat.reduceAdd, Nat.reduceSub, Nat.reduceMul, Nat.reduceLeDiff, Nat.add_zero, Nat.zero_add, Int.reduceToNat, Int.reduceLE, Int.reduceLT, Int.reduceAdd, Int.reduceSub, Int.reduceMul, Int.reduceNeg, Int.reduceEq, Int.toNat_natCast, Int.natCast_nonneg, decide_true, decide_false, IntWalk.i64_in, Bool.not_true, Bool.not_false, Bool.or_true, Bool.true_or, Bool.or_false, Bool.false_or, Bool.and_false, Bool.false_and, beq_self_eq_true, or_eqf, Bool.and_self, Bool.not_or_self, Bool.or_not_self, beq_true, beq_false, Bool.not_not, bne_self_eq_false]; rfl) (by first | rfl | omega | (simp; done) | (simp; omega)) ?_
          refine osS (by simp only [stepOp, aval, opv, Ab.get, Ab.put, putO, Nat.reduceEqDiff, ↓reduceIte, Option.map_some, Option.bind_some, D.val, D.cond, Bool.and_true, Bool.true_and, Bool.false_eq_true, reduceCtorEq]; rfl) rfl ?_
          refine osN ?_
          simp only [keep, memN, Nat.reduceEqDiff, if_true, if_false, ↓reduceIte, Option.getD_none, Option.getD_some, List.append_nil, List.cons_append, List.nil_append, Bool.false_eq_true]
          refine hK _ _ ?_
          clear hK K
          refine thenQ_normal ?_
          exact ⟨⟨i + 1, by simp, rfl, by omega, seen_no s k i (by omega) he (by unfold cls; split <;> (try split) <;> (try split) <;> omega)⟩, by simp [down, Ab.get, D.val, intOf?]; omega⟩
      · try simp only [Bool.or_eq_true, Bool.and_eq_true, Bool.not_eq_true', Bool.or_eq_false_iff, Bool.and_eq_false_iff, Bool.not_eq_false', decide_eq_true_eq, decide_eq_false_iff_not, Bool.not_eq_true, gt_iff_lt, ge_iff_le, Int.not_lt, Int.not_le, bne_iff_ne, ne_eq, beq_iff_eq, bne_eq_false_iff_eq, beq_eq_false_iff_ne] at h1
        refine WI.seq ?_
        refine WI.regA noTabs_ok [0, 1, 5, 6, 7, 24] (fun K hK => ?_)
        refine osS (by simp only [stepOp, aval, opv, Ab.get, Ab.put, putO, Nat.reduceEqDiff, ↓reduceIte, Option.map_some, Option.bind_some, D.val, D.cond, Bool.and_true, Bool.true_and, Bool.false_eq_true, reduceCtorEq]; rfl) rfl ?_
        refine osS (by simp (disch := omega) only [stepOp, aval, opv, Ab.get, Ab.put, putO, Nat.reduceEqDiff, ↓reduceIte, Option.map_some, Option.bind_some, D.val, D.cond, Bool.and_true, Bool.true_and, Bool.false_eq_true, reduceCtorEq, binD, bitsD, Nat.reduceAdd, Nat.reduceSub, Nat.reduceMul, Nat.reduceLeDiff, Nat.add_zero, Nat.zero_add, Int.reduceToNat, Int.reduceLE, Int.reduceLT, Int.reduceAdd, Int.reduceSub, Int.reduceMul, Int.reduceNeg, Int.reduceEq, Int.toNat_natCast, Int.natCast_nonneg, decide_true, decide_false, IntWalk.i64_in, Bool.not_true, Bool.not_false, Bool.or_true, Bool.true_or, Bool.or_false, Bool.false_or, Bool.and_false, Bool.false_and, beq_self_eq_true, or_eqf, Bool.and_self, Bool.not_or_self, Bool.or_not_self, beq_true, beq_false, Bool.not_not, bne_self_eq_false]; rfl) (by first | rfl | omega | (simp; done) | (simp; omega)) ?_
        refine osS (by simp only [stepOp, aval, opv, Ab.get, Ab.put, putO, Nat.reduceEqDiff, ↓reduceIte, Option.map_some, Option.bind_some, D.val, D.cond, Bool.and_true, Bool.true_and, Bool.false_eq_true, reduceCtorEq]; rfl) rfl ?_
        refine osS (by simp (disch := omega) only [stepOp, aval, opv, Ab.get, Ab.put, putO, Nat.reduceEqDiff, ↓reduceIte, Option.map_some, Option.bind_some, D.val, D.cond, Bool.and_true, Bool.true_and, Bool.false_eq_true, reduceCtorEq, Bool.not_true, Bool.not_false, Bool.or_true, Bool.true_or, Bool.or_false, Bool.false_or, Bool.and_false, Bool.false_and, beq_self_eq_true, or_eqf, Bool.and_self, Bool.not_or_self, Bool.or_not_self, beq_true, beq_false, Bool.not_not]; rfl) rfl ?_
        refine osS (by simp (disch := omega) only [stepOp, aval, opv, Ab.get, Ab.put, putO, Nat.reduceEqDiff, ↓reduceIte, Option.map_some, Option.bind_some, D.val, D.cond, Bool.and_true, Bool.true_and, Bool.false_eq_true, reduceCtorEq, binD, bitsD, Nat.reduceAdd, Nat.reduceSub, Nat.reduceMul, Nat.reduceLeDiff, Nat.add_zero, Nat.zero_add, Int.reduceToNat, Int.reduceLE, Int.reduceLT, Int.reduceAdd, Int.reduceSub, Int.reduceMul, Int.reduceNeg, Int.reduceEq, Int.toNat_natCast, Int.natCast_nonneg, decide_true, decide_false, IntWalk.i64_in, Bool.not_true, Bool.not_false, Bool.or_true, Bool.true_or, Bool.or_false, Bool.false_or, Bool.and_false, Bool.false_and, beq_self_eq_true, or_eqf, Bool.and_self, Bool.not_or_self, Bool.or_not_self, beq_true, beq_false, Bool.not_not, bne_self_eq_false]; rfl) (by first | rfl | omega | (simp; done) | (simp; omega)) ?_
        refine osS (by simp (disch := omega) only [stepOp, aval, opv, Ab.get, Ab.put, putO, Nat.reduceEqDiff, ↓reduceIte, Option.map_some, Option.bind_some, D.val, D.cond, Bool.and_true, Bool.true_and, Bool.false_eq_true, reduceCtorEq, Bool.not_true, Bool.not_false, Bool.or_true, Bool.true_or, Bool.or_false, Bool.false_or, Bool.and_false, Bool.false_and, beq_self_eq_true, or_eqf, Bool.and_self, Bool.not_or_self, Bool.or_not_self, beq_true, beq_false, Bool.not_not, Bool.cond_true_left, Bool.cond_false_right, cond_true, cond_false]; rfl) (by first | rfl | omega | (simp; done) | (simp; omega)) ?_
        refine osS (by simp only [stepOp, aval, opv, Ab.get, Ab.put, putO, Nat.reduceEqDiff, ↓reduceIte, Option.map_some, Option.bind_some, D.val, D.cond, Bool.and_true, Bool.true_and, Bool.false_eq_true, reduceCtorEq]; rfl) rfl ?_
        refine osN ?_
        simp only [keep, memN, Nat.reduceEqDiff, if_true, if_false, ↓reduceIte, Option.getD_none, Option.getD_some, List.append_nil, List.cons_append, List.nil_append, Bool.false_eq_true]
        refine hK _ _ ?_
        clear hK K
        refine thenQ_normal ?_
        refine WI.cond (b := _) rfl rfl (fun h2 => ?_) (fun h2 => ?_)
        · try simp only [Bool.or_eq_true, Bool.and_eq_true, Bool.not_eq_true', Bool.or_eq_false_iff, Bool.and_eq_false_iff, Bool.not_eq_false', decide_eq_true_eq, decide_eq_false_iff_not, Bool.not_eq_true, gt_iff_lt, ge_iff_le, Int.not_lt, Int.not_le, bne_iff_ne, ne_eq, beq_iff_eq, bne_eq_false_iff_eq, beq_eq_false_iff_ne] at h2
          refine WI.regA noTabs_ok [0, 1, 5, 7] (fun K hK => ?_)
          refine osS (by simp only [stepOp, aval, opv, Ab.get, Ab.put, putO, Nat.reduceEqDiff, ↓reduceIte, Option.map_some, Option.bind_some, D.val, D.cond, Bool.and_true, Bool.true_and, Bool.false_eq_true, reduceCtorEq]; rfl) rfl ?_
          refine osN ?_
          simp only [keep, memN, Nat.reduceEqDiff, if_true, if_false, ↓reduceIte, Option.getD_none, Option.getD_some, List.append_nil, List.cons_append, List.nil_append, Bool.false_eq_true]
          refine hK _ _ ?_
          clear hK K
          refine blockQ_normal ?_
          refine thenQ_normal ?_
          refine WI.seq ?_
          refine WI.regA noTabs_ok [0, 1, 5, 40] (fun K hK => ?_)
          refine osS (by simp only [stepOp, aval, opv, Ab.get, Ab.put, putO, Nat.reduceEqDiff, ↓reduceIte, Option.map_some, Option.bind_some, D.val, D.cond, Bool.and_true, Bool.true_and, Bool.false_eq_true, reduceCtorEq]; rfl) rfl ?_
          refine osS (by simp only [stepOp, aval, opv, Ab.get, Ab.put, putO, Nat.reduceEqDiff, ↓reduceIte, Option.map_some, Option.bind_some, D.val, D.cond, Bool.and_true, Bool.true_and, Bool.false_eq_true, reduceCtorEq]; rfl) rfl ?_
          refine osS (by simp (disch := omega) only [stepOp, aval, opv, Ab.get, Ab.put, putO, Nat.reduceEqDiff, ↓reduceIte, Option.map_some, Option.bind_some, D.val, D.cond, Bool.and_true, Bool.true_and, Bool.false_eq_true, reduceCtorEq, binD, bitsD, Nat.reduceAdd, Nat.reduceSub, Nat.reduceMul, Nat.reduceLeDiff, Nat.add_zero, Nat.zero_add, Int.reduceToNat, Int.reduceLE, Int.reduceLT, Int.reduceAdd, Int.reduceSub, Int.reduceMul, Int.reduceNeg, Int.reduceEq, Int.toNat_natCast, Int.natCast_nonneg, decide_true, decide_false, IntWalk.i64_in, Bool.not_true, Bool.not_false, Bool.or_true, Bool.true_or, Bool.or_false, Bool.false_or, Bool.and_false, Bool.false_and, beq_self_eq_true, or_eqf, Bool.and_self, Bool.not_or_self, Bool.or_not_self, beq_true, beq_false, Bool.not_not, bne_self_eq_false]; rfl) (by first | rfl | omega | (simp; done) | (simp; omega)) ?_
          refine osN ?_
          simp only [keep, memN, Nat.reduceEqDiff, if_true, if_false, ↓reduceIte, Option.getD_none, Option.getD_some, List.append_nil, List.cons_append, List.nil_append, Bool.false_eq_true]
          refine hK _ _ ?_
          clear hK K
          refine thenQ_normal ?_
          refine WI.cond (b := _) rfl rfl (fun h4 => ?_) (fun h4 => ?_)
          · try simp only [Bool.or_eq_true, Bool.and_eq_true, Bool.not_eq_true', Bool.or_eq_false_iff, Bool.and_eq_false_iff, Bool.not_eq_false', decide_eq_true_eq, decide_eq_false_iff_not, Bool.not_eq_true, gt_iff_lt, ge_iff_le, Int.not_lt, Int.not_le, bne_iff_ne, ne_eq, beq_iff_eq, bne_eq_false_iff_eq, beq_eq_false_iff_ne] at h4
            refine WI.seq ?_
            refine WI.regA noTabs_ok [4] (fun K hK => ?_)
            refine osS (by simp only [stepOp, aval, opv, Ab.get, Ab.put, putO, Nat.reduceEqDiff, ↓reduceIte, Option.map_some, Option.bind_some, D.val, D.cond, Bool.and_true, Bool.true_and, Bool.false_eq_true, reduceCtorEq]; rfl) rfl ?_
            refine osN ?_
            simp only [keep, memN, Nat.reduceEqDiff, if_true, if_false, ↓reduceIte, Option.getD_none, Option.getD_some, List.append_nil, List.cons_append, List.nil_append, Bool.false_eq_true]
            refine hK _ _ ?_
            clear hK K
            refine thenQ_normal ?_
            refine WI.ret ?_
            refine blockQ_ret ?_
            refine thenQ_ret ?_
            refine thenQ_ret ?_
            refine blockQ_ret ?_
            refine thenQ_ret ?_
            refine ⟨.inr rfl, ?_⟩
            -- leaf 1
            simp (disch := omega) only [retD, resD, finD, plainD, freezeD, freezeL, aval, opv, Ab.get, Nat.reduceEqDiff, ↓reduceIte, Option.map_some, Option.bind_some, D.val, D.cond, Bool.and_true, Bool.true_and, List.getElem?_cons_zero, List.getElem?_cons_succ, List.drop_zero, List.take_zero, List.drop_succ_cons, List.take_succ_cons, List.drop_nil, List.take_nil, List.length_cons, List.length_nil, List.map_cons, List.map_nil, List.cons_append, List.nil_append, List.set_cons_zero, List.set_cons_succ, Nat.reduceAdd, Nat.add_zero, Nat.zero_add, Nat.reduceLeDiff, if_true, decide_true, rows_len, rows_get, bytes_get, bytes_len, enc_rInt, enc_rStr, enc_rBool, enc_rEnd, enc_rSl, enc_rCat, enc_rVia, Int.toNat_natCast, Int.natCast_nonneg, Ob.slice?, rows_drop, rows_take, rows_app, List.length_append, List.take_length, Ob.slice?]
            refine ⟨_, _, rfl, ?_⟩
            simp only [mkR]
            rw [seen_of s k i (by omega) (by unfold cls; split <;> (try split) <;> (try split) <;> omega)]
          · try simp only [Bool.or_eq_true, Bool.and_eq_true, Bool.not_eq_true', Bool.or_eq_false_iff, Bool.and_eq_false_iff, Bool.not_eq_false', decide_eq_true_eq, decide_eq_false_iff_not, Bool.not_eq_true, gt_iff_lt, ge_iff_le, Int.not_lt, Int.not_le, bne_iff_ne, ne_eq, beq_iff_eq, bne_eq_false_iff_eq, beq_eq_false_iff_ne] at h4
            refine WI.skip ?_
            refine blockQ_normal ?_
            refine thenQ_normal ?_
            refine WI.regA noTabs_ok [0, 1, 5] (fun K hK => ?_)
            refine osS (by simp only [stepOp, aval, opv, Ab.get, Ab.put, putO, Nat.reduceEqDiff, ↓reduceIte, Option.map_some, Option.bind_some, D.val, D.cond, Bool.and_true, Bool.true_and, Bool.false_eq_true, reduceCtorEq]; rfl) rfl ?_
            refine osS (by simp (disch := omega) only [stepOp, aval, opv, Ab.get, Ab.put, putO, Nat.reduceEqDiff, ↓reduceIte, Option.map_some, Option.bind_some, D.val, D.cond, Bool.and_true, Bool.true_and, Bool.false_eq_true, reduceCtorEq, binD, bitsD, Nat.reduceAdd, Nat.reduceSub, Nat.reduceMul, Nat.reduceLeDiff, Nat.add_zero, Nat.zero_add, Int.reduceToNat, Int.reduceLE, Int.reduceLT, Int.reduceAdd, Int.reduceSub, Int.reduceMul, Int.reduceNeg, Int.reduceEq, Int.toNat_natCast, Int.natCast_nonneg, decide_true, decide_false, IntWalk.i64_in, Bool.not_true, Bool.not_false, Bool.or_true, Bool.true_or, Bool.or_false, Bool.false_or, Bool.and_false, Bool.false_and, beq_self_eq_true, or_eqf, Bool.and_self, Bool.not_or_self, Bool.or_not_self, beq_true, beq_false, Bool.not_not, bne_self_eq_false]; rfl) (by first | rfl | omega | (simp; done) | (simp; omega)) ?_
            refine osS (by simp only [stepOp, aval, opv, Ab.get, Ab.put, putO, Nat.reduceEqDiff, ↓reduceIte, Option.map_some, Option.bind_some, D.val, D.cond, Bool.and_true, Bool.true_and, Bool.false_eq_true, reduceCtorEq]; rfl) rfl ?_
            refine osN ?_
            simp only [keep, memN, Nat.reduceEqDiff, if_true, if_false, ↓reduceIte, Option.getD_none, Option.getD_some, List.append_nil, List.cons_append, List.nil_append, Bool.false_eq_true]
            refine hK _ _ ?_
            clear hK K
            refine thenQ_normal ?_
            exact ⟨⟨i + 1, by simp, rfl, by omega, seen_no s k i (by omega) he (by unfold cls; split <;> (try split) <;> (try split) <;> omega)⟩, by simp [down, Ab.get, D.val, intOf?]; omega⟩
        · try simp only [Bool.or_eq_true, Bool.and_eq_true, Bool.not_eq_true', Bool.or_eq_false_iff, Bool.and_eq_false_iff, Bool.not_eq_false', decide_eq_true_eq, decide_eq_false_iff_not, Bool.not_eq_true, gt_iff_lt, ge_iff_le, Int.not_lt, Int.not_le, bne_iff_ne, ne_eq, beq_iff_eq, bne_eq_false_iff_eq, beq_eq_false_iff_ne] at h2
          refine WI.seq ?_
          refine WI.regA noTabs_ok [0, 1, 5, 7, 31] (fun K hK => ?_)
          refine osS (by simp only [stepOp, aval, opv, Ab.get, Ab.put, putO, Nat.reduceEqDiff, ↓reduceIte, Option.map_some, Option.bind_some, D.val, D.cond, Bool.and_true, Bool.true_and, Bool.false_eq_true, reduceCtorEq]; rfl) rfl ?_
          refine osS (by simp (disch := omega) only [stepOp, aval, opv, Ab.get, Ab.put, putO, Nat.reduceEqDiff, ↓reduceIte, Option.map_some, Option.bind_some, D.val, D.cond, Bool.and_true, Bool.true_and, Bool.false_eq_true, reduceCtorEq, binD, bitsD, Nat.reduceAdd, Nat.reduceSub, Nat.reduceMul, Nat.reduceLeDiff, Nat.add_zero, Nat.zero_add, Int.reduceToNat, Int.reduceLE, Int.reduceLT, Int.reduceAdd, Int.reduceSub, Int.reduceMul, Int.reduceNeg, Int.reduceEq, Int.toNat_natCast, Int.natCast_nonneg, decide_true, decide_false, IntWalk.i64_in, Bool.not_true, Bool.not_false, Bool.or_true, Bool.true_or, Bool.or_false, Bool.false_or, Bool.and_false, Bool.false_and, beq_self_eq_true, or_eqf, Bool.and_self, Bool.not_or_self, Bool.or_not_self, beq_true, beq_false, Bool.not_not, bne_self_eq_false]; rfl) (by first | rfl | omega | (simp; done) | (simp; omega)) ?_
          refine osS (by simp only [stepOp, aval, opv, Ab.get, Ab.put, putO, Nat.reduceEqDiff, ↓reduceIte, Option.map_some, Option.bind_some, D.val, D.cond, Bool.and_true, Bool.true_and, Bool.false_eq_true, reduceCtorEq]; rfl) rfl ?_
          refine osS (by simp (disch := omega) only [stepOp, aval, opv, Ab.get, Ab.put, putO, Nat.reduceEqDiff, ↓reduceIte, Option.map_some, Option.bind_some, D.val, D.cond, Bool.and_true, Bool.true_and, Bool.false_eq_true, reduceCtorEq, Bool.not_true, Bool.not_false, Bool.or_true, Bool.true_or, Bool.or_false, Bool.false_or, Bool.and_false, Bool.false_and, beq_self_eq_true, or_eqf, Bool.and_self, Bool.not_or_self, Bool.or_not_self, beq_true, beq_false, Bool.not_not]; rfl) rfl ?_
          refine osS (by simp (disch := omega) only [stepOp, aval, opv, Ab.get, Ab.put, putO, Nat.reduceEqDiff, ↓reduceIte, Option.map_some, Option.bind_some, D.val, D.cond, Bool.and_true, Bool.true_and, Bool.false_eq_true, reduceCtorEq, binD, bitsD, Nat.reduceAdd, Nat.reduceSub, Nat.reduceMul, Nat.reduceLeDiff, Nat.add_zero, Nat.zero_add, Int.reduceToNat, Int.reduceLE, Int.reduceLT, Int.reduceAdd, Int.reduceSub, Int.reduceMul, Int.reduceNeg, Int.reduceEq, Int.toNat_natCast, Int.natCast_nonneg, decide_true, decide_false, IntWalk.i64_in, Bool.not_true, Bool.not_false, Bool.or_true, Bool.true_or, Bool.or_false, Bool.false_or, Bool.and_false, Bool.false_and, beq_self_eq_true, or_eqf, Bool.and_self, Bool.not_or_self, Bool.or_not_self, beq_true, beq_false, Bool.not_not, bne_self_eq_false]; rfl) (by first | rfl | omega | (simp; done) | (simp; omega)) ?_
          refine osS (by simp (disch := omega) only [stepOp, aval, opv, Ab.get, Ab.put, putO, Nat.reduceEqDiff, ↓reduceIte, Option.map_some, Option.bind_some, D.val, D.cond, Bool.and_true, Bool.true_and, Bool.false_eq_true, reduceCtorEq, Bool.not_true, Bool.not_false, Bool.or_true, Bool.true_or, Bool.or_false, Bool.false_or, Bool.and_false, Bool.false_and, beq_self_eq_true, or_eqf, Bool.and_self, Bool.not_or_self, Bool.or_not_self, beq_true, beq_false, Bool.not_not, Bool.cond_true_left, Bool.cond_false_right, cond_true, cond_false]; rfl) (by first | rfl | omega | (simp; done) | (simp; omega)) ?_
          refine osS (by simp only [stepOp, aval, opv, Ab.get, Ab.put, putO, Nat.reduceEqDiff, ↓reduceIte, Option.map_some, Option.bind_some, D.val, D.cond, Bool.and_true, Bool.true_and, Bool.false_eq_true, reduceCtorEq]; rfl) rfl ?_
          refine osN ?_
          simp only [keep, memN, Nat.reduceEqDiff, if_true, if_false, ↓reduceIte, Option.getD_none, Option.getD_some, List.append_nil, List.cons_append, List.nil_append, Bool.false_eq_true]
          refine hK _ _ ?_
          clear hK K
          refine thenQ_normal ?_
          refine WI.cond (b := _) rfl rfl (fun h3 => ?_) (fun h3 => ?_)
          · try simp only [Bool.or_eq_true, Bool.and_eq_true, Bool.not_eq_true', Bool.or_eq_false_iff, Bool.and_eq_false_iff, Bool.not_eq_false', decide_eq_true_eq, decide_eq_false_iff_not, Bool.not_eq_true, gt_iff_lt, ge_iff_le, Int.not_lt, Int.not_le, bne_iff_ne, ne_eq, beq_iff_eq, bne_eq_false_iff_eq, beq_eq_false_iff_ne] at h3
            refine WI.regA noTabs_ok [0, 1, 5, 7] (fun K hK => ?_)
            refine osS (by simp only [stepOp, aval, opv, Ab.get, Ab.put, putO, Nat.reduceEqDiff, ↓reduceIte, Option.map_some, Option.bind_some, D.val, D.cond, Bool.and_true, Bool.true_and, Bool.false_eq_true, reduceCtorEq]; rfl) rfl ?_
            refine osN ?_
            simp only [keep, memN, Nat.reduceEqDiff, if_true, if_false, ↓reduceIte, Option.getD_none, Option.getD_some, List.append_nil, List.cons_append, List.nil_append, Bool.false_eq_true]
            refine hK _ _ ?_
            clear hK K
            refine blockQ_normal ?_
            refine thenQ_normal ?_
            refine WI.seq ?_
            refine WI.regA noTabs_ok [0, 1, 5, 40] (fun K hK => ?_)
            refine osS (by simp only [stepOp, aval, opv, Ab.get, Ab.put, putO, Nat.reduceEqDiff, ↓reduceIte, Option.map_some, Option.bind_some, D.val, D.cond, Bool.and_true, Bool.true_and, Bool.false_eq_true, reduceCtorEq]; rfl) rfl ?_
            refine osS (by simp only [stepOp, aval, opv, Ab.get, Ab.put, putO, Nat.reduceEqDiff, ↓reduceIte, Option.map_some, Option.bind_some, D.val, D.cond, Bool.and_true, Bool.true_and, Bool.false_eq_true, reduceCtorEq]; rfl) rfl ?_
            refine osS (by simp (disch := omega) only [stepOp, aval, opv, Ab.get, Ab.put, putO, Nat.reduceEqDiff, ↓reduceIte, Option.map_some, Option.bind_some, D.val, D.cond, Bool.and_true, Bool.true_and, Bool.false_eq_true, reduceCtorEq, binD, bitsD, Nat.reduceAdd, Nat.reduceSub, Nat.reduceMul, Nat.reduceLeDiff, Nat.add_zero, Nat.zero_add, Int.reduceToNat, Int.reduceLE, Int.reduceLT, Int.reduceAdd, Int.reduceSub, Int.reduceMul, Int.reduceNeg, Int.reduceEq, Int.toNat_natCast, Int.natCast_nonneg, decide_true, decide_false, IntWalk.i64_in, Bool.not_true, Bool.not_false, Bool.or_true, Bool.true_or, Bool.or_false, Bool.false_or, Bool.and_false, Bool.false_and, beq_self_eq_true, or_eqf, Bool.and_self, Bool.not_or_self, Bool.or_not_self, beq_true, beq_false, Bool.not_not, bne_self_eq_false]; rfl) (by first | rfl | omega | (simp; done) | (simp; omega)) ?_
            refine osN ?_
            simp only [keep, memN, Nat.reduceEqDiff, if_true, if_false, ↓reduceIte, Option.getD_none, Option.getD_some, List.append_nil, List.cons_append, List.nil_append, Bool.false_eq_true]
            refine hK _ _ ?_
            clear hK K
            refine thenQ_normal ?_
            refine WI.cond (b := _) rfl rfl (fun h4 => ?_) (fun h4 => ?_)
            · try simp only [Bool.or_eq_true, Bool.and_eq_true, Bool.not_eq_true', Bool.or_eq_false_iff, Bool.and_eq_false_iff, Bool.not_eq_false', decide_eq_true_eq, decide_eq_false_iff_not, Bool.not_eq_true, gt_iff_lt, ge_iff_le, Int.not_lt, Int.not_le, bne_iff_ne, ne_eq, beq_iff_eq, bne_eq_false_iff_eq, beq_eq_false_iff_ne] at h4
              refine WI.seq ?_
              refine WI.regA noTabs_ok [4] (fun K hK => ?_)
              refine osS (by simp only [stepOp, aval, opv, Ab.get, Ab.put, putO, Nat.reduceEqDiff, ↓reduceIte, Option.map_some, Option.bind_some, D.val, D.cond, Bool.and_true, Bool.true_and, Bool.false_eq_true, reduceCtorEq]; rfl) rfl ?_
              refine osN ?_
              simp only [keep, memN, Nat.reduceEqDiff, if_true, if_false, ↓reduceIte, Option.getD_none, Option.getD_some, List.append_nil, List.cons_append, List.nil_append, Bool.false_eq_true]
              refine hK _ _ ?_
              clear hK K
              refine thenQ_normal ?_
              refine WI.ret ?_
              refine blockQ_ret ?_
              refine thenQ_ret ?_
              refine thenQ_ret ?_
              refine blockQ_ret ?_
              refine thenQ_ret ?_
              refine ⟨.inr rfl, ?_⟩
              -- leaf 2
              simp (disch := omega) only [retD, resD, finD, plainD, freezeD, freezeL, aval, opv, Ab.get, Nat.reduceEqDiff, ↓reduceIte, Option.map_some, Option.bind_some, D.val, D.cond, Bool.and_true, Bool.true_and, List.getElem?_cons_zero, List.getElem?_cons_succ, List.drop_zero, List.take_zero, List.drop_succ_cons, List.take_succ_cons, List.drop_nil, List.take_nil, List.length_cons, List.length_nil, List.map_cons, List.map_nil, List.cons_append, List.nil_append, List.set_cons_zero, List.set_cons_succ, Nat.reduceAdd, Nat.add_zero, Nat.zero_add, Nat.reduceLeDiff, if_true, decide_true, rows_len, rows_get, bytes_get, bytes_len, enc_rInt, enc_rStr, enc_rBool, enc_rEnd, enc_rSl, enc_rCat, enc_rVia, Int.toNat_natCast, Int.natCast_nonneg, Ob.slice?, rows_drop, rows_take, rows_app, List.length_append, List.take_length, Ob.slice?]
              refine ⟨_, _, rfl, ?_⟩
              simp only [mkR]
              rw [seen_of s k i (by omega) (by unfold cls; split <;> (try split) <;> (try split) <;> omega)]
            · try simp only [Bool.or_eq_true, Bool.and_eq_true, Bool.not_eq_true', Bool.or_eq_false_iff, Bool.and_eq_false_iff, Bool.not_eq_false', decide_eq_true_eq, decide_eq_false_iff_not, Bool.not_eq_true, gt_iff_lt, ge_iff_le, Int.not_lt, Int.not_le, bne_iff_ne, ne_eq, beq_iff_eq, bne_eq_false_iff_eq, beq_eq_false_iff_ne] at h4
              refine WI.skip ?_
              refine blockQ_normal ?_
              refine thenQ_normal ?_
              refine WI.regA noTabs_ok [0, 1, 5] (fun K hK => ?_)
              refine osS (by simp only [stepOp, aval, opv, Ab.get, Ab.put, putO, Nat.reduceEqDiff, ↓reduceIte, Option.map_some, Option.bind_some, D.val, D.cond, Bool.and_true, Bool.true_and, Bool.false_eq_true, reduceCtorEq]; rfl) rfl ?_
              refine osS (by simp (disch := omega) only [stepOp, aval, opv, Ab.get, Ab.put, putO, Nat.reduceEqDiff, ↓reduceIte, Option.map_some, Option.bind_some, D.val, D.cond, Bool.and_true, Bool.true_and, Bool.false_eq_true, reduceCtorEq, binD, bitsD, Nat.reduceAdd, Nat.reduceSub, Nat.reduceMul, Nat.reduceLeDiff, Nat.add_zero, Nat.zero_add, Int.reduceToNat, Int.reduceLE, Int.reduceLT, Int.reduceAdd, Int.reduceSub, Int.reduceMul, Int.reduceNeg, Int.reduceEq, Int.toNat_natCast, Int.natCast_nonneg, decide_true, decide_false, IntWalk.i64_in, Bool.not_true, Bool.not_false, Bool.or_true, Bool.true_or, Bool.or_false, Bool.false_or, Bool.and_false, Bool.false_and, beq_self_eq_true, or_eqf, Bool.and_self, Bool.not_or_self, Bool.or_not_self, beq_true, beq_false, Bool.not_not, bne_self_eq_false]; rfl) (by first | rfl | omega | (simp; done) | (simp; omega)) ?_
              refine osS (by simp only [stepOp, aval, opv, Ab.get, Ab.put, putO, Nat.reduceEqDiff, ↓reduceIte, Option.map_some, Option.bind_some, D.val, D.cond, Bool.and_true, Bool.true_and, Bool.false_eq_true, reduceCtorEq]; rfl) rfl ?_
              refine osN ?_
              simp only [keep, memN, Nat.reduceEqDiff, if_true, if_false, ↓reduceIte, Option.getD_none, Option.getD_some, List.append_nil, List.cons_append, List.nil_append, Bool.false_eq_true]
              refine hK _ _ ?_
              clear hK K
              refine thenQ_normal ?_
              exact ⟨⟨i + 1, by simp, rfl, by omega, seen_no s k i (by omega) he (by unfold cls; split <;> (try split) <;> (try split) <;> omega)⟩, by simp [down, Ab.get, D.val, intOf?]; omega⟩
          · try simp only [Bool.or_eq_true, Bool.and_eq_true, Bool.not_eq_true', Bool.or_eq_false_iff, Bool.and_eq_false_iff, Bool.not_eq_false', decide_eq_true_eq, decide_eq_false_iff_not, Bool.not_eq_true, gt_iff_lt, ge_iff_le, Int.not_lt, Int.not_le, bne_iff_ne, ne_eq, beq_iff_eq, bne_eq_false_iff_eq, beq_eq_false_iff_ne] at h3
            refine WI.skip ?_
            refine blockQ_normal ?_
            refine thenQ_normal ?_
            refine WI.seq ?_
            refine WI.regA noTabs_ok [0, 1, 5, 40] (fun K hK => ?_)
            refine osS (by simp only [stepOp, aval, opv, Ab.get, Ab.put, putO, Nat.reduceEqDiff, ↓reduceIte, Option.map_some, Option.bind_some, D.val, D.cond, Bool.and_true, Bool.true_and, Bool.false_eq_true, reduceCtorEq]; rfl) rfl ?_
            refine osS (by simp only [stepOp, aval, opv, Ab.get, Ab.put, putO, Nat.reduceEqDiff, ↓reduceIte, Option.map_some, Option.bind_some, D.val, D.cond, Bool.and_true, Bool.true_and, Bool.false_eq_true, reduceCtorEq]; rfl) rfl ?_
            refine osS (by simp (disch := omega) only [stepOp, aval, opv, Ab.get, Ab.put, putO, Nat.reduceEqDiff, ↓reduceIte, Option.map_some, Option.bind_some, D.val, D.cond, Bool.and_true, Bool.true_and, Bool.false_eq_true, reduceCtorEq, binD, bitsD, Nat.reduceAdd, Nat.reduceSub, Nat.reduceMul, Nat.reduceLeDiff, Nat.add_zero, Nat.zero_add, Int.reduceToNat, Int.reduceLE, Int.reduceLT, Int.reduceAdd, Int.reduceSub, Int.reduceMul, Int.reduceNeg, Int.reduceEq, Int.toNat_natCast, Int.natCast_nonneg, decide_true, decide_false, IntWalk.i64_in, Bool.not_true, Bool.not_false, Bool.or_true, Bool.true_or, Bool.or_false, Bool.false_or, Bool.and_false, Bool.false_and, beq_self_eq_true, or_eqf, Bool.and_self, Bool.not_or_self, Bool.or_not_self, beq_true, beq_false, Bool.not_not, bne_self_eq_false]; rfl) (by first | rfl | omega | (simp; done) | (simp; omega)) ?_
            refine osN ?_
            simp only [keep, memN, Nat.reduceEqDiff, if_true, if_false, ↓reduceIte, Option.getD_none, Option.getD_some, List.append_nil, List.cons_append, List.nil_append, Bool.false_eq_true]
            refine hK _ _ ?_
            clear hK K
            refine thenQ_normal ?_
            refine WI.cond (b := _) rfl rfl (fun h4 => ?_) (fun h4 => ?_)
            · try simp only [Bool.or_eq_true, Bool.and_eq_true, Bool.not_eq_true', Bool.or_eq_false_iff, Bool.and_eq_false_iff, Bool.not_eq_false', decide_eq_true_eq, decide_eq_false_iff_not, Bool.not_eq_true, gt_iff_lt, ge_iff_le, Int.not_lt, Int.not_le, bne_iff_ne, ne_eq, beq_iff_eq, bne_eq_false_iff_eq, beq_eq_false_iff_ne] at h4
              refine WI.seq ?_
              refine WI.regA noTabs_ok [4] (fun K hK => ?_)
              refine osS (by simp only [stepOp, aval, opv, Ab.get, Ab.put, putO, Nat.reduceEqDiff, ↓reduceIte, Option.map_some, Option.bind_some, D.val, D.cond, Bool.and_true, Bool.true_and, Bool.false_eq_true, reduceCtorEq]; rfl) rfl ?_
              refine osN ?_
              simp only [keep, memN, Nat.reduceEqDiff, if_true, if_false, ↓reduceIte, Option.getD_none, Option.getD_some, List.append_nil, List.cons_append, List.nil_append, Bool.false_eq_true]
              refine hK _ _ ?_
              clear hK K
              refine thenQ_normal ?_
              refine WI.ret ?_
              refine blockQ_ret ?_
              refine thenQ_ret ?_
              refine thenQ_ret ?_
              refine blockQ_ret ?_
              refine thenQ_ret ?_
              refine ⟨.inr rfl, ?_⟩
              -- leaf 3
              simp (disch := omega) only [retD, resD, finD, plainD, freezeD, freezeL, aval, opv, Ab.get, Nat.reduceEqDiff, ↓reduceIte, Option.map_some, Option.bind_some, D.val, D.cond, Bool.and_true, Bool.true_and, List.getElem?_cons_zero, List.getElem?_cons_succ, List.drop_zero, List.take_zero, List.drop_succ_cons, List.take_succ_cons, List.drop_nil, List.take_nil, List.length_cons, List.length_nil, List.map_cons, List.map_nil, List.cons_append, List.nil_append, List.set_cons_zero, List.set_cons_succ, Nat.reduceAdd, Nat.add_zero, Nat.zero_add, Nat.reduceLeDiff, if_true, decide_true, rows_len, rows_get, bytes_get, bytes_len, enc_rInt, enc_rStr, enc_rBool, enc_rEnd, enc_rSl, enc_rCat, enc_rVia, Int.toNat_natCast, Int.natCast_nonneg, Ob.slice?, rows_drop, rows_take, rows_app, List.length_append, List.take_length, Ob.slice?]
              refine ⟨_, _, rfl, ?_⟩
              simp only [mkR]
              rw [seen_of s k i (by omega) (by unfold cls; split <;> (try split) <;> (try split) <;> omega)]
            · try simp only [Bool.or_eq_true, Bool.and_eq_true, Bool.not_eq_true', Bool.or_eq_false_iff, Bool.and_eq_false_iff, Bool.not_eq_false', decide_eq_true_eq, decide_eq_false_iff_not, Bool.not_eq_true, gt_iff_lt, ge_iff_le, Int.not_lt, Int.not_le, bne_iff_ne, ne_eq, beq_iff_eq, bne_eq_false_iff_eq, beq_eq_false_iff_ne] at h4
              refine WI.skip ?_
              refine blockQ_normal ?_
              refine thenQ_normal ?_
              refine WI.regA noTabs_ok [0, 1, 5] (fun K hK => ?_)
              refine osS (by simp only [stepOp, aval, opv, Ab.get, Ab.put, putO, Nat.reduceEqDiff, ↓reduceIte, Option.map_some, Option.bind_some, D.val, D.cond, Bool.and_true, Bool.true_and, Bool.false_eq_true, reduceCtorEq]; rfl) rfl ?_
              refine osS (by simp (disch := omega) only [stepOp, aval, opv, Ab.get, Ab.put, putO, Nat.reduceEqDiff, ↓reduceIte, Option.map_some, Option.bind_some, D.val, D.cond, Bool.and_true, Bool.true_and, Bool.false_eq_true, reduceCtorEq, binD, bitsD, Nat.reduceAdd, Nat.reduceSub, Nat.reduceMul, Nat.reduceLeDiff, Nat.add_zero, Nat.zero_add, Int.reduceToNat, Int.reduceLE, Int.reduceLT, Int.reduceAdd, Int.reduceSub, Int.reduceMul, Int.reduceNeg, Int.reduceEq, Int.toNat_natCast, Int.natCast_nonneg, decide_true, decide_false, IntWalk.i64_in, Bool.not_true, Bool.not_false, Bool.or_true, Bool.true_or, Bool.or_false, Bool.false_or, Bool.and_false, Bool.false_and, beq_self_eq_true, or_eqf, Bool.and_self, Bool.not_or_self, Bool.or_not_self, beq_true, beq_false, Bool.not_not, bne_self_eq_false]; rfl) (by first | rfl | omega | (simp; done) | (simp; omega)) ?_
              refine osS (by simp only [stepOp, aval, opv, Ab.get, Ab.put, putO, Nat.reduceEqDiff, ↓reduceIte, Option.map_some, Option.bind_some, D.val, D.cond, Bool.and_true, Bool.true_and, Bool.false_eq_true, reduceCtorEq]; rfl) rfl ?_
              refine osN ?_
              simp only [keep, memN, Nat.reduceEqDiff, if_true, if_false, ↓reduceIte, Option.getD_none, Option.getD_some, List.append_nil, List.cons_append, List.nil_append, Bool.false_eq_true]
              refine hK _ _ ?_
              clear hK K
              refine thenQ_normal ?_
              exact ⟨⟨i + 1, by simp, rfl, by omega, seen_no s k i (by omega) he (by unfold cls; split <;> (try split) <;> (try split) <;> omega)⟩, by simp [down, Ab.get, D.val, intOf?]; omega⟩
    · try simp only [Bool.or_eq_true, Bool.and_eq_true, Bool.not_eq_true', Bool.or_eq_false_iff, Bool.and_eq_false_iff, Bool.not_eq_false', decide_eq_true_eq, decide_eq_false_iff_not, Bool.not_eq_true, gt_iff_lt, ge_iff_le, Int.not_lt, Int.not_le, bne_iff_ne, ne_eq, beq_iff_eq, bne_eq_false_iff_eq, beq_eq_false_iff_ne] at h0
      refine WI.exit ?_
      refine thenQ_exit ?_
      refine thenQ_exit ?_
      refine blockQ_hit ?_
      refine thenQ_normal ?_
      refine WI.seq ?_
      refine WI.regA noTabs_ok [4] (fun K hK => ?_)
      refine osS (by simp only [stepOp, aval, opv, Ab.get, Ab.put, putO, Nat.reduceEqDiff, ↓reduceIte, Option.map_some, Option.bind_some, D.val, D.cond, Bool.and_true, Bool.true_and, Bool.false_eq_true, reduceCtorEq]; rfl) rfl ?_
      refine osN ?_
      simp only [keep, memN, Nat.reduceEqDiff, if_true, if_false, ↓reduceIte, Option.getD_none, Option.getD_some, List.append_nil, List.cons_append, List.nil_append, Bool.false_eq_true]
      refine hK _ _ ?_
      clear hK K
      refine thenQ_normal ?_
      refine WI.ret ?_
      refine ⟨.inr rfl, ?_⟩
      -- leaf 4
      simp (disch := omega) only [retD, resD, finD, plainD, freezeD, freezeL, aval, opv, Ab.get, Nat.reduceEqDiff, ↓reduceIte, Option.map_some, Option.bind_some, D.val, D.cond, Bool.and_true, Bool.true_and, List.getElem?_cons_zero, List.getElem?_cons_succ, List.drop_zero, List.take_zero, List.drop_succ_cons, List.take_succ_cons, List.drop_nil, List.take_nil, List.length_cons, List.length_nil, List.map_cons, List.map_nil, List.cons_append, List.nil_append, List.set_cons_zero, List.set_cons_succ, Nat.reduceAdd, Nat.add_zero, Nat.zero_add, Nat.reduceLeDiff, if_true, decide_true, rows_len, rows_get, bytes_get, bytes_len, enc_rInt, enc_rStr, enc_rBool, enc_rEnd, enc_rSl, enc_rCat, enc_rVia, Int.toNat_natCast, Int.natCast_nonneg, Ob.slice?, rows_drop, rows_take, rows_app, List.length_append, List.take_length, Ob.slice?]
      refine ⟨_, _, rfl, ?_⟩
      simp only [mkR]
      rw [List.take_of_length_le (by omega)] at he; rw [he]
def hasG : List D → Option (Bool × D)
  | [.x (.str s), .x (.int .i64 k)] => some (decide (0 ≤ k) && decide (s.length ≤ 9223372036854775807), .x (.bool (seen s k.toNat)))
  | _ => none
theorem hasG_ok : ∀ args r, hasG args = some (true, r) → PCalls Try.prog 38 args r := by
  intro args r h
  unfold hasG at h
  split at h
  · simp only [Option.some.injEq, Prod.mk.injEq, Bool.and_eq_true, decide_eq_true_eq] at h
    obtain ⟨⟨h1, h2⟩, rfl⟩ := h
    obtain ⟨j, rfl⟩ := Int.eq_ofNat_of_zero_le h1
    exact has_c _ j h2
  · cases h

/-- Where a word is. -/
def fi (w : List UInt8) : List (List UInt8) → Nat
  | [] => 0
  | x :: l => if w = x then 0 else fi w l + 1
def idxI (l : List (List UInt8)) (w : List UInt8) : Int := if w ∈ l then (fi w l : Int) else -1
theorem idxI_nn (l : List (List UInt8)) (w : List UInt8) : decide (idxI l w ≥ 0) = decide (w ∈ l) := by
  unfold idxI; split <;> simp_all
theorem fi_at (w : List UInt8) : ∀ (l : List (List UInt8)) (i : Nat) (h : i < l.length), ¬ w ∈ l.take i → w = l[i] → fi w l = i
  | x :: l, 0, h, _, hw => by simp at hw; simp [fi, hw]
  | x :: l, i + 1, h, he, hw => by
    simp only [List.take_succ_cons, List.mem_cons, not_or] at he
    simp only [fi, if_neg he.1]
    rw [fi_at w l i (by simpa using h) he.2 (by simpa using hw)]
theorem idxI_at (l : List (List UInt8)) (w : List UInt8) (i : Nat) (h : i < l.length) (he : ¬ w ∈ l.take i) (hw : w = l[i]) : idxI l w = i := by
  have hm : w ∈ l := hw ▸ List.getElem_mem h
  rw [idxI, if_pos hm, fi_at w l i h he hw]
theorem notin_take (l : List (List UInt8)) (w : List UInt8) (i : Nat) (h : i < l.length) (he : ¬ w ∈ l.take i) (hw : ¬ w = l[i]) : ¬ w ∈ l.take (i + 1) := by
  rw [List.take_add_one, List.getElem?_eq_getElem h]
  intro hm
  rcases List.mem_append.1 hm with h1 | h1
  · exact he h1
  · simp only [Option.toList_some, List.mem_singleton] at h1; exact hw h1
theorem index_c (l : List (List UInt8)) (w : List UInt8) : PCalls Try.prog 47 [.x (.sl (rows rStr l)), .x (.str w)] (.x (.int .i64 (idxI l w))) := by
  refine PCalls.wf (fun hw => ?_)
  have hl : l.length ≤ maxLen := by have := (hw _ (List.mem_cons_self)).1; rwa [rows_len] at this
  clear hw
  simp only [maxLen] at hl
  refine FCalls.pure (fcallsG (fz := true) G_ok (p := i47) rfl _ (Nat.le_of_ble_eq_true rfl) _ (fun c E0 => ?_)) rfl
  dsimp only [i47, argsφ]
  refine WI.seq ?_
  refine WI.regA noTabs_ok [0, 1] (fun K hK => ?_)
  refine osS (by simp only [stepOp, aval, opv, Ab.get, Ab.put, putO, Nat.reduceEqDiff, ↓reduceIte, Option.map_some, Option.bind_some, D.val, D.cond, Bool.and_true, Bool.true_and, Bool.false_eq_true, reduceCtorEq]; rfl) rfl ?_
  refine osN ?_
  simp only [keep, memN, Nat.reduceEqDiff, if_true, if_false, ↓reduceIte, Option.getD_none, Option.getD_some, List.append_nil, List.cons_append, List.nil_append, Bool.false_eq_true]
  refine hK _ _ ?_
  clear hK K
  refine thenQ_normal ?_
  refine WI.seq ?_
  refine WI.seq ?_
  refine WI.regA noTabs_ok [0, 1, 7, 8] (fun K hK => ?_)
  refine osS (by simp only [stepOp, aval, opv, Ab.get, Ab.put, putO, Nat.reduceEqDiff, ↓reduceIte, Option.map_some, Option.bind_some, D.val, D.cond, Bool.and_true, Bool.true_and, Bool.false_eq_true, reduceCtorEq]; rfl) rfl ?_
  refine osS (by simp (disch := omega) only [stepOp, aval, opv, Ab.get, Ab.put, putO, Nat.reduceEqDiff, ↓reduceIte, Option.map_some, Option.bind_some, D.val, D.cond, Bool.and_true, Bool.true_and, Bool.false_eq_true, reduceCtorEq, lenD, okRef, List.getElem?_cons_zero, List.getElem?_cons_succ, List.drop_zero, List.take_zero, List.drop_succ_cons, List.take_succ_cons, List.drop_nil, List.take_nil, List.length_cons, List.length_nil, List.map_cons, List.map_nil, List.cons_append, List.nil_append, List.set_cons_zero, List.set_cons_succ, Nat.reduceAdd, Nat.add_zero, Nat.zero_add, Nat.reduceLeDiff, if_true, decide_true, rows_len, rows_get, bytes_get, bytes_len, enc_rInt, enc_rStr, enc_rBool, enc_rEnd, enc_rSl, enc_rCat, enc_rVia, Int.toNat_natCast, Int.natCast_nonneg, Ob.slice?]; rfl) (by first | rfl | omega | (simp; done) | (simp; omega)) ?_
  refine osS (by simp only [stepOp, aval, opv, Ab.get, Ab.put, putO, Nat.reduceEqDiff, ↓reduceIte, Option.map_some, Option.bind_some, D.val, D.cond, Bool.and_true, Bool.true_and, Bool.false_eq_true, reduceCtorEq]; rfl) rfl ?_
  refine osN ?_
  simp only [keep, memN, Nat.reduceEqDiff, if_true, if_false, ↓reduceIte, Option.getD_none, Option.getD_some, List.append_nil, List.cons_append, List.nil_append, Bool.false_eq_true]
  refine hK _ _ ?_
  clear hK K
  refine thenQ_normal ?_
  refine WI.block ?_
  refine WI.loop (fun φ os => ∃ i : Nat, φ = [(0, .x (.sl (rows rStr l))), (1, .x (.str w)), (7, .x (.int .i64 l.length)), (8, .x (.int .i64 i))] ∧ os = [] ∧ i ≤ l.length ∧ w ∉ l.take i) (down l.length 8) ?_ (fun φ os hI => ?_)
  · exact ⟨0, rfl, rfl, by omega, by simp⟩
  · obtain ⟨i, rfl, rfl, hi, he⟩ := hI
    refine WI.seq ?_
    refine WI.regA noTabs_ok [0, 1, 7, 8, 9] (fun K hK => ?_)
    refine osS (by simp (disch := omega) only [stepOp, aval, opv, Ab.get, Ab.put, putO, Nat.reduceEqDiff, ↓reduceIte, Option.map_some, Option.bind_some, D.val, D.cond, Bool.and_true, Bool.true_and, Bool.false_eq_true, reduceCtorEq, binD, bitsD, Nat.reduceAdd, Nat.reduceSub, Nat.reduceMul, Nat.reduceLeDiff, Nat.add_zero, Nat.zero_add, Int.reduceToNat, Int.reduceLE, Int.reduceLT, Int.reduceAdd, Int.reduceSub, Int.reduceMul, Int.reduceNeg, Int.reduceEq, Int.toNat_natCast, Int.natCast_nonneg, decide_true, decide_false, IntWalk.i64_in, Bool.not_true, Bool.not_false, Bool.or_true, Bool.true_or, Bool.or_false, Bool.false_or, Bool.and_false, Bool.false_and, beq_self_eq_true, or_eqf, Bool.and_self, Bool.not_or_self, Bool.or_not_self, beq_true, beq_false, Bool.not_not, bne_self_eq_false]; rfl) (by first | rfl | omega | (simp; done) | (simp; omega)) ?_
    refine osN ?_
    simp only [keep, memN, Nat.reduceEqDiff, if_true, if_false, ↓reduceIte, Option.getD_none, Option.getD_some, List.append_nil, List.cons_append, List.nil_append, Bool.false_eq_true]
    refine hK _ _ ?_
    clear hK K
    refine thenQ_normal ?_
    refine WI.seq ?_
    refine WI.cond (b := _) rfl rfl (fun h0 => ?_) (fun h0 => ?_)
    · try simp only [Bool.or_eq_true, Bool.and_eq_true, Bool.not_eq_true', Bool.or_eq_false_iff, Bool.and_eq_false_iff, Bool.not_eq_false', decide_eq_true_eq, decide_eq_false_iff_not, Bool.not_eq_true, gt_iff_lt, ge_iff_le, Int.not_lt, Int.not_le, bne_iff_ne, ne_eq, beq_iff_eq, bne_eq_false_iff_eq, beq_eq_false_iff_ne] at h0
      refine WI.skip ?_
      refine thenQ_normal ?_
      refine WI.seq ?_
      refine WI.block ?_
      refine WI.seq ?_
      refine WI.regA noTabs_ok [0, 1, 5, 7, 8] (fun K hK => ?_)
      refine osS (by simp only [stepOp, aval, opv, Ab.get, Ab.put, putO, Nat.reduceEqDiff, ↓reduceIte, Option.map_some, Option.bind_some, D.val, D.cond, Bool.and_true, Bool.true_and, Bool.false_eq_true, reduceCtorEq]; rfl) rfl ?_
      refine osS (by simp only [stepOp, aval, opv, Ab.get, Ab.put, putO, Nat.reduceEqDiff, ↓reduceIte, Option.map_some, Option.bind_some, D.val, D.cond, Bool.and_true, Bool.true_and, Bool.false_eq_true, reduceCtorEq]; rfl) rfl ?_
      refine osN ?_
      simp only [keep, memN, Nat.reduceEqDiff, if_true, if_false, ↓reduceIte, Option.getD_none, Option.getD_some, List.append_nil, List.cons_append, List.nil_append, Bool.false_eq_true]
      refine hK _ _ ?_
      clear hK K
      refine thenQ_normal ?_
      refine WI.seq ?_
      refine WI.regA noTabs_ok [0, 1, 5, 7, 8, 16] (fun K hK => ?_)
      refine osS (by simp only [stepOp, aval, opv, Ab.get, Ab.put, putO, Nat.reduceEqDiff, ↓reduceIte, Option.map_some, Option.bind_some, D.val, D.cond, Bool.and_true, Bool.true_and, Bool.false_eq_true, reduceCtorEq]; rfl) rfl ?_
      refine osS (by simp only [stepOp, aval, opv, Ab.get, Ab.put, putO, Nat.reduceEqDiff, ↓reduceIte, Option.map_some, Option.bind_some, D.val, D.cond, Bool.and_true, Bool.true_and, Bool.false_eq_true, reduceCtorEq]; rfl) rfl ?_
      refine osS (by simp only [stepOp, aval, opv, Ab.get, Ab.put, putO, Nat.reduceEqDiff, ↓reduceIte, Option.map_some, Option.bind_some, D.val, D.cond, Bool.and_true, Bool.true_and, Bool.false_eq_true, reduceCtorEq]; rfl) rfl ?_
      refine osS (by simp (disch := omega) only [stepOp, aval, opv, Ab.get, Ab.put, putO, Nat.reduceEqDiff, ↓reduceIte, Option.map_some, Option.bind_some, D.val, D.cond, Bool.and_true, Bool.true_and, Bool.false_eq_true, reduceCtorEq, intOf?, List.getElem?_cons_zero, List.getElem?_cons_succ, List.drop_zero, List.take_zero, List.drop_succ_cons, List.take_succ_cons, List.drop_nil, List.take_nil, List.length_cons, List.length_nil, List.map_cons, List.map_nil, List.cons_append, List.nil_append, List.set_cons_zero, List.set_cons_succ, Nat.reduceAdd, Nat.add_zero, Nat.zero_add, Nat.reduceLeDiff, if_true, decide_true, rows_len, rows_get, bytes_get, bytes_len, enc_rInt, enc_rStr, enc_rBool, enc_rEnd, enc_rSl, enc_rCat, enc_rVia, Int.toNat_natCast, Int.natCast_nonneg, Ob.slice?, Nat.reduceSub, Nat.reduceMul, Int.reduceToNat, Int.reduceLE, Int.reduceLT, Int.reduceAdd, Int.reduceSub, Int.reduceMul, Int.reduceNeg, Int.reduceEq, decide_false, IntWalk.i64_in]; rfl) (by first | rfl | omega | (simp; done) | (simp; omega)) ?_
      refine osS (by simp (disch := omega) only [stepOp, aval, opv, Ab.get, Ab.put, putO, Nat.reduceEqDiff, ↓reduceIte, Option.map_some, Option.bind_some, D.val, D.cond, Bool.and_true, Bool.true_and, Bool.false_eq_true, reduceCtorEq, List.getElem?_cons_zero, List.getElem?_cons_succ, List.drop_zero, List.take_zero, List.drop_succ_cons, List.take_succ_cons, List.drop_nil, List.take_nil, List.length_cons, List.length_nil, List.map_cons, List.map_nil, List.cons_append, List.nil_append, List.set_cons_zero, List.set_cons_succ, Nat.reduceAdd, Nat.add_zero, Nat.zero_add, Nat.reduceLeDiff, if_true, decide_true, rows_len, rows_get, bytes_get, bytes_len, enc_rInt, enc_rStr, enc_rBool, enc_rEnd, enc_rSl, enc_rCat, enc_rVia, Int.toNat_natCast, Int.natCast_nonneg, Ob.slice?]; rfl) (by first | rfl | omega | (simp; done) | (simp; omega)) ?_
      refine osS (by simp (disch := omega) only [stepOp, aval, opv, Ab.get, Ab.put, putO, Nat.reduceEqDiff, ↓reduceIte, Option.map_some, Option.bind_some, D.val, D.cond, Bool.and_true, Bool.true_and, Bool.false_eq_true, reduceCtorEq, binD, bitsD, Nat.reduceAdd, Nat.reduceSub, Nat.reduceMul, Nat.reduceLeDiff, Nat.add_zero, Nat.zero_add, Int.reduceToNat, Int.reduceLE, Int.reduceLT, Int.reduceAdd, Int.reduceSub, Int.reduceMul, Int.reduceNeg, Int.reduceEq, Int.toNat_natCast, Int.natCast_nonneg, decide_true, decide_false, IntWalk.i64_in, Bool.not_true, Bool.not_false, Bool.or_true, Bool.true_or, Bool.or_false, Bool.false_or, Bool.and_false, Bool.false_and, beq_self_eq_true, or_eqf, Bool.and_self, Bool.not_or_self, Bool.or_not_self, beq_true, beq_false, Bool.not_not, bne_self_eq_false]; rfl) (by first | rfl | omega | (simp; done) | (simp; omega)) ?_
      refine osN ?_
      simp only [keep, memN, Nat.reduceEqDiff, if_true, if_false, ↓reduceIte, Option.getD_none, Option.getD_some, List.append_nil, List.cons_append, List.nil_append, Bool.false_eq_true]
      refine hK _ _ ?_
      clear hK K
      refine thenQ_normal ?_
      refine WI.cond (b := _) rfl rfl (fun h1 => ?_) (fun h1 => ?_)
      · try simp only [Bool.or_eq_true, Bool.and_eq_true, Bool.not_eq_true', Bool.or_eq_false_iff, Bool.and_eq_false_iff, Bool.not_eq_false', decide_eq_true_eq, decide_eq_false_iff_not, Bool.not_eq_true, gt_iff_lt, ge_iff_le, Int.not_lt, Int.not_le, bne_iff_ne, ne_eq, beq_iff_eq, bne_eq_false_iff_eq, beq_eq_false_iff_ne] at h1
        refine WI.seq ?_
        refine WI.regA noTabs_ok [4] (fun K hK => ?_)
        refine osS (by simp only [stepOp, aval, opv, Ab.get, Ab.put, putO, Nat.reduceEqDiff, ↓reduceIte, Option.map_some, Option.bind_some, D.val, D.cond, Bool.and_true, Bool.true_and, Bool.false_eq_true, reduceCtorEq]; rfl) rfl ?_
        refine osS (by simp only [stepOp, aval, opv, Ab.get, Ab.put, putO, Nat.reduceEqDiff, ↓reduceIte, Option.map_some, Option.bind_some, D.val, D.cond, Bool.and_true, Bool.true_and, Bool.false_eq_true, reduceCtorEq]; rfl) rfl ?_
        refine osN ?_
        simp only [keep, memN, Nat.reduceEqDiff, if_true, if_false, ↓reduceIte, Option.getD_none, Option.getD_some, List.append_nil, List.cons_append, List.nil_append, Bool.false_eq_true]
        refine hK _ _ ?_
        clear hK K
        refine thenQ_normal ?_
        refine WI.ret ?_
        refine blockQ_ret ?_
        refine thenQ_ret ?_
        refine thenQ_ret ?_
        refine blockQ_ret ?_
        refine thenQ_ret ?_
        refine ⟨.inr rfl, ?_⟩
        -- leaf 0
        simp (disch := omega) only [retD, resD, finD, plainD, freezeD, freezeL, aval, opv, Ab.get, Nat.reduceEqDiff, ↓reduceIte, Option.map_some, Option.bind_some, D.val, D.cond, Bool.and_true, Bool.true_and, List.getElem?_cons_zero, List.getElem?_cons_succ, List.drop_zero, List.take_zero, List.drop_succ_cons, List.take_succ_cons, List.drop_nil, List.take_nil, List.length_cons, List.length_nil, List.map_cons, List.map_nil, List.cons_append, List.nil_append, List.set_cons_zero, List.set_cons_succ, Nat.reduceAdd, Nat.add_zero, Nat.zero_add, Nat.reduceLeDiff, if_true, decide_true, rows_len, rows_get, bytes_get, bytes_len, enc_rInt, enc_rStr, enc_rBool, enc_rEnd, enc_rSl, enc_rCat, enc_rVia, Int.toNat_natCast, Int.natCast_nonneg, Ob.slice?, rows_drop, rows_take, rows_app, List.length_append, List.take_length, Ob.slice?]
        refine ⟨_, _, rfl, ?_⟩
        simp only [mkR]
        rw [idxI_at l w i (by omega) he h1]
      · try simp only [Bool.or_eq_true, Bool.and_eq_true, Bool.not_eq_true', Bool.or_eq_false_iff, Bool.and_eq_false_iff, Bool.not_eq_false', decide_eq_true_eq, decide_eq_false_iff_not, Bool.not_eq_true, gt_iff_lt, ge_iff_le, Int.not_lt, Int.not_le, bne_iff_ne, ne_eq, beq_iff_eq, bne_eq_false_iff_eq, beq_eq_false_iff_ne] at h1
        refine WI.skip ?_
        refine blockQ_normal ?_
        refine thenQ_normal ?_
        refine WI.regA noTabs_ok [0, 1, 7, 8] (fun K hK => ?_)
        refine osS (by simp (disch := omega) only [stepOp, aval, opv, Ab.get, Ab.put, putO, Nat.reduceEqDiff, ↓reduceIte, Option.map_some, Option.bind_some, D.val, D.cond, Bool.and_true, Bool.true_and, Bool.false_eq_true, reduceCtorEq, binD, bitsD, Nat.reduceAdd, Nat.reduceSub, Nat.reduceMul, Nat.reduceLeDiff, Nat.add_zero, Nat.zero_add, Int.reduceToNat, Int.reduceLE, Int.reduceLT, Int.reduceAdd, Int.reduceSub, Int.reduceMul, Int.reduceNeg, Int.reduceEq, Int.toNat_natCast, Int.natCast_nonneg, decide_true, decide_false, IntWalk.i64_in, Bool.not_true, Bool.not_false, Bool.or_true, Bool.true_or, Bool.or_false, Bool.false_or, Bool.and_false, Bool.false_and, beq_self_eq_true, or_eqf, Bool.and_self, Bool.not_or_self, Bool.or_not_self, beq_true, beq_false, Bool.not_not, bne_self_eq_false]; rfl) (by first | rfl | omega | (simp; done) | (simp; omega)) ?_
        refine osS (by simp only [stepOp, aval, opv, Ab.get, Ab.put, putO, Nat.reduceEqDiff, ↓reduceIte, Option.map_some, Option.bind_some, D.val, D.cond, Bool.and_true, Bool.true_and, Bool.false_eq_true, reduceCtorEq]; rfl) rfl ?_
        refine osN ?_
        simp only [keep, memN, Nat.reduceEqDiff, if_true, if_false, ↓reduceIte, Option.getD_none, Option.getD_some, List.append_nil, List.cons_append, List.nil_append, Bool.false_eq_true]
        refine hK _ _ ?_
        clear hK K
        refine thenQ_normal ?_
        exact ⟨⟨i + 1, by simp, rfl, by omega, notin_take l w i (by omega) he h1⟩, by simp [down, Ab.get, D.val, intOf?]; omega⟩
    · try simp only [Bool.or_eq_true, Bool.and_eq_true, Bool.not_eq_true', Bool.or_eq_false_iff, Bool.and_eq_false_iff, Bool.not_eq_false', decide_eq_true_eq, decide_eq_false_iff_not, Bool.not_eq_true, gt_iff_lt, ge_iff_le, Int.not_lt, Int.not_le, bne_iff_ne, ne_eq, beq_iff_eq, bne_eq_false_iff_eq, beq_eq_false_iff_ne] at h0
      refine WI.exit ?_
      refine thenQ_exit ?_
      refine thenQ_exit ?_
      refine blockQ_hit ?_
      refine thenQ_normal ?_
      refine WI.seq ?_
      refine WI.regA noTabs_ok [4] (fun K hK => ?_)
      refine osS (by simp only [stepOp, aval, opv, Ab.get, Ab.put, putO, Nat.reduceEqDiff, ↓reduceIte, Option.map_some, Option.bind_some, D.val, D.cond, Bool.and_true, Bool.true_and, Bool.false_eq_true, reduceCtorEq]; rfl) rfl ?_
      refine osN ?_
      simp only [keep, memN, Nat.reduceEqDiff, if_true, if_false, ↓reduceIte, Option.getD_none, Option.getD_some, List.append_nil, List.cons_append, List.nil_append, Bool.false_eq_true]
      refine hK _ _ ?_
      clear hK K
      refine thenQ_normal ?_
      refine WI.ret ?_
      refine ⟨.inr rfl, ?_⟩
      -- leaf 1
      simp (disch := omega) only [retD, resD, finD, plainD, freezeD, freezeL, aval, opv, Ab.get, Nat.reduceEqDiff, ↓reduceIte, Option.map_some, Option.bind_some, D.val, D.cond, Bool.and_true, Bool.true_and, List.getElem?_cons_zero, List.getElem?_cons_succ, List.drop_zero, List.take_zero, List.drop_succ_cons, List.take_succ_cons, List.drop_nil, List.take_nil, List.length_cons, List.length_nil, List.map_cons, List.map_nil, List.cons_append, List.nil_append, List.set_cons_zero, List.set_cons_succ, Nat.reduceAdd, Nat.add_zero, Nat.zero_add, Nat.reduceLeDiff, if_true, decide_true, rows_len, rows_get, bytes_get, bytes_len, enc_rInt, enc_rStr, enc_rBool, enc_rEnd, enc_rSl, enc_rCat, enc_rVia, Int.toNat_natCast, Int.natCast_nonneg, Ob.slice?, rows_drop, rows_take, rows_app, List.length_append, List.take_length, Ob.slice?]
      refine ⟨_, _, rfl, ?_⟩
      simp only [mkR]
      rw [List.take_of_length_le (by omega)] at he; rw [idxI, if_neg he]
end Go.Proofs.Ytogplpcamiicgaa
