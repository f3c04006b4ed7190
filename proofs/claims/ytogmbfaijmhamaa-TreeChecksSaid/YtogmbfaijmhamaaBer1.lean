/- Ber: tags, lengths. -/
import Derived.Test.YtogmbfaijmhamaaAb34
import Derived.Test.YtogmbfaijmhamaaIc
import Derived.KernelRfl
set_option linter.unusedSimpArgs false
set_option linter.unusedVariables false
namespace Go.Proofs.Ytogmbfaijmhamaa
open Go.RowKit Go.Bo Go.Ab

theorem and31 (a : Int) : IntKind.i64.wrap ((BitVec.ofInt IntKind.i64.bits a &&& BitVec.ofInt IntKind.i64.bits 31).toNat : Int) = a % 32 := by
  have h1 : (BitVec.ofInt IntKind.i64.bits 31).toNat = 31 := rfl
  have h2 : (BitVec.ofInt IntKind.i64.bits a).toNat = (a % 18446744073709551616).toNat := by
    rw [BitVec.toNat_ofInt]; rfl
  rw [BitVec.toNat_and, h1, h2, show (31 : Nat) = 2 ^ 5 - 1 from rfl, Nat.and_two_pow_sub_one_eq_mod, IntWalk.i64_in _ (by omega)]
  omega
/-- Whether a number may be a tag. -/
def tagB (t : Int) : Bool := decide (0 ≤ t ∧ t ≤ 254) && !decide (t % 32 = 31)
theorem bad_c (t : Int) : PCalls Try.prog 42 [.x (.int .i64 t)] (.x (.bool (!tagB t))) := by
  refine FCalls.pure (fcallsG (fz := true) G_ok (p := i42) rfl _ (Nat.le_of_ble_eq_true rfl) _ (fun C0 E0 => ?_)) rfl
  dsimp only [i42, argsφ]
  refine WI.seq ?_
  refine WI.regA noTabs_ok [0] (fun K hK => ?_)
  refine osS (by simp only [zC, stepOp, aval, opv, Ab.get, Ab.put, putO, Nat.reduceEqDiff, ↓reduceIte, D.val, D.cond, reduceCtorEq]; rfl) rfl ?_
  refine osN ?_
  simp only [keep, memN, Nat.reduceEqDiff, if_true, if_false, ↓reduceIte, Option.getD_none, Option.getD_some, List.append_nil, List.cons_append, List.nil_append, Bool.false_eq_true]
  refine hK _ _ ?_
  clear hK K
  refine thenQ_normal ?_
  refine WI.seq ?_
  refine WI.regA noTabs_ok [2] (fun K hK => ?_)
  refine osS (by simp only [zC, stepOp, aval, opv, Ab.get, Ab.put, putO, Nat.reduceEqDiff, ↓reduceIte, D.val, D.cond, reduceCtorEq]; rfl) rfl ?_
  refine osS (by simp (disch := omega) only [zG, zN, zC, stepOp, aval, opv, Ab.get, Ab.put, putO, Nat.reduceEqDiff, ↓reduceIte, D.val, D.cond, reduceCtorEq, binD, bitsD, Nat.reduceAdd, Nat.reduceSub, Nat.reduceMul, Nat.reduceLeDiff, Int.reduceToNat, Int.reduceLE, Int.reduceLT, Int.reduceAdd, Int.reduceSub, Int.reduceMul, Int.reduceNeg, Int.reduceEq, bne_self_eq_false, and31]; rfl) (by first | with_reducible rfl | omega | (simp; done) | (simp; omega) | rfl) ?_
  refine osS (by simp only [zC, stepOp, aval, opv, Ab.get, Ab.put, putO, Nat.reduceEqDiff, ↓reduceIte, D.val, D.cond, reduceCtorEq]; rfl) rfl ?_
  refine osS (by simp (disch := omega) only [zG, zC, stepOp, aval, opv, Ab.get, Ab.put, putO, Nat.reduceEqDiff, ↓reduceIte, D.val, D.cond, reduceCtorEq, and31]; rfl) rfl ?_
  refine osS (by simp (disch := omega) only [zG, zN, zC, stepOp, aval, opv, Ab.get, Ab.put, putO, Nat.reduceEqDiff, ↓reduceIte, D.val, D.cond, reduceCtorEq, binD, bitsD, Nat.reduceAdd, Nat.reduceSub, Nat.reduceMul, Nat.reduceLeDiff, Int.reduceToNat, Int.reduceLE, Int.reduceLT, Int.reduceAdd, Int.reduceSub, Int.reduceMul, Int.reduceNeg, Int.reduceEq, bne_self_eq_false, and31]; rfl) (by first | with_reducible rfl | omega | (simp; done) | (simp; omega) | rfl) ?_
  refine osS (by simp (disch := omega) only [zG, zC, stepOp, aval, opv, Ab.get, Ab.put, putO, Nat.reduceEqDiff, ↓reduceIte, D.val, D.cond, reduceCtorEq, Bool.cond_true_left, Bool.cond_false_right, cond_true, cond_false, and31]; rfl) (by first | with_reducible rfl | omega | (simp; done) | (simp; omega) | rfl) ?_
  refine osS (by simp only [zC, stepOp, aval, opv, Ab.get, Ab.put, putO, Nat.reduceEqDiff, ↓reduceIte, D.val, D.cond, reduceCtorEq]; rfl) rfl ?_
  refine osS (by simp (disch := omega) only [zG, zC, stepOp, aval, opv, Ab.get, Ab.put, putO, Nat.reduceEqDiff, ↓reduceIte, D.val, D.cond, reduceCtorEq, and31]; rfl) rfl ?_
  refine osS (by simp (disch := omega) only [zG, zN, zC, stepOp, aval, opv, Ab.get, Ab.put, putO, Nat.reduceEqDiff, ↓reduceIte, D.val, D.cond, reduceCtorEq, binD, bitsD, Nat.reduceAdd, Nat.reduceSub, Nat.reduceMul, Nat.reduceLeDiff, Int.reduceToNat, Int.reduceLE, Int.reduceLT, Int.reduceAdd, Int.reduceSub, Int.reduceMul, Int.reduceNeg, Int.reduceEq, bne_self_eq_false, and31]; rfl) (by first | with_reducible rfl | omega | (simp; done) | (simp; omega) | rfl) ?_
  refine osS (by simp (disch := omega) only [zG, zN, zC, stepOp, aval, opv, Ab.get, Ab.put, putO, Nat.reduceEqDiff, ↓reduceIte, D.val, D.cond, reduceCtorEq, binD, bitsD, Nat.reduceAdd, Nat.reduceSub, Nat.reduceMul, Nat.reduceLeDiff, Int.reduceToNat, Int.reduceLE, Int.reduceLT, Int.reduceAdd, Int.reduceSub, Int.reduceMul, Int.reduceNeg, Int.reduceEq, bne_self_eq_false, and31]; rfl) (by first | with_reducible rfl | omega | (simp; done) | (simp; omega) | rfl) ?_
  refine osS (by simp (disch := omega) only [zG, zC, stepOp, aval, opv, Ab.get, Ab.put, putO, Nat.reduceEqDiff, ↓reduceIte, D.val, D.cond, reduceCtorEq, Bool.cond_true_left, Bool.cond_false_right, cond_true, cond_false, and31]; rfl) (by first | with_reducible rfl | omega | (simp; done) | (simp; omega) | rfl) ?_
  refine osS (by simp only [zC, stepOp, aval, opv, Ab.get, Ab.put, putO, Nat.reduceEqDiff, ↓reduceIte, D.val, D.cond, reduceCtorEq]; rfl) rfl ?_
  refine osN ?_
  simp only [keep, memN, Nat.reduceEqDiff, if_true, if_false, ↓reduceIte, Option.getD_none, Option.getD_some, List.append_nil, List.cons_append, List.nil_append, Bool.false_eq_true]
  refine hK _ _ ?_
  clear hK K
  refine thenQ_normal ?_
  refine WI.ret ?_
  refine ⟨.inr rfl, ?_⟩
  -- leaf 0
  simp (disch := omega) only [zF, retD, resD, finD, plainD, freezeD, freezeL, aval, opv, Ab.get, Nat.reduceEqDiff, ↓reduceIte, D.val, D.cond, Nat.reduceAdd, Nat.reduceLeDiff, Ob.slice?, and31]
  refine ⟨_, _, rfl, ?_⟩
  simp only [mkR]
  congr 2; unfold tagB; rw [Bool.eq_iff_iff]; simp <;> omega
theorem tagged_c (t : Int) : PCalls Try.prog 44 [.x (.int .i64 t)] (.x (.bool (tagB t))) := by
  refine FCalls.pure (fcallsG (fz := true) G_ok (p := i44) rfl _ (Nat.le_of_ble_eq_true rfl) _ (fun C0 E0 => ?_)) rfl
  dsimp only [i44, argsφ]
  refine WI.seq ?_
  refine WI.regA noTabs_ok [0] (fun K hK => ?_)
  refine osS (by simp only [zC, stepOp, aval, opv, Ab.get, Ab.put, putO, Nat.reduceEqDiff, ↓reduceIte, D.val, D.cond, reduceCtorEq]; rfl) rfl ?_
  refine osN ?_
  simp only [keep, memN, Nat.reduceEqDiff, if_true, if_false, ↓reduceIte, Option.getD_none, Option.getD_some, List.append_nil, List.cons_append, List.nil_append, Bool.false_eq_true]
  refine hK _ _ ?_
  clear hK K
  refine thenQ_normal ?_
  refine WI.seq ?_
  refine WI.regA noTabs_ok [2] (fun K hK => ?_)
  refine osS (by simp only [zC, stepOp, aval, opv, Ab.get, Ab.put, putO, Nat.reduceEqDiff, ↓reduceIte, D.val, D.cond, reduceCtorEq]; rfl) rfl ?_
  refine osS (by simp (disch := omega) only [zG, zN, zC, stepOp, aval, opv, Ab.get, Ab.put, putO, Nat.reduceEqDiff, ↓reduceIte, D.val, D.cond, reduceCtorEq, binD, bitsD, Nat.reduceAdd, Nat.reduceSub, Nat.reduceMul, Nat.reduceLeDiff, Int.reduceToNat, Int.reduceLE, Int.reduceLT, Int.reduceAdd, Int.reduceSub, Int.reduceMul, Int.reduceNeg, Int.reduceEq, bne_self_eq_false]; rfl) (by first | with_reducible rfl | omega | (simp; done) | (simp; omega) | rfl) ?_
  refine osS (by simp only [zC, stepOp, aval, opv, Ab.get, Ab.put, putO, Nat.reduceEqDiff, ↓reduceIte, D.val, D.cond, reduceCtorEq]; rfl) rfl ?_
  refine osS (by simp (disch := omega) only [zG, zC, stepOp, aval, opv, Ab.get, Ab.put, putO, Nat.reduceEqDiff, ↓reduceIte, D.val, D.cond, reduceCtorEq]; rfl) rfl ?_
  refine osS (by simp (disch := omega) only [zG, zN, zC, stepOp, aval, opv, Ab.get, Ab.put, putO, Nat.reduceEqDiff, ↓reduceIte, D.val, D.cond, reduceCtorEq, binD, bitsD, Nat.reduceAdd, Nat.reduceSub, Nat.reduceMul, Nat.reduceLeDiff, Int.reduceToNat, Int.reduceLE, Int.reduceLT, Int.reduceAdd, Int.reduceSub, Int.reduceMul, Int.reduceNeg, Int.reduceEq, bne_self_eq_false]; rfl) (by first | with_reducible rfl | omega | (simp; done) | (simp; omega) | rfl) ?_
  refine osS (by simp (disch := omega) only [zG, zC, stepOp, aval, opv, Ab.get, Ab.put, putO, Nat.reduceEqDiff, ↓reduceIte, D.val, D.cond, reduceCtorEq, Bool.cond_true_left, Bool.cond_false_right, cond_true, cond_false]; rfl) (by first | with_reducible rfl | omega | (simp; done) | (simp; omega) | rfl) ?_
  refine osS (by simp only [zC, stepOp, aval, opv, Ab.get, Ab.put, putO, Nat.reduceEqDiff, ↓reduceIte, D.val, D.cond, reduceCtorEq]; rfl) rfl ?_
  refine osS (by simp (disch := omega) only [zG, zC, stepOp, aval, opv, Ab.get, Ab.put, putO, Nat.reduceEqDiff, ↓reduceIte, D.val, D.cond, reduceCtorEq]; rfl) rfl ?_
  refine osS (by simp (disch := omega) only [zG, zN, zC, stepOp, aval, opv, Ab.get, Ab.put, putO, Nat.reduceEqDiff, ↓reduceIte, D.val, D.cond, reduceCtorEq, binD, bitsD, Nat.reduceAdd, Nat.reduceSub, Nat.reduceMul, Nat.reduceLeDiff, Int.reduceToNat, Int.reduceLE, Int.reduceLT, Int.reduceAdd, Int.reduceSub, Int.reduceMul, Int.reduceNeg, Int.reduceEq, bne_self_eq_false]; rfl) (by first | with_reducible rfl | omega | (simp; done) | (simp; omega) | rfl) ?_
  refine osS (by simp (disch := omega) only [zG, zN, zC, stepOp, aval, opv, Ab.get, Ab.put, putO, Nat.reduceEqDiff, ↓reduceIte, D.val, D.cond, reduceCtorEq, binD, bitsD, Nat.reduceAdd, Nat.reduceSub, Nat.reduceMul, Nat.reduceLeDiff, Int.reduceToNat, Int.reduceLE, Int.reduceLT, Int.reduceAdd, Int.reduceSub, Int.reduceMul, Int.reduceNeg, Int.reduceEq, bne_self_eq_false]; rfl) (by first | with_reducible rfl | omega | (simp; done) | (simp; omega) | rfl) ?_
  refine osS (by simp (disch := omega) only [zG, zC, stepOp, aval, opv, Ab.get, Ab.put, putO, Nat.reduceEqDiff, ↓reduceIte, D.val, D.cond, reduceCtorEq, Bool.cond_true_left, Bool.cond_false_right, cond_true, cond_false]; rfl) (by first | with_reducible rfl | omega | (simp; done) | (simp; omega) | rfl) ?_
  refine osS (by simp only [zC, stepOp, aval, opv, Ab.get, Ab.put, putO, Nat.reduceEqDiff, ↓reduceIte, D.val, D.cond, reduceCtorEq]; rfl) rfl ?_
  refine osN ?_
  simp only [keep, memN, Nat.reduceEqDiff, if_true, if_false, ↓reduceIte, Option.getD_none, Option.getD_some, List.append_nil, List.cons_append, List.nil_append, Bool.false_eq_true]
  refine hK _ _ ?_
  clear hK K
  refine thenQ_normal ?_
  refine WI.ret ?_
  refine ⟨.inr rfl, ?_⟩
  -- leaf 0
  simp (disch := omega) only [zF, retD, resD, finD, plainD, freezeD, freezeL, aval, opv, Ab.get, Nat.reduceEqDiff, ↓reduceIte, D.val, D.cond, Nat.reduceAdd, Nat.reduceLeDiff, Ob.slice?]
  refine ⟨_, _, rfl, ?_⟩
  simp only [mkR]
  congr 2; unfold tagB
  by_cases h : 0 ≤ t
  · rw [Int.tmod_eq_emod_of_nonneg h, Bool.eq_iff_iff]; simp <;> omega
  · rw [decide_eq_false (show ¬ t ≥ 0 from h), decide_eq_false (show ¬ (0 ≤ t ∧ t ≤ 254) from fun h' => h h'.1)]; simp

/-- A number's bytes. -/
def be (n : Nat) : List UInt8 := if h : n = 0 then [] else be (n / 256) ++ [UInt8.ofNat n]
termination_by n
decreasing_by omega
theorem be_pos (n : Nat) (h : 0 < n) : be n = be (n / 256) ++ [UInt8.ofNat n] := by rw [be, dif_neg (by omega)]
theorem be_zero : be 0 = [] := by rw [be, dif_pos rfl]
theorem be_len (k : Nat) : ∀ n, n < 256 ^ k → (be n).length ≤ k := by
  induction k with
  | zero => intro n h; simp at h; subst h; simp [be_zero]
  | succ k ih =>
    intro n h
    by_cases h0 : n = 0
    · subst h0; simp [be_zero]
    · rw [be_pos n (by omega)]
      have := ih (n / 256) (by rw [Nat.div_lt_iff_lt_mul (by omega)]; rwa [Nat.pow_succ] at h)
      simp; omega
def lenB (n : Nat) : List UInt8 := if n < 128 then [UInt8.ofNat n] else UInt8.ofNat (128 + (be n).length) :: be n
theorem lenB_le (n : Nat) (h : n < 4294967296) : (lenB n).length ≤ 5 := by
  have := be_len 4 n h
  unfold lenB
  split <;> simp <;> omega
set_option maxHeartbeats 1000000 in
theorem length_c (n : Nat) (hn : n < 4294967296) : PCalls Try.prog 43 [.x (.int .i64 n)] (.x (.str (lenB n))) := by
  refine FCalls.pure (fcallsG (fz := true) G_ok (p := i43) rfl _ (Nat.le_of_ble_eq_true rfl) _ (fun C0 E0 => ?_)) rfl
  dsimp only [i43, argsφ]
  refine WI.seq ?_
  refine WI.regA noTabs_ok [0] (fun K hK => ?_)
  refine osS (by simp only [zC, stepOp, aval, opv, Ab.get, Ab.put, putO, Nat.reduceEqDiff, ↓reduceIte, D.val, D.cond, reduceCtorEq]; rfl) rfl ?_
  refine osN ?_
  simp only [keep, memN, Nat.reduceEqDiff, if_true, if_false, ↓reduceIte, Option.getD_none, Option.getD_some, List.append_nil, List.cons_append, List.nil_append, Bool.false_eq_true]
  refine hK _ _ ?_
  clear hK K
  refine thenQ_normal ?_
  refine WI.scope 0 rfl (fun φ os => ∃ (m : Nat) (acc : List UInt8), φ = [(0, .x (.int .i64 m)), (3, .ref 0 acc.length 0 acc.length)] ∧ os = [.rows false 5 1 (acc.map byteRow)] ∧ m ≤ n ∧ be n = be m ++ acc ∧ 128 ≤ n) (fun φ _ => ((intOf? (get φ 0).val).getD 0).toNat) ?_ (fun φ os hI => ?_)
  · refine WI.seq ?_
    refine WI.seq ?_
    refine WI.regA noTabs_ok [0, 5] (fun K hK => ?_)
    refine osS (by simp only [zC, stepOp, aval, opv, Ab.get, Ab.put, putO, Nat.reduceEqDiff, ↓reduceIte, D.val, D.cond, reduceCtorEq]; rfl) rfl ?_
    refine osS (by simp (disch := omega) only [zG, zN, zC, stepOp, aval, opv, Ab.get, Ab.put, putO, Nat.reduceEqDiff, ↓reduceIte, D.val, D.cond, reduceCtorEq, binD, bitsD, Nat.reduceAdd, Nat.reduceSub, Nat.reduceMul, Nat.reduceLeDiff, Int.reduceToNat, Int.reduceLE, Int.reduceLT, Int.reduceAdd, Int.reduceSub, Int.reduceMul, Int.reduceNeg, Int.reduceEq, bne_self_eq_false, br_wrap, br_wrap128, br_len, br_is, br_of, shr8, bytes_len, bytes_row, bytes_all, List.map_cons, List.all_cons, bytes_take, all_bytes, add1_comm, tdiv256, tmod256, u8_mod]; rfl) (by first | with_reducible rfl | omega | (simp; done) | (simp; omega) | rfl) ?_
    refine osN ?_
    simp only [keep, memN, Nat.reduceEqDiff, if_true, if_false, ↓reduceIte, Option.getD_none, Option.getD_some, List.append_nil, List.cons_append, List.nil_append, Bool.false_eq_true]
    refine hK _ _ ?_
    clear hK K
    refine thenQ_normal ?_
    refine WI.cond (b := _) rfl rfl (fun h0 => ?_) (fun h0 => ?_)
    · try simp only [zB] at h0
      refine WI.seq ?_
      refine WI.regA noTabs_ok [2] (fun K hK => ?_)
      refine osS (by simp only [zC, stepOp, aval, opv, Ab.get, Ab.put, putO, Nat.reduceEqDiff, ↓reduceIte, D.val, D.cond, reduceCtorEq]; rfl) rfl ?_
      refine osS (by simp (disch := omega) only [zM, stepOp, aval, opv, Ab.get, Ab.put, putO, Nat.reduceEqDiff, ↓reduceIte, D.val, D.cond, reduceCtorEq, aact, actT, IE.isCall, D.cells?, Nat.reduceAdd, Nat.reduceLeDiff, Ob.slice?, Nat.reduceSub, Nat.reduceMul, Int.reduceToNat, Int.reduceLE, Int.reduceLT, Int.reduceAdd, Int.reduceSub, Int.reduceMul, Int.reduceNeg, Int.reduceEq, rowsOf, srcOf, okRef, intOf?, partsD, freezeL, freezeD, buildD, slcStrD, slcSlD, optV, zeroO, eqR, eqD, eqFs, eqX, nzD, binD, unD, lenD, evK, evC, Nat.reduceLT, br_wrap, br_wrap128, br_len, br_is, br_of, shr8, bytes_take, all_bytes, add1_comm, tdiv256, tmod256, u8_mod]; rfl) (by first | with_reducible rfl | omega | (simp; done) | (simp; omega) | rfl) ?_
      refine osS (by simp (disch := omega) only [zM, stepOp, aval, opv, Ab.get, Ab.put, putO, Nat.reduceEqDiff, ↓reduceIte, D.val, D.cond, reduceCtorEq, aact, actT, IE.isCall, D.cells?, Nat.reduceAdd, Nat.reduceLeDiff, Ob.slice?, Nat.reduceSub, Nat.reduceMul, Int.reduceToNat, Int.reduceLE, Int.reduceLT, Int.reduceAdd, Int.reduceSub, Int.reduceMul, Int.reduceNeg, Int.reduceEq, rowsOf, srcOf, okRef, intOf?, partsD, freezeL, freezeD, buildD, slcStrD, slcSlD, optV, zeroO, eqR, eqD, eqFs, eqX, nzD, binD, unD, lenD, evK, evC, Nat.reduceLT, br_wrap, br_wrap128, br_len, br_is, br_of, shr8, bytes_take, all_bytes, add1_comm, tdiv256, tmod256, u8_mod]; rfl) (by first | with_reducible rfl | omega | (simp; done) | (simp; omega) | rfl) ?_
      refine osS (by simp (disch := omega) only [zM, stepOp, aval, opv, Ab.get, Ab.put, putO, Nat.reduceEqDiff, ↓reduceIte, D.val, D.cond, reduceCtorEq, aact, actT, IE.isCall, D.cells?, Nat.reduceAdd, Nat.reduceLeDiff, Ob.slice?, Nat.reduceSub, Nat.reduceMul, Int.reduceToNat, Int.reduceLE, Int.reduceLT, Int.reduceAdd, Int.reduceSub, Int.reduceMul, Int.reduceNeg, Int.reduceEq, rowsOf, srcOf, okRef, intOf?, partsD, freezeL, freezeD, buildD, slcStrD, slcSlD, optV, zeroO, eqR, eqD, eqFs, eqX, nzD, binD, unD, lenD, evK, evC, Nat.reduceLT, br_wrap, br_wrap128, br_len, br_is, br_of, shr8, bytes_take, all_bytes, add1_comm, tdiv256, tmod256, u8_mod]; rfl) (by first | with_reducible rfl | omega | (simp; done) | (simp; omega) | rfl) ?_
      refine osS (by simp only [zC, stepOp, aval, opv, Ab.get, Ab.put, putO, Nat.reduceEqDiff, ↓reduceIte, D.val, D.cond, reduceCtorEq]; rfl) rfl ?_
      refine osN ?_
      simp only [keep, memN, Nat.reduceEqDiff, if_true, if_false, ↓reduceIte, Option.getD_none, Option.getD_some, List.append_nil, List.cons_append, List.nil_append, Bool.false_eq_true]
      refine hK _ _ ?_
      clear hK K
      refine thenQ_normal ?_
      refine WI.ret ?_
      refine thenQ_ret ?_
      refine jumpQ_ret ?_
      refine ⟨.inr rfl, ?_⟩
      -- leaf 0
      simp (disch := omega) only [zF, retD, resD, finD, plainD, freezeD, freezeL, aval, opv, Ab.get, Nat.reduceEqDiff, ↓reduceIte, D.val, D.cond, Nat.reduceAdd, Nat.reduceLeDiff, Ob.slice?, br_wrap, br_wrap128, br_len, br_is, br_of, shr8, bytes_row, bytes_all, List.all_cons, bytes_take, all_bytes, add1_comm, tdiv256, tmod256, u8_mod]
      refine ⟨_, _, rfl, ?_⟩
      simp only [mkR]
      rw [lenB, if_pos (by omega)]
    · try simp only [zB] at h0
      refine WI.skip ?_
      refine thenQ_normal ?_
      refine WI.seq ?_
      refine WI.regA noTabs_ok [0, 3] (fun K hK => ?_)
      refine osS (by simp only [zC, stepOp, aval, opv, Ab.get, Ab.put, putO, Nat.reduceEqDiff, ↓reduceIte, D.val, D.cond, reduceCtorEq]; rfl) rfl ?_
      refine osN ?_
      simp only [keep, memN, Nat.reduceEqDiff, if_true, if_false, ↓reduceIte, Option.getD_none, Option.getD_some, List.append_nil, List.cons_append, List.nil_append, Bool.false_eq_true]
      refine hK _ _ ?_
      clear hK K
      refine thenQ_normal ?_
      refine WI.seq ?_
      refine WI.own 3 5 1 rfl ?_
      simp only [put, Nat.reduceEqDiff, ↓reduceIte, List.length_nil, List.nil_append]
      refine WI.label ?_
      refine thenQ_normal ?_
      refine WI.seq ?_
      refine WI.seq ?_
      refine WI.regA noTabs_ok [0, 3, 11] (fun K hK => ?_)
      refine osS (by simp only [zC, stepOp, aval, opv, Ab.get, Ab.put, putO, Nat.reduceEqDiff, ↓reduceIte, D.val, D.cond, reduceCtorEq]; rfl) rfl ?_
      refine osS (by simp (disch := omega) only [zG, zN, zC, stepOp, aval, opv, Ab.get, Ab.put, putO, Nat.reduceEqDiff, ↓reduceIte, D.val, D.cond, reduceCtorEq, binD, bitsD, Nat.reduceAdd, Nat.reduceSub, Nat.reduceMul, Nat.reduceLeDiff, Int.reduceToNat, Int.reduceLE, Int.reduceLT, Int.reduceAdd, Int.reduceSub, Int.reduceMul, Int.reduceNeg, Int.reduceEq, bne_self_eq_false, br_wrap, br_wrap128, br_len, br_is, br_of, shr8, bytes_len, bytes_row, bytes_all, List.map_cons, List.all_cons, bytes_take, all_bytes, add1_comm, tdiv256, tmod256, u8_mod]; rfl) (by first | with_reducible rfl | omega | (simp; done) | (simp; omega) | rfl) ?_
      refine osN ?_
      simp only [keep, memN, Nat.reduceEqDiff, if_true, if_false, ↓reduceIte, Option.getD_none, Option.getD_some, List.append_nil, List.cons_append, List.nil_append, Bool.false_eq_true]
      refine hK _ _ ?_
      clear hK K
      refine thenQ_normal ?_
      refine WI.cond (b := _) rfl rfl (fun h1 => ?_) (fun h1 => ?_)
      · try simp only [zB] at h1
        refine WI.seq ?_
        refine WI.regA noTabs_ok [0, 3] (fun K hK => ?_)
        refine osS (by simp only [zC, stepOp, aval, opv, Ab.get, Ab.put, putO, Nat.reduceEqDiff, ↓reduceIte, D.val, D.cond, reduceCtorEq]; rfl) rfl ?_
        refine osS (by simp (disch := omega) only [zM, stepOp, aval, opv, Ab.get, Ab.put, putO, Nat.reduceEqDiff, ↓reduceIte, D.val, D.cond, reduceCtorEq, aact, actT, IE.isCall, D.cells?, Nat.reduceAdd, Nat.reduceLeDiff, Ob.slice?, Nat.reduceSub, Nat.reduceMul, Int.reduceToNat, Int.reduceLE, Int.reduceLT, Int.reduceAdd, Int.reduceSub, Int.reduceMul, Int.reduceNeg, Int.reduceEq, rowsOf, srcOf, okRef, intOf?, partsD, freezeL, freezeD, buildD, slcStrD, slcSlD, optV, zeroO, eqR, eqD, eqFs, eqX, nzD, binD, unD, lenD, evK, evC, Nat.reduceLT, br_wrap, br_wrap128, br_len, br_is, br_of, shr8, bytes_take, all_bytes, add1_comm, tdiv256, tmod256, u8_mod]; rfl) (by first | with_reducible rfl | omega | (simp; done) | (simp; omega) | rfl) ?_
        refine osS (by simp (disch := omega) only [zM, stepOp, aval, opv, Ab.get, Ab.put, putO, Nat.reduceEqDiff, ↓reduceIte, D.val, D.cond, reduceCtorEq, aact, actT, IE.isCall, D.cells?, Nat.reduceAdd, Nat.reduceLeDiff, Ob.slice?, Nat.reduceSub, Nat.reduceMul, Int.reduceToNat, Int.reduceLE, Int.reduceLT, Int.reduceAdd, Int.reduceSub, Int.reduceMul, Int.reduceNeg, Int.reduceEq, rowsOf, srcOf, okRef, intOf?, partsD, freezeL, freezeD, buildD, slcStrD, slcSlD, optV, zeroO, eqR, eqD, eqFs, eqX, nzD, binD, unD, lenD, evK, evC, Nat.reduceLT, br_wrap, br_wrap128, br_len, br_is, br_of, shr8, bytes_take, all_bytes, add1_comm, tdiv256, tmod256, u8_mod]; rfl) (by first | with_reducible rfl | omega | (simp; done) | (simp; omega) | rfl) ?_
        refine osS (by simp only [zC, stepOp, aval, opv, Ab.get, Ab.put, putO, Nat.reduceEqDiff, ↓reduceIte, D.val, D.cond, reduceCtorEq]; rfl) rfl ?_
        refine osS (by simp (disch := omega) only [zM, stepOp, aval, opv, Ab.get, Ab.put, putO, Nat.reduceEqDiff, ↓reduceIte, D.val, D.cond, reduceCtorEq, aact, actT, IE.isCall, D.cells?, Nat.reduceAdd, Nat.reduceLeDiff, Ob.slice?, Nat.reduceSub, Nat.reduceMul, Int.reduceToNat, Int.reduceLE, Int.reduceLT, Int.reduceAdd, Int.reduceSub, Int.reduceMul, Int.reduceNeg, Int.reduceEq, rowsOf, srcOf, okRef, intOf?, partsD, freezeL, freezeD, buildD, slcStrD, slcSlD, optV, zeroO, eqR, eqD, eqFs, eqX, nzD, binD, unD, lenD, evK, evC, Nat.reduceLT, br_wrap, br_wrap128, br_len, br_is, br_of, shr8, bytes_take, all_bytes, add1_comm, tdiv256, tmod256, u8_mod]; rfl) (by first | with_reducible rfl | omega | (simp; done) | (simp; omega) | rfl) ?_
        refine osS (by simp only [zC, stepOp, aval, opv, Ab.get, Ab.put, putO, Nat.reduceEqDiff, ↓reduceIte, D.val, D.cond, reduceCtorEq]; rfl) rfl ?_
        refine osN ?_
        simp only [keep, memN, Nat.reduceEqDiff, if_true, if_false, ↓reduceIte, Option.getD_none, Option.getD_some, List.append_nil, List.cons_append, List.nil_append, Bool.false_eq_true]
        refine hK _ _ ?_
        clear hK K
        refine thenQ_normal ?_
        refine WI.seq ?_
        refine WI.pick [1] rfl ?_
        simp (disch := decide) only [zV, frzL, nrmφ, nrmO, onF, D.vw, vwL, D.on, D.inP, inL, memB, D.ren, renL, inv, fpO, Ob.mp, Ob.ren, D.nn, nnφ, Nat.reduceBEq, Nat.reduceEqDiff, Nat.reduceAdd, ↓reduceIte]
        refine WI.regA noTabs_ok [0, 3] (fun K hK => ?_)
        refine osS (by simp only [zC, stepOp, aval, opv, Ab.get, Ab.put, putO, Nat.reduceEqDiff, ↓reduceIte, D.val, D.cond, reduceCtorEq]; rfl) rfl ?_
        refine osS (by simp (disch := omega) only [zG, zN, zC, stepOp, aval, opv, Ab.get, Ab.put, putO, Nat.reduceEqDiff, ↓reduceIte, D.val, D.cond, reduceCtorEq, binD, bitsD, Nat.reduceAdd, Nat.reduceSub, Nat.reduceMul, Nat.reduceLeDiff, Int.reduceToNat, Int.reduceLE, Int.reduceLT, Int.reduceAdd, Int.reduceSub, Int.reduceMul, Int.reduceNeg, Int.reduceEq, bne_self_eq_false, br_wrap, br_wrap128, br_len, br_is, br_of, shr8, bytes_len, bytes_row, bytes_all, List.map_cons, List.all_cons, bytes_take, all_bytes, add1_comm, tdiv256, tmod256, u8_mod]; rfl) (by first | with_reducible rfl | omega | (simp; done) | (simp; omega) | rfl) ?_
        refine osS (by simp only [zC, stepOp, aval, opv, Ab.get, Ab.put, putO, Nat.reduceEqDiff, ↓reduceIte, D.val, D.cond, reduceCtorEq]; rfl) rfl ?_
        refine osN ?_
        simp only [keep, memN, Nat.reduceEqDiff, if_true, if_false, ↓reduceIte, Option.getD_none, Option.getD_some, List.append_nil, List.cons_append, List.nil_append, Bool.false_eq_true]
        refine hK _ _ ?_
        clear hK K
        refine thenQ_normal ?_
        refine WI.goto ?_
        refine thenQ_goto ?_
        refine ⟨rfl, ?_⟩
        exact ⟨n / 256, [UInt8.ofNat n], rfl, rfl, by omega, be_pos n (by omega), by omega⟩
      · try simp only [zB] at h1
        refine WI.skip ?_
        refine thenQ_normal ?_
        refine WI.seq ?_
        refine WI.regA noTabs_ok [2] (fun K hK => ?_)
        refine osS (by simp only [zC, stepOp, aval, opv, Ab.get, Ab.put, putO, Nat.reduceEqDiff, ↓reduceIte, D.val, D.cond, reduceCtorEq]; rfl) rfl ?_
        refine osS (by simp (disch := omega) only [zL, zR, zC, stepOp, aval, opv, Ab.get, Ab.put, putO, Nat.reduceEqDiff, ↓reduceIte, D.val, D.cond, reduceCtorEq, lenD, okRef, Nat.reduceAdd, Nat.reduceLeDiff, Ob.slice?, br_wrap, br_wrap128, br_len, br_is, br_of, shr8, bytes_row, bytes_all, List.all_cons, bytes_take, all_bytes, add1_comm, tdiv256, tmod256, u8_mod]; rfl) (by first | with_reducible rfl | omega | (simp; done) | (simp; omega) | rfl) ?_
        refine osS (by simp (disch := omega) only [zG, zN, zC, stepOp, aval, opv, Ab.get, Ab.put, putO, Nat.reduceEqDiff, ↓reduceIte, D.val, D.cond, reduceCtorEq, binD, bitsD, Nat.reduceAdd, Nat.reduceSub, Nat.reduceMul, Nat.reduceLeDiff, Int.reduceToNat, Int.reduceLE, Int.reduceLT, Int.reduceAdd, Int.reduceSub, Int.reduceMul, Int.reduceNeg, Int.reduceEq, bne_self_eq_false, br_wrap, br_wrap128, br_len, br_is, br_of, shr8, bytes_len, bytes_row, bytes_all, List.map_cons, List.all_cons, bytes_take, all_bytes, add1_comm, tdiv256, tmod256, u8_mod]; rfl) (by first | with_reducible rfl | omega | (simp; done) | (simp; omega) | rfl) ?_
        refine osS (by simp (disch := omega) only [zM, stepOp, aval, opv, Ab.get, Ab.put, putO, Nat.reduceEqDiff, ↓reduceIte, D.val, D.cond, reduceCtorEq, aact, actT, IE.isCall, D.cells?, Nat.reduceAdd, Nat.reduceLeDiff, Ob.slice?, Nat.reduceSub, Nat.reduceMul, Int.reduceToNat, Int.reduceLE, Int.reduceLT, Int.reduceAdd, Int.reduceSub, Int.reduceMul, Int.reduceNeg, Int.reduceEq, rowsOf, srcOf, okRef, intOf?, partsD, freezeL, freezeD, buildD, slcStrD, slcSlD, optV, zeroO, eqR, eqD, eqFs, eqX, nzD, binD, unD, lenD, evK, evC, Nat.reduceLT, br_wrap, br_wrap128, br_len, br_is, br_of, shr8, bytes_take, all_bytes, add1_comm, tdiv256, tmod256, u8_mod]; rfl) (by first | with_reducible rfl | omega | (simp; done) | (simp; omega) | rfl) ?_
        refine osS (by simp (disch := omega) only [zM, stepOp, aval, opv, Ab.get, Ab.put, putO, Nat.reduceEqDiff, ↓reduceIte, D.val, D.cond, reduceCtorEq, aact, actT, IE.isCall, D.cells?, Nat.reduceAdd, Nat.reduceLeDiff, Ob.slice?, Nat.reduceSub, Nat.reduceMul, Int.reduceToNat, Int.reduceLE, Int.reduceLT, Int.reduceAdd, Int.reduceSub, Int.reduceMul, Int.reduceNeg, Int.reduceEq, rowsOf, srcOf, okRef, intOf?, partsD, freezeL, freezeD, buildD, slcStrD, slcSlD, optV, zeroO, eqR, eqD, eqFs, eqX, nzD, binD, unD, lenD, evK, evC, Nat.reduceLT, br_wrap, br_wrap128, br_len, br_is, br_of, shr8, bytes_take, all_bytes, add1_comm, tdiv256, tmod256, u8_mod]; rfl) (by first | with_reducible rfl | omega | (simp; done) | (simp; omega) | rfl) ?_
        refine osS (by simp only [zC, stepOp, aval, opv, Ab.get, Ab.put, putO, Nat.reduceEqDiff, ↓reduceIte, D.val, D.cond, reduceCtorEq]; rfl) rfl ?_
        refine osS (by simp (disch := omega) only [zM, stepOp, aval, opv, Ab.get, Ab.put, putO, Nat.reduceEqDiff, ↓reduceIte, D.val, D.cond, reduceCtorEq, aact, actT, IE.isCall, D.cells?, Nat.reduceAdd, Nat.reduceLeDiff, Ob.slice?, Nat.reduceSub, Nat.reduceMul, Int.reduceToNat, Int.reduceLE, Int.reduceLT, Int.reduceAdd, Int.reduceSub, Int.reduceMul, Int.reduceNeg, Int.reduceEq, rowsOf, srcOf, okRef, intOf?, partsD, freezeL, freezeD, buildD, slcStrD, slcSlD, optV, zeroO, eqR, eqD, eqFs, eqX, nzD, binD, unD, lenD, evK, evC, Nat.reduceLT, br_wrap, br_wrap128, br_len, br_is, br_of, shr8, bytes_take, all_bytes, add1_comm, tdiv256, tmod256, u8_mod]; rfl) (by first | with_reducible rfl | omega | (simp; done) | (simp; omega) | rfl) ?_
        refine osS (by simp (disch := omega) only [zM, stepOp, aval, opv, Ab.get, Ab.put, putO, Nat.reduceEqDiff, ↓reduceIte, D.val, D.cond, reduceCtorEq, aact, actT, IE.isCall, D.cells?, Nat.reduceAdd, Nat.reduceLeDiff, Ob.slice?, Nat.reduceSub, Nat.reduceMul, Int.reduceToNat, Int.reduceLE, Int.reduceLT, Int.reduceAdd, Int.reduceSub, Int.reduceMul, Int.reduceNeg, Int.reduceEq, rowsOf, srcOf, okRef, intOf?, partsD, freezeL, freezeD, buildD, slcStrD, slcSlD, optV, zeroO, eqR, eqD, eqFs, eqX, nzD, binD, unD, lenD, evK, evC, Nat.reduceLT, br_wrap, br_wrap128, br_len, br_is, br_of, shr8, bytes_take, all_bytes, add1_comm, tdiv256, tmod256, u8_mod]; rfl) (by first | with_reducible rfl | omega | (simp; done) | (simp; omega) | rfl) ?_
        refine osS (by simp only [zC, stepOp, aval, opv, Ab.get, Ab.put, putO, Nat.reduceEqDiff, ↓reduceIte, D.val, D.cond, reduceCtorEq]; rfl) rfl ?_
        refine osN ?_
        simp only [keep, memN, Nat.reduceEqDiff, if_true, if_false, ↓reduceIte, Option.getD_none, Option.getD_some, List.append_nil, List.cons_append, List.nil_append, Bool.false_eq_true]
        refine hK _ _ ?_
        clear hK K
        refine thenQ_normal ?_
        refine WI.ret ?_
        refine jumpQ_ret ?_
        refine ⟨.inr rfl, ?_⟩
        -- leaf 1
        simp (disch := omega) only [zF, retD, resD, finD, plainD, freezeD, freezeL, aval, opv, Ab.get, Nat.reduceEqDiff, ↓reduceIte, D.val, D.cond, Nat.reduceAdd, Nat.reduceLeDiff, Ob.slice?, br_wrap, br_wrap128, br_len, br_is, br_of, shr8, bytes_row, bytes_all, List.all_cons, bytes_take, all_bytes, add1_comm, tdiv256, tmod256, u8_mod]
        refine ⟨_, _, rfl, ?_⟩
        simp only [mkR]
        exfalso; omega
  · obtain ⟨m, acc, rfl, rfl, hm, hb, hN⟩ := hI
    have hacc : acc.length ≤ 4 := by have h1 := be_len 4 n hn; rw [hb, List.length_append] at h1; omega
    refine WI.seq ?_
    refine WI.skip ?_
    refine thenQ_normal ?_
    refine WI.seq ?_
    refine WI.seq ?_
    refine WI.regA noTabs_ok [0, 3, 11] (fun K hK => ?_)
    refine osS (by simp only [zC, stepOp, aval, opv, Ab.get, Ab.put, putO, Nat.reduceEqDiff, ↓reduceIte, D.val, D.cond, reduceCtorEq]; rfl) rfl ?_
    refine osS (by simp (disch := omega) only [zG, zN, zC, stepOp, aval, opv, Ab.get, Ab.put, putO, Nat.reduceEqDiff, ↓reduceIte, D.val, D.cond, reduceCtorEq, binD, bitsD, Nat.reduceAdd, Nat.reduceSub, Nat.reduceMul, Nat.reduceLeDiff, Int.reduceToNat, Int.reduceLE, Int.reduceLT, Int.reduceAdd, Int.reduceSub, Int.reduceMul, Int.reduceNeg, Int.reduceEq, bne_self_eq_false, br_wrap, br_wrap128, br_len, br_is, br_of, shr8, bytes_len, bytes_row, bytes_all, List.map_cons, List.all_cons, bytes_take, all_bytes, add1_comm, tdiv256, tmod256, u8_mod]; rfl) (by first | with_reducible rfl | omega | (simp; done) | (simp; omega) | rfl) ?_
    refine osN ?_
    simp only [keep, memN, Nat.reduceEqDiff, if_true, if_false, ↓reduceIte, Option.getD_none, Option.getD_some, List.append_nil, List.cons_append, List.nil_append, Bool.false_eq_true]
    refine hK _ _ ?_
    clear hK K
    refine thenQ_normal ?_
    refine WI.cond (b := _) rfl rfl (fun h1 => ?_) (fun h1 => ?_)
    · try simp only [zB] at h1
      refine WI.seq ?_
      refine WI.regA noTabs_ok [0, 3] (fun K hK => ?_)
      refine osS (by simp only [zC, stepOp, aval, opv, Ab.get, Ab.put, putO, Nat.reduceEqDiff, ↓reduceIte, D.val, D.cond, reduceCtorEq]; rfl) rfl ?_
      refine osS (by simp (disch := omega) only [zM, stepOp, aval, opv, Ab.get, Ab.put, putO, Nat.reduceEqDiff, ↓reduceIte, D.val, D.cond, reduceCtorEq, aact, actT, IE.isCall, D.cells?, Nat.reduceAdd, Nat.reduceLeDiff, Ob.slice?, Nat.reduceSub, Nat.reduceMul, Int.reduceToNat, Int.reduceLE, Int.reduceLT, Int.reduceAdd, Int.reduceSub, Int.reduceMul, Int.reduceNeg, Int.reduceEq, rowsOf, srcOf, okRef, intOf?, partsD, freezeL, freezeD, buildD, slcStrD, slcSlD, optV, zeroO, eqR, eqD, eqFs, eqX, nzD, binD, unD, lenD, evK, evC, Nat.reduceLT, br_wrap, br_wrap128, br_len, br_is, br_of, shr8, bytes_take, all_bytes, add1_comm, tdiv256, tmod256, u8_mod]; rfl) (by first | with_reducible rfl | omega | (simp; done) | (simp; omega) | rfl) ?_
      refine osS (by simp (disch := omega) only [zM, stepOp, aval, opv, Ab.get, Ab.put, putO, Nat.reduceEqDiff, ↓reduceIte, D.val, D.cond, reduceCtorEq, aact, actT, IE.isCall, D.cells?, Nat.reduceAdd, Nat.reduceLeDiff, Ob.slice?, Nat.reduceSub, Nat.reduceMul, Int.reduceToNat, Int.reduceLE, Int.reduceLT, Int.reduceAdd, Int.reduceSub, Int.reduceMul, Int.reduceNeg, Int.reduceEq, rowsOf, srcOf, okRef, intOf?, partsD, freezeL, freezeD, buildD, slcStrD, slcSlD, optV, zeroO, eqR, eqD, eqFs, eqX, nzD, binD, unD, lenD, evK, evC, Nat.reduceLT, br_wrap, br_wrap128, br_len, br_is, br_of, shr8, bytes_take, all_bytes, add1_comm, tdiv256, tmod256, u8_mod]; rfl) (by first | with_reducible rfl | omega | (simp; done) | (simp; omega) | rfl) ?_
      refine osS (by simp only [zC, stepOp, aval, opv, Ab.get, Ab.put, putO, Nat.reduceEqDiff, ↓reduceIte, D.val, D.cond, reduceCtorEq]; rfl) rfl ?_
      refine osS (by simp (disch := omega) only [zM, stepOp, aval, opv, Ab.get, Ab.put, putO, Nat.reduceEqDiff, ↓reduceIte, D.val, D.cond, reduceCtorEq, aact, actT, IE.isCall, D.cells?, Nat.reduceAdd, Nat.reduceLeDiff, Ob.slice?, Nat.reduceSub, Nat.reduceMul, Int.reduceToNat, Int.reduceLE, Int.reduceLT, Int.reduceAdd, Int.reduceSub, Int.reduceMul, Int.reduceNeg, Int.reduceEq, rowsOf, srcOf, okRef, intOf?, partsD, freezeL, freezeD, buildD, slcStrD, slcSlD, optV, zeroO, eqR, eqD, eqFs, eqX, nzD, binD, unD, lenD, evK, evC, Nat.reduceLT, br_wrap, br_wrap128, br_len, br_is, br_of, shr8, bytes_take, all_bytes, add1_comm, tdiv256, tmod256, u8_mod]; rfl) (by first | with_reducible rfl | omega | (simp; done) | (simp; omega) | rfl) ?_
      refine osS (by simp only [zC, stepOp, aval, opv, Ab.get, Ab.put, putO, Nat.reduceEqDiff, ↓reduceIte, D.val, D.cond, reduceCtorEq]; rfl) rfl ?_
      refine osN ?_
      simp only [keep, memN, Nat.reduceEqDiff, if_true, if_false, ↓reduceIte, Option.getD_none, Option.getD_some, List.append_nil, List.cons_append, List.nil_append, Bool.false_eq_true]
      refine hK _ _ ?_
      clear hK K
      refine thenQ_normal ?_
      refine WI.seq ?_
      refine WI.pick [1] rfl ?_
      simp (disch := decide) only [zV, frzL, nrmφ, nrmO, onF, D.vw, vwL, D.on, D.inP, inL, memB, D.ren, renL, inv, fpO, Ob.mp, Ob.ren, D.nn, nnφ, Nat.reduceBEq, Nat.reduceEqDiff, Nat.reduceAdd, ↓reduceIte]
      refine WI.regA noTabs_ok [0, 3] (fun K hK => ?_)
      refine osS (by simp only [zC, stepOp, aval, opv, Ab.get, Ab.put, putO, Nat.reduceEqDiff, ↓reduceIte, D.val, D.cond, reduceCtorEq]; rfl) rfl ?_
      refine osS (by simp (disch := omega) only [zG, zN, zC, stepOp, aval, opv, Ab.get, Ab.put, putO, Nat.reduceEqDiff, ↓reduceIte, D.val, D.cond, reduceCtorEq, binD, bitsD, Nat.reduceAdd, Nat.reduceSub, Nat.reduceMul, Nat.reduceLeDiff, Int.reduceToNat, Int.reduceLE, Int.reduceLT, Int.reduceAdd, Int.reduceSub, Int.reduceMul, Int.reduceNeg, Int.reduceEq, bne_self_eq_false, br_wrap, br_wrap128, br_len, br_is, br_of, shr8, bytes_len, bytes_row, bytes_all, List.map_cons, List.all_cons, bytes_take, all_bytes, add1_comm, tdiv256, tmod256, u8_mod]; rfl) (by first | with_reducible rfl | omega | (simp; done) | (simp; omega) | rfl) ?_
      refine osS (by simp only [zC, stepOp, aval, opv, Ab.get, Ab.put, putO, Nat.reduceEqDiff, ↓reduceIte, D.val, D.cond, reduceCtorEq]; rfl) rfl ?_
      refine osN ?_
      simp only [keep, memN, Nat.reduceEqDiff, if_true, if_false, ↓reduceIte, Option.getD_none, Option.getD_some, List.append_nil, List.cons_append, List.nil_append, Bool.false_eq_true]
      refine hK _ _ ?_
      clear hK K
      refine thenQ_normal ?_
      refine WI.goto ?_
      refine thenQ_goto ?_
      refine ⟨rfl, ?_⟩
      exact ⟨⟨m / 256, UInt8.ofNat m :: acc, by simp [Nat.add_comm], rfl, by omega, by rw [hb, be_pos m (by omega)]; simp, hN⟩, by show ((m / 256 : Nat) : Int).toNat < (m : Int).toNat; omega⟩
    · try simp only [zB] at h1
      refine WI.skip ?_
      refine thenQ_normal ?_
      refine WI.seq ?_
      refine WI.regA noTabs_ok [2] (fun K hK => ?_)
      refine osS (by simp only [zC, stepOp, aval, opv, Ab.get, Ab.put, putO, Nat.reduceEqDiff, ↓reduceIte, D.val, D.cond, reduceCtorEq]; rfl) rfl ?_
      refine osS (by simp (disch := omega) only [zL, zR, zC, stepOp, aval, opv, Ab.get, Ab.put, putO, Nat.reduceEqDiff, ↓reduceIte, D.val, D.cond, reduceCtorEq, lenD, okRef, Nat.reduceAdd, Nat.reduceLeDiff, Ob.slice?, br_wrap, br_wrap128, br_len, br_is, br_of, shr8, bytes_row, bytes_all, List.all_cons, bytes_take, all_bytes, add1_comm, tdiv256, tmod256, u8_mod]; rfl) (by first | with_reducible rfl | omega | (simp; done) | (simp; omega) | rfl) ?_
      refine osS (by simp (disch := omega) only [zG, zN, zC, stepOp, aval, opv, Ab.get, Ab.put, putO, Nat.reduceEqDiff, ↓reduceIte, D.val, D.cond, reduceCtorEq, binD, bitsD, Nat.reduceAdd, Nat.reduceSub, Nat.reduceMul, Nat.reduceLeDiff, Int.reduceToNat, Int.reduceLE, Int.reduceLT, Int.reduceAdd, Int.reduceSub, Int.reduceMul, Int.reduceNeg, Int.reduceEq, bne_self_eq_false, br_wrap, br_wrap128, br_len, br_is, br_of, shr8, bytes_len, bytes_row, bytes_all, List.map_cons, List.all_cons, bytes_take, all_bytes, add1_comm, tdiv256, tmod256, u8_mod]; rfl) (by first | with_reducible rfl | omega | (simp; done) | (simp; omega) | rfl) ?_
      refine osS (by simp (disch := omega) only [zM, stepOp, aval, opv, Ab.get, Ab.put, putO, Nat.reduceEqDiff, ↓reduceIte, D.val, D.cond, reduceCtorEq, aact, actT, IE.isCall, D.cells?, Nat.reduceAdd, Nat.reduceLeDiff, Ob.slice?, Nat.reduceSub, Nat.reduceMul, Int.reduceToNat, Int.reduceLE, Int.reduceLT, Int.reduceAdd, Int.reduceSub, Int.reduceMul, Int.reduceNeg, Int.reduceEq, rowsOf, srcOf, okRef, intOf?, partsD, freezeL, freezeD, buildD, slcStrD, slcSlD, optV, zeroO, eqR, eqD, eqFs, eqX, nzD, binD, unD, lenD, evK, evC, Nat.reduceLT, br_wrap, br_wrap128, br_len, br_is, br_of, shr8, bytes_take, all_bytes, add1_comm, tdiv256, tmod256, u8_mod]; rfl) (by first | with_reducible rfl | omega | (simp; done) | (simp; omega) | rfl) ?_
      refine osS (by simp (disch := omega) only [zM, stepOp, aval, opv, Ab.get, Ab.put, putO, Nat.reduceEqDiff, ↓reduceIte, D.val, D.cond, reduceCtorEq, aact, actT, IE.isCall, D.cells?, Nat.reduceAdd, Nat.reduceLeDiff, Ob.slice?, Nat.reduceSub, Nat.reduceMul, Int.reduceToNat, Int.reduceLE, Int.reduceLT, Int.reduceAdd, Int.reduceSub, Int.reduceMul, Int.reduceNeg, Int.reduceEq, rowsOf, srcOf, okRef, intOf?, partsD, freezeL, freezeD, buildD, slcStrD, slcSlD, optV, zeroO, eqR, eqD, eqFs, eqX, nzD, binD, unD, lenD, evK, evC, Nat.reduceLT, br_wrap, br_wrap128, br_len, br_is, br_of, shr8, bytes_take, all_bytes, add1_comm, tdiv256, tmod256, u8_mod]; rfl) (by first | with_reducible rfl | omega | (simp; done) | (simp; omega) | rfl) ?_
      refine osS (by simp only [zC, stepOp, aval, opv, Ab.get, Ab.put, putO, Nat.reduceEqDiff, ↓reduceIte, D.val, D.cond, reduceCtorEq]; rfl) rfl ?_
      refine osS (by simp (disch := omega) only [zM, stepOp, aval, opv, Ab.get, Ab.put, putO, Nat.reduceEqDiff, ↓reduceIte, D.val, D.cond, reduceCtorEq, aact, actT, IE.isCall, D.cells?, Nat.reduceAdd, Nat.reduceLeDiff, Ob.slice?, Nat.reduceSub, Nat.reduceMul, Int.reduceToNat, Int.reduceLE, Int.reduceLT, Int.reduceAdd, Int.reduceSub, Int.reduceMul, Int.reduceNeg, Int.reduceEq, rowsOf, srcOf, okRef, intOf?, partsD, freezeL, freezeD, buildD, slcStrD, slcSlD, optV, zeroO, eqR, eqD, eqFs, eqX, nzD, binD, unD, lenD, evK, evC, Nat.reduceLT, br_wrap, br_wrap128, br_len, br_is, br_of, shr8, bytes_take, all_bytes, add1_comm, tdiv256, tmod256, u8_mod]; rfl) (by first | with_reducible rfl | omega | (simp; done) | (simp; omega) | rfl) ?_
      refine osS (by simp (disch := omega) only [zM, stepOp, aval, opv, Ab.get, Ab.put, putO, Nat.reduceEqDiff, ↓reduceIte, D.val, D.cond, reduceCtorEq, aact, actT, IE.isCall, D.cells?, Nat.reduceAdd, Nat.reduceLeDiff, Ob.slice?, Nat.reduceSub, Nat.reduceMul, Int.reduceToNat, Int.reduceLE, Int.reduceLT, Int.reduceAdd, Int.reduceSub, Int.reduceMul, Int.reduceNeg, Int.reduceEq, rowsOf, srcOf, okRef, intOf?, partsD, freezeL, freezeD, buildD, slcStrD, slcSlD, optV, zeroO, eqR, eqD, eqFs, eqX, nzD, binD, unD, lenD, evK, evC, Nat.reduceLT, br_wrap, br_wrap128, br_len, br_is, br_of, shr8, bytes_take, all_bytes, add1_comm, tdiv256, tmod256, u8_mod]; rfl) (by first | with_reducible rfl | omega | (simp; done) | (simp; omega) | rfl) ?_
      refine osS (by simp only [zC, stepOp, aval, opv, Ab.get, Ab.put, putO, Nat.reduceEqDiff, ↓reduceIte, D.val, D.cond, reduceCtorEq]; rfl) rfl ?_
      refine osN ?_
      simp only [keep, memN, Nat.reduceEqDiff, if_true, if_false, ↓reduceIte, Option.getD_none, Option.getD_some, List.append_nil, List.cons_append, List.nil_append, Bool.false_eq_true]
      refine hK _ _ ?_
      clear hK K
      refine thenQ_normal ?_
      refine WI.ret ?_
      refine jumpQ_ret ?_
      refine ⟨.inr rfl, ?_⟩
      -- leaf 2
      simp (disch := omega) only [zF, retD, resD, finD, plainD, freezeD, freezeL, aval, opv, Ab.get, Nat.reduceEqDiff, ↓reduceIte, D.val, D.cond, Nat.reduceAdd, Nat.reduceLeDiff, Ob.slice?, br_wrap, br_wrap128, br_len, br_is, br_of, shr8, bytes_row, bytes_all, List.all_cons, bytes_take, all_bytes, add1_comm, tdiv256, tmod256, u8_mod]
      refine ⟨_, _, rfl, ?_⟩
      simp only [mkR]
      obtain rfl : m = 0 := by omega
      rw [be_zero, List.nil_append] at hb
      rw [lenB, if_neg (by omega), hb]
set_option maxHeartbeats 1000000 in
theorem lengthR_c (n : Nat) (hn : n < 4294967296) : PCalls Try.prog 45 [.x (.int .i64 n)] (.x (.str (lenB n))) := by
  refine FCalls.pure (fcallsG (fz := true) G_ok (p := i45) rfl _ (Nat.le_of_ble_eq_true rfl) _ (fun C0 E0 => ?_)) rfl
  dsimp only [i45, argsφ]
  refine WI.seq ?_
  refine WI.regA noTabs_ok [0] (fun K hK => ?_)
  refine osS (by simp only [zC, stepOp, aval, opv, Ab.get, Ab.put, putO, Nat.reduceEqDiff, ↓reduceIte, D.val, D.cond, reduceCtorEq]; rfl) rfl ?_
  refine osN ?_
  simp only [keep, memN, Nat.reduceEqDiff, if_true, if_false, ↓reduceIte, Option.getD_none, Option.getD_some, List.append_nil, List.cons_append, List.nil_append, Bool.false_eq_true]
  refine hK _ _ ?_
  clear hK K
  refine thenQ_normal ?_
  refine WI.seq ?_
  refine WI.seq ?_
  refine WI.regA noTabs_ok [0, 6] (fun K hK => ?_)
  refine osS (by simp only [zC, stepOp, aval, opv, Ab.get, Ab.put, putO, Nat.reduceEqDiff, ↓reduceIte, D.val, D.cond, reduceCtorEq]; rfl) rfl ?_
  refine osS (by simp (disch := omega) only [zG, zN, zC, stepOp, aval, opv, Ab.get, Ab.put, putO, Nat.reduceEqDiff, ↓reduceIte, D.val, D.cond, reduceCtorEq, binD, bitsD, Nat.reduceAdd, Nat.reduceSub, Nat.reduceMul, Nat.reduceLeDiff, Int.reduceToNat, Int.reduceLE, Int.reduceLT, Int.reduceAdd, Int.reduceSub, Int.reduceMul, Int.reduceNeg, Int.reduceEq, bne_self_eq_false, br_wrap, br_wrap128, br_len, br_is, br_of, bytes_len, bytes_row, bytes_all, List.map_cons, List.all_cons, bytes_take, all_bytes, add1_comm, tdiv256, tmod256, u8_mod]; rfl) (by first | with_reducible rfl | omega | (simp; done) | (simp; omega) | rfl) ?_
  refine osN ?_
  simp only [keep, memN, Nat.reduceEqDiff, if_true, if_false, ↓reduceIte, Option.getD_none, Option.getD_some, List.append_nil, List.cons_append, List.nil_append, Bool.false_eq_true]
  refine hK _ _ ?_
  clear hK K
  refine thenQ_normal ?_
  refine WI.cond (b := _) rfl rfl (fun h0 => ?_) (fun h0 => ?_)
  · try simp only [zB] at h0
    refine WI.seq ?_
    refine WI.regA noTabs_ok [2] (fun K hK => ?_)
    refine osS (by simp only [zC, stepOp, aval, opv, Ab.get, Ab.put, putO, Nat.reduceEqDiff, ↓reduceIte, D.val, D.cond, reduceCtorEq]; rfl) rfl ?_
    refine osS (by simp (disch := omega) only [zM, stepOp, aval, opv, Ab.get, Ab.put, putO, Nat.reduceEqDiff, ↓reduceIte, D.val, D.cond, reduceCtorEq, aact, actT, IE.isCall, D.cells?, Nat.reduceAdd, Nat.reduceLeDiff, Ob.slice?, Nat.reduceSub, Nat.reduceMul, Int.reduceToNat, Int.reduceLE, Int.reduceLT, Int.reduceAdd, Int.reduceSub, Int.reduceMul, Int.reduceNeg, Int.reduceEq, rowsOf, srcOf, okRef, intOf?, partsD, freezeL, freezeD, buildD, slcStrD, slcSlD, optV, zeroO, eqR, eqD, eqFs, eqX, nzD, binD, unD, lenD, evK, evC, Nat.reduceLT, br_wrap, br_wrap128, br_len, br_is, br_of, bytes_take, all_bytes, add1_comm, tdiv256, tmod256, u8_mod]; rfl) (by first | with_reducible rfl | omega | (simp; done) | (simp; omega) | rfl) ?_
    refine osS (by simp (disch := omega) only [zM, stepOp, aval, opv, Ab.get, Ab.put, putO, Nat.reduceEqDiff, ↓reduceIte, D.val, D.cond, reduceCtorEq, aact, actT, IE.isCall, D.cells?, Nat.reduceAdd, Nat.reduceLeDiff, Ob.slice?, Nat.reduceSub, Nat.reduceMul, Int.reduceToNat, Int.reduceLE, Int.reduceLT, Int.reduceAdd, Int.reduceSub, Int.reduceMul, Int.reduceNeg, Int.reduceEq, rowsOf, srcOf, okRef, intOf?, partsD, freezeL, freezeD, buildD, slcStrD, slcSlD, optV, zeroO, eqR, eqD, eqFs, eqX, nzD, binD, unD, lenD, evK, evC, Nat.reduceLT, br_wrap, br_wrap128, br_len, br_is, br_of, bytes_take, all_bytes, add1_comm, tdiv256, tmod256, u8_mod]; rfl) (by first | with_reducible rfl | omega | (simp; done) | (simp; omega) | rfl) ?_
    refine osS (by simp (disch := omega) only [zM, stepOp, aval, opv, Ab.get, Ab.put, putO, Nat.reduceEqDiff, ↓reduceIte, D.val, D.cond, reduceCtorEq, aact, actT, IE.isCall, D.cells?, Nat.reduceAdd, Nat.reduceLeDiff, Ob.slice?, Nat.reduceSub, Nat.reduceMul, Int.reduceToNat, Int.reduceLE, Int.reduceLT, Int.reduceAdd, Int.reduceSub, Int.reduceMul, Int.reduceNeg, Int.reduceEq, rowsOf, srcOf, okRef, intOf?, partsD, freezeL, freezeD, buildD, slcStrD, slcSlD, optV, zeroO, eqR, eqD, eqFs, eqX, nzD, binD, unD, lenD, evK, evC, Nat.reduceLT, br_wrap, br_wrap128, br_len, br_is, br_of, bytes_take, all_bytes, add1_comm, tdiv256, tmod256, u8_mod]; rfl) (by first | with_reducible rfl | omega | (simp; done) | (simp; omega) | rfl) ?_
    refine osS (by simp only [zC, stepOp, aval, opv, Ab.get, Ab.put, putO, Nat.reduceEqDiff, ↓reduceIte, D.val, D.cond, reduceCtorEq]; rfl) rfl ?_
    refine osN ?_
    simp only [keep, memN, Nat.reduceEqDiff, if_true, if_false, ↓reduceIte, Option.getD_none, Option.getD_some, List.append_nil, List.cons_append, List.nil_append, Bool.false_eq_true]
    refine hK _ _ ?_
    clear hK K
    refine thenQ_normal ?_
    refine WI.ret ?_
    refine thenQ_ret ?_
    refine ⟨.inr rfl, ?_⟩
    -- leaf 0
    simp (disch := omega) only [zF, retD, resD, finD, plainD, freezeD, freezeL, aval, opv, Ab.get, Nat.reduceEqDiff, ↓reduceIte, D.val, D.cond, Nat.reduceAdd, Nat.reduceLeDiff, Ob.slice?, br_wrap, br_wrap128, br_len, br_is, br_of, bytes_row, bytes_all, List.all_cons, bytes_take, all_bytes, add1_comm, tdiv256, tmod256, u8_mod]
    refine ⟨_, _, rfl, ?_⟩
    simp only [mkR]
    rw [lenB, if_pos (by omega)]
  · try simp only [zB] at h0
    refine WI.skip ?_
    refine thenQ_normal ?_
    refine WI.seq ?_
    refine WI.regA noTabs_ok [0, 3] (fun K hK => ?_)
    refine osS (by simp only [zC, stepOp, aval, opv, Ab.get, Ab.put, putO, Nat.reduceEqDiff, ↓reduceIte, D.val, D.cond, reduceCtorEq]; rfl) rfl ?_
    refine osN ?_
    simp only [keep, memN, Nat.reduceEqDiff, if_true, if_false, ↓reduceIte, Option.getD_none, Option.getD_some, List.append_nil, List.cons_append, List.nil_append, Bool.false_eq_true]
    refine hK _ _ ?_
    clear hK K
    refine thenQ_normal ?_
    refine WI.seq ?_
    refine WI.regA noTabs_ok [0, 3, 4] (fun K hK => ?_)
    refine osS (by simp only [zC, stepOp, aval, opv, Ab.get, Ab.put, putO, Nat.reduceEqDiff, ↓reduceIte, D.val, D.cond, reduceCtorEq]; rfl) rfl ?_
    refine osN ?_
    simp only [keep, memN, Nat.reduceEqDiff, if_true, if_false, ↓reduceIte, Option.getD_none, Option.getD_some, List.append_nil, List.cons_append, List.nil_append, Bool.false_eq_true]
    refine hK _ _ ?_
    clear hK K
    refine thenQ_normal ?_
    refine WI.seq ?_
    refine WI.block ?_
    refine WI.loop (fun φ os => ∃ (m : Nat) (acc : List UInt8), φ = [(0, .x (.int .i64 m)), (3, .x (.str acc)), (4, .x (.int .i64 acc.length))] ∧ os = [] ∧ m ≤ n ∧ be n = be m ++ acc) (fun φ _ => ((intOf? (get φ 0).val).getD 0).toNat) ?_ (fun φ os hI => ?_)
    · exact ⟨n, [], rfl, rfl, by omega, by simp⟩
    · obtain ⟨m, acc, rfl, rfl, hm, hb⟩ := hI
      have hacc : acc.length ≤ 4 := by have h1 := be_len 4 n hn; rw [hb, List.length_append] at h1; omega
      refine WI.seq ?_
      refine WI.seq ?_
      refine WI.regA noTabs_ok [0, 3, 4, 12] (fun K hK => ?_)
      refine osS (by simp only [zC, stepOp, aval, opv, Ab.get, Ab.put, putO, Nat.reduceEqDiff, ↓reduceIte, D.val, D.cond, reduceCtorEq]; rfl) rfl ?_
      refine osS (by simp (disch := omega) only [zG, zN, zC, stepOp, aval, opv, Ab.get, Ab.put, putO, Nat.reduceEqDiff, ↓reduceIte, D.val, D.cond, reduceCtorEq, binD, bitsD, Nat.reduceAdd, Nat.reduceSub, Nat.reduceMul, Nat.reduceLeDiff, Int.reduceToNat, Int.reduceLE, Int.reduceLT, Int.reduceAdd, Int.reduceSub, Int.reduceMul, Int.reduceNeg, Int.reduceEq, bne_self_eq_false, br_wrap, br_wrap128, br_len, br_is, br_of, bytes_len, bytes_row, bytes_all, List.map_cons, List.all_cons, bytes_take, all_bytes, add1_comm, tdiv256, tmod256, u8_mod]; rfl) (by first | with_reducible rfl | omega | (simp; done) | (simp; omega) | rfl) ?_
      refine osN ?_
      simp only [keep, memN, Nat.reduceEqDiff, if_true, if_false, ↓reduceIte, Option.getD_none, Option.getD_some, List.append_nil, List.cons_append, List.nil_append, Bool.false_eq_true]
      refine hK _ _ ?_
      clear hK K
      refine thenQ_normal ?_
      refine WI.cond (b := _) rfl rfl (fun h1 => ?_) (fun h1 => ?_)
      · try simp only [zB] at h1
        refine WI.skip ?_
        refine thenQ_normal ?_
        refine WI.block ?_
        refine WI.seq ?_
        refine WI.regA noTabs_ok [0, 3, 4] (fun K hK => ?_)
        refine osS (by simp only [zC, stepOp, aval, opv, Ab.get, Ab.put, putO, Nat.reduceEqDiff, ↓reduceIte, D.val, D.cond, reduceCtorEq]; rfl) rfl ?_
        refine osS (by simp (disch := omega) only [zG, zN, zC, stepOp, aval, opv, Ab.get, Ab.put, putO, Nat.reduceEqDiff, ↓reduceIte, D.val, D.cond, reduceCtorEq, binD, bitsD, Nat.reduceAdd, Nat.reduceSub, Nat.reduceMul, Nat.reduceLeDiff, Int.reduceToNat, Int.reduceLE, Int.reduceLT, Int.reduceAdd, Int.reduceSub, Int.reduceMul, Int.reduceNeg, Int.reduceEq, bne_self_eq_false, br_wrap, br_wrap128, br_len, br_is, br_of, bytes_len, bytes_row, bytes_all, List.map_cons, List.all_cons, bytes_take, all_bytes, add1_comm, tdiv256, tmod256, u8_mod]; rfl) (by first | with_reducible rfl | omega | (simp; done) | (simp; omega) | rfl) ?_
        refine osS (by simp (disch := omega) only [zM, stepOp, aval, opv, Ab.get, Ab.put, putO, Nat.reduceEqDiff, ↓reduceIte, D.val, D.cond, reduceCtorEq, aact, actT, IE.isCall, D.cells?, Nat.reduceAdd, Nat.reduceLeDiff, Ob.slice?, Nat.reduceSub, Nat.reduceMul, Int.reduceToNat, Int.reduceLE, Int.reduceLT, Int.reduceAdd, Int.reduceSub, Int.reduceMul, Int.reduceNeg, Int.reduceEq, rowsOf, srcOf, okRef, intOf?, partsD, freezeL, freezeD, buildD, slcStrD, slcSlD, optV, zeroO, eqR, eqD, eqFs, eqX, nzD, binD, unD, lenD, evK, evC, Nat.reduceLT, br_wrap, br_wrap128, br_len, br_is, br_of, bytes_take, all_bytes, add1_comm, tdiv256, tmod256, u8_mod]; rfl) (by first | with_reducible rfl | omega | (simp; done) | (simp; omega) | rfl) ?_
        refine osS (by simp (disch := omega) only [zM, stepOp, aval, opv, Ab.get, Ab.put, putO, Nat.reduceEqDiff, ↓reduceIte, D.val, D.cond, reduceCtorEq, aact, actT, IE.isCall, D.cells?, Nat.reduceAdd, Nat.reduceLeDiff, Ob.slice?, Nat.reduceSub, Nat.reduceMul, Int.reduceToNat, Int.reduceLE, Int.reduceLT, Int.reduceAdd, Int.reduceSub, Int.reduceMul, Int.reduceNeg, Int.reduceEq, rowsOf, srcOf, okRef, intOf?, partsD, freezeL, freezeD, buildD, slcStrD, slcSlD, optV, zeroO, eqR, eqD, eqFs, eqX, nzD, binD, unD, lenD, evK, evC, Nat.reduceLT, br_wrap, br_wrap128, br_len, br_is, br_of, bytes_take, all_bytes, add1_comm, tdiv256, tmod256, u8_mod]; rfl) (by first | with_reducible rfl | omega | (simp; done) | (simp; omega) | rfl) ?_
        refine osS (by simp (disch := omega) only [zM, stepOp, aval, opv, Ab.get, Ab.put, putO, Nat.reduceEqDiff, ↓reduceIte, D.val, D.cond, reduceCtorEq, aact, actT, IE.isCall, D.cells?, Nat.reduceAdd, Nat.reduceLeDiff, Ob.slice?, Nat.reduceSub, Nat.reduceMul, Int.reduceToNat, Int.reduceLE, Int.reduceLT, Int.reduceAdd, Int.reduceSub, Int.reduceMul, Int.reduceNeg, Int.reduceEq, rowsOf, srcOf, okRef, intOf?, partsD, freezeL, freezeD, buildD, slcStrD, slcSlD, optV, zeroO, eqR, eqD, eqFs, eqX, nzD, binD, unD, lenD, evK, evC, Nat.reduceLT, br_wrap, br_wrap128, br_len, br_is, br_of, bytes_take, all_bytes, add1_comm, tdiv256, tmod256, u8_mod]; rfl) (by first | with_reducible rfl | omega | (simp; done) | (simp; omega) | rfl) ?_
        refine osS (by simp only [zC, stepOp, aval, opv, Ab.get, Ab.put, putO, Nat.reduceEqDiff, ↓reduceIte, D.val, D.cond, reduceCtorEq]; rfl) rfl ?_
        refine osS (by simp (disch := omega) only [zG, zN, zC, stepOp, aval, opv, Ab.get, Ab.put, putO, Nat.reduceEqDiff, ↓reduceIte, D.val, D.cond, reduceCtorEq, binD, bitsD, Nat.reduceAdd, Nat.reduceSub, Nat.reduceMul, Nat.reduceLeDiff, Int.reduceToNat, Int.reduceLE, Int.reduceLT, Int.reduceAdd, Int.reduceSub, Int.reduceMul, Int.reduceNeg, Int.reduceEq, bne_self_eq_false, br_wrap, br_wrap128, br_len, br_is, br_of, bytes_len, bytes_row, bytes_all, List.map_cons, List.all_cons, bytes_take, all_bytes, add1_comm, tdiv256, tmod256, u8_mod]; rfl) (by first | with_reducible rfl | omega | (simp; done) | (simp; omega) | rfl) ?_
        refine osS (by simp only [zC, stepOp, aval, opv, Ab.get, Ab.put, putO, Nat.reduceEqDiff, ↓reduceIte, D.val, D.cond, reduceCtorEq]; rfl) rfl ?_
        refine osN ?_
        simp only [keep, memN, Nat.reduceEqDiff, if_true, if_false, ↓reduceIte, Option.getD_none, Option.getD_some, List.append_nil, List.cons_append, List.nil_append, Bool.false_eq_true]
        refine hK _ _ ?_
        clear hK K
        refine thenQ_normal ?_
        refine WI.seq ?_
        refine WI.regA noTabs_ok [0, 3, 4] (fun K hK => ?_)
        refine osS (by simp only [zC, stepOp, aval, opv, Ab.get, Ab.put, putO, Nat.reduceEqDiff, ↓reduceIte, D.val, D.cond, reduceCtorEq]; rfl) rfl ?_
        refine osS (by simp (disch := omega) only [zG, zN, zC, stepOp, aval, opv, Ab.get, Ab.put, putO, Nat.reduceEqDiff, ↓reduceIte, D.val, D.cond, reduceCtorEq, binD, bitsD, Nat.reduceAdd, Nat.reduceSub, Nat.reduceMul, Nat.reduceLeDiff, Int.reduceToNat, Int.reduceLE, Int.reduceLT, Int.reduceAdd, Int.reduceSub, Int.reduceMul, Int.reduceNeg, Int.reduceEq, bne_self_eq_false, br_wrap, br_wrap128, br_len, br_is, br_of, bytes_len, bytes_row, bytes_all, List.map_cons, List.all_cons, bytes_take, all_bytes, add1_comm, tdiv256, tmod256, u8_mod]; rfl) (by first | with_reducible rfl | omega | (simp; done) | (simp; omega) | rfl) ?_
        refine osS (by simp only [zC, stepOp, aval, opv, Ab.get, Ab.put, putO, Nat.reduceEqDiff, ↓reduceIte, D.val, D.cond, reduceCtorEq]; rfl) rfl ?_
        refine osN ?_
        simp only [keep, memN, Nat.reduceEqDiff, if_true, if_false, ↓reduceIte, Option.getD_none, Option.getD_some, List.append_nil, List.cons_append, List.nil_append, Bool.false_eq_true]
        refine hK _ _ ?_
        clear hK K
        refine thenQ_normal ?_
        refine WI.pick [] rfl ?_
        simp (disch := decide) only [zV, frzL, nrmφ, nrmO, onF, D.vw, vwL, D.on, D.inP, inL, memB, D.ren, renL, inv, fpO, Ob.mp, Ob.ren, D.nn, nnφ, Nat.reduceBEq, Nat.reduceEqDiff, Nat.reduceAdd, ↓reduceIte]
        refine WI.regA noTabs_ok [0, 3, 4] (fun K hK => ?_)
        refine osS (by simp only [zC, stepOp, aval, opv, Ab.get, Ab.put, putO, Nat.reduceEqDiff, ↓reduceIte, D.val, D.cond, reduceCtorEq]; rfl) rfl ?_
        refine osS (by simp (disch := omega) only [zG, zN, zC, stepOp, aval, opv, Ab.get, Ab.put, putO, Nat.reduceEqDiff, ↓reduceIte, D.val, D.cond, reduceCtorEq, binD, bitsD, Nat.reduceAdd, Nat.reduceSub, Nat.reduceMul, Nat.reduceLeDiff, Int.reduceToNat, Int.reduceLE, Int.reduceLT, Int.reduceAdd, Int.reduceSub, Int.reduceMul, Int.reduceNeg, Int.reduceEq, bne_self_eq_false, br_wrap, br_wrap128, br_len, br_is, br_of, bytes_len, bytes_row, bytes_all, List.map_cons, List.all_cons, bytes_take, all_bytes, add1_comm, tdiv256, tmod256, u8_mod]; rfl) (by first | with_reducible rfl | omega | (simp; done) | (simp; omega) | rfl) ?_
        refine osS (by simp only [zC, stepOp, aval, opv, Ab.get, Ab.put, putO, Nat.reduceEqDiff, ↓reduceIte, D.val, D.cond, reduceCtorEq]; rfl) rfl ?_
        refine osN ?_
        simp only [keep, memN, Nat.reduceEqDiff, if_true, if_false, ↓reduceIte, Option.getD_none, Option.getD_some, List.append_nil, List.cons_append, List.nil_append, Bool.false_eq_true]
        refine hK _ _ ?_
        clear hK K
        refine blockQ_normal ?_
        refine thenQ_normal ?_
        exact ⟨⟨m / 256, UInt8.ofNat m :: acc, by simp, rfl, by omega, by rw [hb, be_pos m (by omega)]; simp⟩, by show ((m / 256 : Nat) : Int).toNat < (m : Int).toNat; omega⟩
      · try simp only [zB] at h1
        refine WI.exit ?_
        refine thenQ_exit ?_
        refine thenQ_exit ?_
        refine blockQ_hit ?_
        refine thenQ_normal ?_
        refine WI.seq ?_
        refine WI.regA noTabs_ok [2] (fun K hK => ?_)
        refine osS (by simp only [zC, stepOp, aval, opv, Ab.get, Ab.put, putO, Nat.reduceEqDiff, ↓reduceIte, D.val, D.cond, reduceCtorEq]; rfl) rfl ?_
        refine osS (by simp (disch := omega) only [zG, zN, zC, stepOp, aval, opv, Ab.get, Ab.put, putO, Nat.reduceEqDiff, ↓reduceIte, D.val, D.cond, reduceCtorEq, binD, bitsD, Nat.reduceAdd, Nat.reduceSub, Nat.reduceMul, Nat.reduceLeDiff, Int.reduceToNat, Int.reduceLE, Int.reduceLT, Int.reduceAdd, Int.reduceSub, Int.reduceMul, Int.reduceNeg, Int.reduceEq, bne_self_eq_false, br_wrap, br_wrap128, br_len, br_is, br_of, bytes_len, bytes_row, bytes_all, List.map_cons, List.all_cons, bytes_take, all_bytes, add1_comm, tdiv256, tmod256, u8_mod]; rfl) (by first | with_reducible rfl | omega | (simp; done) | (simp; omega) | rfl) ?_
        refine osS (by simp (disch := omega) only [zM, stepOp, aval, opv, Ab.get, Ab.put, putO, Nat.reduceEqDiff, ↓reduceIte, D.val, D.cond, reduceCtorEq, aact, actT, IE.isCall, D.cells?, Nat.reduceAdd, Nat.reduceLeDiff, Ob.slice?, Nat.reduceSub, Nat.reduceMul, Int.reduceToNat, Int.reduceLE, Int.reduceLT, Int.reduceAdd, Int.reduceSub, Int.reduceMul, Int.reduceNeg, Int.reduceEq, rowsOf, srcOf, okRef, intOf?, partsD, freezeL, freezeD, buildD, slcStrD, slcSlD, optV, zeroO, eqR, eqD, eqFs, eqX, nzD, binD, unD, lenD, evK, evC, Nat.reduceLT, br_wrap, br_wrap128, br_len, br_is, br_of, bytes_take, all_bytes, add1_comm, tdiv256, tmod256, u8_mod]; rfl) (by first | with_reducible rfl | omega | (simp; done) | (simp; omega) | rfl) ?_
        refine osS (by simp (disch := omega) only [zM, stepOp, aval, opv, Ab.get, Ab.put, putO, Nat.reduceEqDiff, ↓reduceIte, D.val, D.cond, reduceCtorEq, aact, actT, IE.isCall, D.cells?, Nat.reduceAdd, Nat.reduceLeDiff, Ob.slice?, Nat.reduceSub, Nat.reduceMul, Int.reduceToNat, Int.reduceLE, Int.reduceLT, Int.reduceAdd, Int.reduceSub, Int.reduceMul, Int.reduceNeg, Int.reduceEq, rowsOf, srcOf, okRef, intOf?, partsD, freezeL, freezeD, buildD, slcStrD, slcSlD, optV, zeroO, eqR, eqD, eqFs, eqX, nzD, binD, unD, lenD, evK, evC, Nat.reduceLT, br_wrap, br_wrap128, br_len, br_is, br_of, bytes_take, all_bytes, add1_comm, tdiv256, tmod256, u8_mod]; rfl) (by first | with_reducible rfl | omega | (simp; done) | (simp; omega) | rfl) ?_
        refine osS (by simp (disch := omega) only [zM, stepOp, aval, opv, Ab.get, Ab.put, putO, Nat.reduceEqDiff, ↓reduceIte, D.val, D.cond, reduceCtorEq, aact, actT, IE.isCall, D.cells?, Nat.reduceAdd, Nat.reduceLeDiff, Ob.slice?, Nat.reduceSub, Nat.reduceMul, Int.reduceToNat, Int.reduceLE, Int.reduceLT, Int.reduceAdd, Int.reduceSub, Int.reduceMul, Int.reduceNeg, Int.reduceEq, rowsOf, srcOf, okRef, intOf?, partsD, freezeL, freezeD, buildD, slcStrD, slcSlD, optV, zeroO, eqR, eqD, eqFs, eqX, nzD, binD, unD, lenD, evK, evC, Nat.reduceLT, br_wrap, br_wrap128, br_len, br_is, br_of, bytes_take, all_bytes, add1_comm, tdiv256, tmod256, u8_mod]; rfl) (by first | with_reducible rfl | omega | (simp; done) | (simp; omega) | rfl) ?_
        refine osS (by simp only [zC, stepOp, aval, opv, Ab.get, Ab.put, putO, Nat.reduceEqDiff, ↓reduceIte, D.val, D.cond, reduceCtorEq]; rfl) rfl ?_
        refine osS (by simp (disch := omega) only [zG, zN, zC, stepOp, aval, opv, Ab.get, Ab.put, putO, Nat.reduceEqDiff, ↓reduceIte, D.val, D.cond, reduceCtorEq, binD, bitsD, Nat.reduceAdd, Nat.reduceSub, Nat.reduceMul, Nat.reduceLeDiff, Int.reduceToNat, Int.reduceLE, Int.reduceLT, Int.reduceAdd, Int.reduceSub, Int.reduceMul, Int.reduceNeg, Int.reduceEq, bne_self_eq_false, br_wrap, br_wrap128, br_len, br_is, br_of, bytes_len, bytes_row, bytes_all, List.map_cons, List.all_cons, bytes_take, all_bytes, add1_comm, tdiv256, tmod256, u8_mod]; rfl) (by first | with_reducible rfl | omega | (simp; done) | (simp; omega) | rfl) ?_
        refine osS (by simp only [zC, stepOp, aval, opv, Ab.get, Ab.put, putO, Nat.reduceEqDiff, ↓reduceIte, D.val, D.cond, reduceCtorEq]; rfl) rfl ?_
        refine osN ?_
        simp only [keep, memN, Nat.reduceEqDiff, if_true, if_false, ↓reduceIte, Option.getD_none, Option.getD_some, List.append_nil, List.cons_append, List.nil_append, Bool.false_eq_true]
        refine hK _ _ ?_
        clear hK K
        refine thenQ_normal ?_
        refine WI.ret ?_
        refine ⟨.inr rfl, ?_⟩
        -- leaf 1
        simp (disch := omega) only [zF, retD, resD, finD, plainD, freezeD, freezeL, aval, opv, Ab.get, Nat.reduceEqDiff, ↓reduceIte, D.val, D.cond, Nat.reduceAdd, Nat.reduceLeDiff, Ob.slice?, br_wrap, br_wrap128, br_len, br_is, br_of, bytes_row, bytes_all, List.all_cons, bytes_take, all_bytes, add1_comm, tdiv256, tmod256, u8_mod]
        refine ⟨_, _, rfl, ?_⟩
        simp only [mkR]
        obtain rfl : m = 0 := by omega
        rw [be_zero, List.nil_append] at hb
        rw [lenB, if_neg (by omega), hb]
def badG : List D → Option (Bool × D)
  | [.x (.int .i64 t)] => some (true, .x (.bool (!tagB t)))
  | _ => none
theorem badG_ok : ∀ args r, badG args = some (true, r) → PCalls Try.prog 42 args r := by
  intro args r h
  unfold badG at h
  split at h
  · rename_i t
    simp only [Option.some.injEq, Prod.mk.injEq, Bool.and_eq_true, decide_eq_true_eq, true_and] at h
    obtain rfl := h
    exact bad_c t
  · cases h
def taggedG : List D → Option (Bool × D)
  | [.x (.int .i64 t)] => some (true, .x (.bool (tagB t)))
  | _ => none
theorem taggedG_ok : ∀ args r, taggedG args = some (true, r) → PCalls Try.prog 44 args r := by
  intro args r h
  unfold taggedG at h
  split at h
  · rename_i t
    simp only [Option.some.injEq, Prod.mk.injEq, Bool.and_eq_true, decide_eq_true_eq, true_and] at h
    obtain rfl := h
    exact tagged_c t
  · cases h
def lengthG : List D → Option (Bool × D)
  | [.x (.int .i64 n)] => some (decide (0 ≤ n) && (decide (n < 4294967296)), .x (.str (lenB n.toNat)))
  | _ => none
theorem lengthG_ok : ∀ args r, lengthG args = some (true, r) → PCalls Try.prog 43 args r := by
  intro args r h
  unfold lengthG at h
  split at h
  · rename_i n
    simp only [Option.some.injEq, Prod.mk.injEq, Bool.and_eq_true, decide_eq_true_eq, true_and] at h
    obtain ⟨⟨h1, h2⟩, rfl⟩ := h
    exact by have h3 := length_c n.toNat (by omega); rwa [Int.toNat_of_nonneg h1] at h3
  · cases h
def lengthRG : List D → Option (Bool × D)
  | [.x (.int .i64 n)] => some (decide (0 ≤ n) && (decide (n < 4294967296)), .x (.str (lenB n.toNat)))
  | _ => none
theorem lengthRG_ok : ∀ args r, lengthRG args = some (true, r) → PCalls Try.prog 45 args r := by
  intro args r h
  unfold lengthRG at h
  split at h
  · rename_i n
    simp only [Option.some.injEq, Prod.mk.injEq, Bool.and_eq_true, decide_eq_true_eq, true_and] at h
    obtain ⟨⟨h1, h2⟩, rfl⟩ := h
    exact by have h3 := lengthR_c n.toNat (by omega); rwa [Int.toNat_of_nonneg h1] at h3
  · cases h
end Go.Proofs.Ytogmbfaijmhamaa
