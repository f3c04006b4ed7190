/- Ber: the laws. -/
import Derived.Test.YtogmbfaijmhamaaBer3
set_option linter.unusedSimpArgs false
set_option linter.unusedVariables false
namespace Go.Proofs.Ytogmbfaijmhamaa
open Go.RowKit Go.Bo Go.Ab

theorem valB_be (n : Nat) : valB (be n) = n := by
  induction n using Nat.strongRecOn with
  | _ n ih =>
    by_cases h : n = 0
    · subst h; rw [be_zero]; rfl
    · rw [be_pos n (by omega), valB_snoc, ih (n / 256) (by omega)]
      simp; omega
theorem be_mono (m : Nat) : ∀ n, n ≤ m → (be n).length ≤ (be m).length := by
  induction m using Nat.strongRecOn with
  | _ m ih =>
    intro n hn
    by_cases h : n = 0
    · subst h; rw [be_zero]; exact Nat.zero_le _
    · rw [be_pos n (by omega), be_pos m (by omega), List.length_append, List.length_append]
      have := ih (m / 256) (by omega) (n / 256) (by omega)
      simp only [List.length_cons, List.length_nil]; omega
theorem be_one (n : Nat) (h : 0 < n) : 0 < (be n).length := by rw [be_pos n h]; simp
theorem lenB_mono (n m : Nat) (h : n ≤ m) : (lenB n).length ≤ (lenB m).length := by
  unfold lenB
  have := be_mono m n h
  split
  · split
    · simp
    · simp
  · rw [if_neg (by omega)]; simp; omega
theorem u8_nat (n : Nat) (h : n < 256) : (UInt8.ofNat n).toNat = n := by simp; omega
theorem read_put (t : Int) (s more : List UInt8) (h : (putB t s).2 = 0) : readB ((putB t s).1 ++ more) = ((t, s, ()), (putB t s).1.length, 0) := by
  unfold putB at h ⊢
  split at h
  · rename_i h1
    split at h
    · rename_i h2
      rw [if_pos h1, if_pos h2]
      obtain ⟨n, rfl, hn⟩ := tagB_nat h1
      have ht : (UInt8.ofNat n).toNat = n := u8_nat n (by omega)
      simp only [Int.toNat_natCast, List.cons_append, List.length_cons, List.length_append]
      by_cases h3 : s.length < 128
      · have e : lenB s.length = [UInt8.ofNat s.length] := by unfold lenB; rw [if_pos h3]
        have hH : headB (UInt8.ofNat n :: (lenB s.length ++ s ++ more)) = (n, s.length, 2, 0) := by
          rw [e]
          simp only [List.cons_append, List.nil_append, headB]
          rw [ht, u8_nat _ (by omega), if_pos h1, if_pos h3]
        unfold readB
        rw [hH]
        simp only [List.length_cons, List.length_append, e, List.length_nil, if_true, List.cons_append, List.nil_append]
        rw [if_neg (by omega)]
        rw [show 2 + s.length = s.length + 1 + 1 by omega, List.take_succ_cons, List.take_succ_cons, List.drop_succ_cons, List.drop_succ_cons, List.drop_zero, List.take_left]
        simp only [Prod.mk.injEq, true_and, and_true]; omega
      · have e : lenB s.length = UInt8.ofNat (128 + (be s.length).length) :: be s.length := by unfold lenB; rw [if_neg h3]
        have hb4 := be_len 3 s.length (by omega)
        have hb0 := be_one s.length (by omega)
        have hc := u8_nat (128 + (be s.length).length) (by omega)
        have hL : longB (UInt8.ofNat (128 + (be s.length).length)) (be s.length ++ (s ++ more)) = (s.length, 1 + (be s.length).length, 0) := by
          have e2 : (be s.length ++ (s ++ more)).take (be s.length).length = be s.length := List.take_left
          have := longB_0 (c := UInt8.ofNat (128 + (be s.length).length)) (r := be s.length ++ (s ++ more)) (m := (be s.length).length) (by omega) (by omega) (by simp) (by rw [e2, valB_be, e]) (by rw [e2, valB_be]; omega)
          rw [this, e2, valB_be]
        have hH : headB (UInt8.ofNat n :: (lenB s.length ++ s ++ more)) = (n, s.length, 1 + (1 + (be s.length).length), 0) := by
          rw [e]
          simp only [List.cons_append, List.append_assoc, headB]
          rw [ht, if_pos h1, if_neg (by omega), hL]
          simp only [if_true]
        unfold readB
        rw [hH]
        simp only [List.length_cons, List.length_append, e, if_true, List.cons_append]
        rw [if_neg (by omega)]
        rw [show 1 + (1 + (be s.length).length) + s.length = ((be s.length).length + s.length) + 1 + 1 by omega, List.take_succ_cons, List.take_succ_cons, show 1 + (1 + (be s.length).length) = (be s.length).length + 1 + 1 by omega, List.drop_succ_cons, List.drop_succ_cons]
        have e3 : (be s.length ++ s ++ more).take ((be s.length).length + s.length) = be s.length ++ s := by rw [← List.length_append, List.take_left]
        rw [e3, List.drop_left]
        simp only [Prod.mk.injEq, true_and, and_true]; omega
    · cases h
  · cases h
theorem u8_of (c : UInt8) : UInt8.ofNat c.toNat = c := by simp
theorem put_read (m : List UInt8) (h : (readB m).2.2 = 0) : putB (readB m).1.1 (readB m).1.2.1 = (m.take (readB m).2.1, 0) := by
  have h' := h
  unfold readB at h
  split at h
  · rename_i h0
    split at h
    · cases h
    · rename_i h1
      have hk := headB_ok m h0
      have e : readB m = ((((headB m).1 : Int), (m.take ((headB m).2.2.1 + (headB m).2.1)).drop (headB m).2.2.1, ()), (headB m).2.2.1 + (headB m).2.1, 0) := by unfold readB; rw [if_pos h0, if_neg h1]
      rw [e]
      clear e h h'
      simp only
      have hbl : ((m.take ((headB m).2.2.1 + (headB m).2.1)).drop (headB m).2.2.1).length = (headB m).2.1 := by
        rw [List.length_drop, List.length_take]; omega
      unfold putB
      rw [if_pos hk.1, if_pos (by rw [hbl]; exact hk.2.1), hbl]
      -- the head's bytes
      have key : UInt8.ofNat (headB m).1 :: lenB (headB m).2.1 = m.take (headB m).2.2.1 := by
        clear hbl hk h1
        match m, h0 with
        | [], h => simp [headB] at h
        | [t], h =>
          exfalso
          simp only [headB] at h
          split at h <;> simp at h
        | t :: c :: r, h =>
          simp only [headB] at h ⊢
          by_cases h1 : tagB (t.toNat : Int) = true
          · rw [if_pos h1] at h ⊢
            by_cases h2 : c.toNat < 128
            · rw [if_pos h2] at h ⊢
              simp only
              rw [u8_of]
              unfold lenB
              rw [if_pos h2, u8_of]
              rfl
            · rw [if_neg h2] at h ⊢
              by_cases h3 : (longB c r).2.2 = 0
              · rw [if_pos h3] at h ⊢
                obtain ⟨k1, k2, k3, k4, k5, k6⟩ := longB_ok c r h3
                rw [k2]
                simp only
                rw [u8_of, k5, show 1 + (1 + (c.toNat - 128)) = (c.toNat - 128) + 1 + 1 by omega]
                rfl
              · rw [if_neg h3] at h; simp at h; exact absurd h h3
          · rw [if_neg h1] at h; simp at h
      have e5 : ((headB m).1 : Int).toNat = (headB m).1 := rfl
      rw [e5, ← List.cons_append, key]
      have : m.take (headB m).2.2.1 = (m.take ((headB m).2.2.1 + (headB m).2.1)).take (headB m).2.2.1 := by rw [List.take_take, Nat.min_eq_left (by omega)]
      rw [this, List.take_append_drop]
  · rename_i h0
    exact absurd h h0
theorem put_len (t : Int) (s : List UInt8) (h : (putB t s).2 = 0) : (putB t s).1.length = 1 + (lenB s.length).length + s.length := by
  unfold putB at h ⊢
  split at h
  · rename_i h1
    split at h
    · rename_i h2
      rw [if_pos h1, if_pos h2]
      simp; omega
    · cases h
  · cases h
theorem lenB_lo (n : Nat) : 1 ≤ (lenB n).length := by unfold lenB; split <;> simp
theorem lenB_hi (n : Nat) (h : n ≤ 3000) : (lenB n).length ≤ 3 := by
  have := be_len 2 n (by omega)
  unfold lenB
  split <;> simp <;> omega

def tabBer5 : Tabs := addQ (addQ (addQ (addQ (addQ (addQ (addQ (addQ (addQ (addQ (noTabs) 14 putG) 15 putRG) 16 headG) 17 headRG) 18 readG) 19 readRG) 20 allG) 21 allRG) 22 sameG) 13 awake01G
theorem tabBer5_ok : SsOk Try.prog tabBer5 := addQ_ok (addQ_ok (addQ_ok (addQ_ok (addQ_ok (addQ_ok (addQ_ok (addQ_ok (addQ_ok (addQ_ok (noTabs_ok) (G_enters G_ok (p := i14) rfl) putG_ok) (G_enters G_ok (p := i15) rfl) putRG_ok) (G_enters G_ok (p := i16) rfl) headG_ok) (G_enters G_ok (p := i17) rfl) headRG_ok) (G_enters G_ok (p := i18) rfl) readG_ok) (G_enters G_ok (p := i19) rfl) readRG_ok) (G_enters G_ok (p := i20) rfl) allG_ok) (G_enters G_ok (p := i21) rfl) allRG_ok) (G_enters G_ok (p := i22) rfl) sameG_ok) (G_enters G_ok (p := i13) rfl) awake01G_ok
theorem tabBer5_q14 (a : List D) : tabBer5.q 14 a = putG a := rfl
theorem tabBer5_q15 (a : List D) : tabBer5.q 15 a = putRG a := rfl
theorem tabBer5_q16 (a : List D) : tabBer5.q 16 a = headG a := rfl
theorem tabBer5_q17 (a : List D) : tabBer5.q 17 a = headRG a := rfl
theorem tabBer5_q18 (a : List D) : tabBer5.q 18 a = readG a := rfl
theorem tabBer5_q19 (a : List D) : tabBer5.q 19 a = readRG a := rfl
theorem tabBer5_q20 (a : List D) : tabBer5.q 20 a = allG a := rfl
theorem tabBer5_q21 (a : List D) : tabBer5.q 21 a = allRG a := rfl
theorem tabBer5_q22 (a : List D) : tabBer5.q 22 a = sameG a := rfl
theorem tabBer5_q13 (a : List D) : tabBer5.q 13 a = awake01G a := rfl
theorem tabBer5_r (f : FuncId) (a : List D) (o : List Ob) : tabBer5.r f a o = none := rfl
theorem tabBer5_k (f : FuncId) (a : List D) (o : List Ob) : tabBer5.k f a o = none := rfl
theorem berPuts_c (t : Int) (s : List UInt8) : PCalls Try.prog 3 [.x (.int .i64 t), .x (.str s)] (.x (.bool true)) := by
  refine FCalls.pure (fcallsG (fz := true) G_ok (p := i3) rfl _ (Nat.le_of_ble_eq_true rfl) _ (fun C0 E0 => ?_)) rfl
  dsimp only [i3, argsφ]
  refine WI.seq ?_
  refine WI.regA tabBer5_ok [0, 1] (fun K hK => ?_)
  refine osS (by simp only [zC, stepOp, aval, opv, Ab.get, Ab.put, putO, Nat.reduceEqDiff, ↓reduceIte, D.val, D.cond, reduceCtorEq]; rfl) rfl ?_
  refine osN ?_
  simp only [keep, memN, Nat.reduceEqDiff, if_true, if_false, ↓reduceIte, Option.getD_none, Option.getD_some, List.append_nil, List.cons_append, List.nil_append, Bool.false_eq_true]
  refine hK _ _ ?_
  clear hK K
  refine thenQ_normal ?_
  refine WI.seq ?_
  refine WI.seq ?_
  refine WI.regA tabBer5_ok [0, 1, 21] (fun K hK => ?_)
  refine osS (by simp only [zC, stepOp, aval, opv, Ab.get, Ab.put, putO, Nat.reduceEqDiff, ↓reduceIte, D.val, D.cond, reduceCtorEq]; rfl) rfl ?_
  refine osS (by simp (disch := omega) only [zL, zR, zC, stepOp, aval, opv, Ab.get, Ab.put, putO, Nat.reduceEqDiff, ↓reduceIte, D.val, D.cond, reduceCtorEq, lenD, okRef, Nat.reduceAdd, Nat.reduceLeDiff, Ob.slice?, putG, putRG, awake01G]; rfl) (by first | with_reducible rfl | omega | (simp; done) | (simp; omega) | rfl) ?_
  refine osS (by simp (disch := omega) only [zG, zN, zC, stepOp, aval, opv, Ab.get, Ab.put, putO, Nat.reduceEqDiff, ↓reduceIte, D.val, D.cond, reduceCtorEq, binD, bitsD, Nat.reduceAdd, Nat.reduceSub, Nat.reduceMul, Nat.reduceLeDiff, Int.reduceToNat, Int.reduceLE, Int.reduceLT, Int.reduceAdd, Int.reduceSub, Int.reduceMul, Int.reduceNeg, Int.reduceEq, bne_self_eq_false, putG, putRG, awake01G]; rfl) (by first | with_reducible rfl | omega | (simp; done) | (simp; omega) | rfl) ?_
  refine osS (by simp only [zC, stepOp, aval, opv, Ab.get, Ab.put, putO, Nat.reduceEqDiff, ↓reduceIte, D.val, D.cond, reduceCtorEq]; rfl) rfl ?_
  refine osS (by simp (disch := omega) only [zG, zC, stepOp, aval, opv, Ab.get, Ab.put, putO, Nat.reduceEqDiff, ↓reduceIte, D.val, D.cond, reduceCtorEq, putG, putRG, awake01G]; rfl) rfl ?_
  refine osS (by simp (disch := omega) only [zL, zG, zR, zC, stepOp, aval, opv, Ab.get, Ab.put, putO, Nat.reduceEqDiff, ↓reduceIte, D.val, D.cond, reduceCtorEq, lenD, okRef, Nat.reduceAdd, Nat.reduceLeDiff, Ob.slice?, putG, putRG, awake01G]; rfl) (by first | with_reducible rfl | omega | (simp; done) | (simp; omega) | rfl) ?_
  refine osS (by simp (disch := omega) only [zG, zN, zC, stepOp, aval, opv, Ab.get, Ab.put, putO, Nat.reduceEqDiff, ↓reduceIte, D.val, D.cond, reduceCtorEq, binD, bitsD, Nat.reduceAdd, Nat.reduceSub, Nat.reduceMul, Nat.reduceLeDiff, Int.reduceToNat, Int.reduceLE, Int.reduceLT, Int.reduceAdd, Int.reduceSub, Int.reduceMul, Int.reduceNeg, Int.reduceEq, bne_self_eq_false, putG, putRG, awake01G]; rfl) (by first | with_reducible rfl | omega | (simp; done) | (simp; omega) | rfl) ?_
  refine osS (by simp (disch := omega) only [zG, zC, stepOp, aval, opv, Ab.get, Ab.put, putO, Nat.reduceEqDiff, ↓reduceIte, D.val, D.cond, reduceCtorEq, Bool.cond_true_left, Bool.cond_false_right, cond_true, cond_false, putG, putRG, awake01G]; rfl) (by first | with_reducible rfl | omega | (simp; done) | (simp; omega) | rfl) ?_
  refine osS (by simp only [zC, stepOp, aval, opv, Ab.get, Ab.put, putO, Nat.reduceEqDiff, ↓reduceIte, D.val, D.cond, reduceCtorEq]; rfl) rfl ?_
  refine osS (by simp (disch := omega) only [zG, zC, stepOp, aval, opv, Ab.get, Ab.put, putO, Nat.reduceEqDiff, ↓reduceIte, D.val, D.cond, reduceCtorEq, putG, putRG, awake01G]; rfl) rfl ?_
  refine osS (by simp (disch := omega) only [zL, zG, zR, zC, stepOp, aval, opv, Ab.get, Ab.put, putO, Nat.reduceEqDiff, ↓reduceIte, D.val, D.cond, reduceCtorEq, lenD, okRef, Nat.reduceAdd, Nat.reduceLeDiff, Ob.slice?, putG, putRG, awake01G]; rfl) (by first | with_reducible rfl | omega | (simp; done) | (simp; omega) | rfl) ?_
  refine osS (by simp (disch := omega) only [zG, zN, zC, stepOp, aval, opv, Ab.get, Ab.put, putO, Nat.reduceEqDiff, ↓reduceIte, D.val, D.cond, reduceCtorEq, binD, bitsD, Nat.reduceAdd, Nat.reduceSub, Nat.reduceMul, Nat.reduceLeDiff, Int.reduceToNat, Int.reduceLE, Int.reduceLT, Int.reduceAdd, Int.reduceSub, Int.reduceMul, Int.reduceNeg, Int.reduceEq, bne_self_eq_false, putG, putRG, awake01G]; rfl) (by first | with_reducible rfl | omega | (simp; done) | (simp; omega) | rfl) ?_
  refine osS (by simp (disch := omega) only [zG, zC, stepOp, aval, opv, Ab.get, Ab.put, putO, Nat.reduceEqDiff, ↓reduceIte, D.val, D.cond, reduceCtorEq, Bool.cond_true_left, Bool.cond_false_right, cond_true, cond_false, putG, putRG, awake01G]; rfl) (by first | with_reducible rfl | omega | (simp; done) | (simp; omega) | rfl) ?_
  refine osN ?_
  simp only [keep, memN, Nat.reduceEqDiff, if_true, if_false, ↓reduceIte, Option.getD_none, Option.getD_some, List.append_nil, List.cons_append, List.nil_append, Bool.false_eq_true]
  refine hK _ _ ?_
  clear hK K
  refine thenQ_normal ?_
  refine WI.cond (b := _) rfl rfl (fun h0 => ?_) (fun h0 => ?_)
  · try simp only [zB] at h0
    refine WI.seq ?_
    refine WI.regA tabBer5_ok [4] (fun K hK => ?_)
    refine osS (by simp (disch := omega) only [zS, viaNN, viaNNT, D.nn, addQ, addT, IE.isCall, Nat.reduceAdd, Nat.reduceSub, Nat.reduceMul, Nat.reduceLeDiff, Nat.reduceLT, Nat.reduceBEq, Int.reduceToNat, Int.reduceLE, Int.reduceLT, Int.reduceAdd, Int.reduceSub, Int.reduceMul, Int.reduceNeg, Int.reduceEq, Nat.reduceEqDiff, runOpsA, runDA, stepOp, aval, aact, opv, Ab.get, Ab.put, putO, keep, memN, D.val, D.cond, D.cells?, D.scalar, X.scalar, D.plain, D.isX, binD, bitsD, eqD, eqFs, eqX, unD, intOf?, lenD, okRef, rowsOf, viewD, viewX, freezeD, freezeL, partsD, buildD, slcStrD, slcSlD, Ob.slice?, ↓reduceIte, reduceCtorEq, evQ, evK, evC, evA, avalR, prefB, eqR, nzD, actT, callT1, callR1, callK1, valsL, condsL, optV, noTabs, IE.frame, memB, zeroO, IntWalk.i64_in, putG, putRG, awake01G, tabBer5_r, tabBer5_k, tabBer5_q13, tabBer5_q14, tabBer5_q15, tabBer5_q16, tabBer5_q17, tabBer5_q18, tabBer5_q19, tabBer5_q20, tabBer5_q21, tabBer5_q22, allG, allRG, headG, headRG, readG, readRG, sameG]; rfl) (by first | with_reducible rfl | omega | (simp; done) | (simp; omega) | rfl) ?_
    refine osS (by simp only [zC, stepOp, aval, opv, Ab.get, Ab.put, putO, Nat.reduceEqDiff, ↓reduceIte, D.val, D.cond, reduceCtorEq]; rfl) rfl ?_
    refine osN ?_
    simp only [keep, memN, Nat.reduceEqDiff, if_true, if_false, ↓reduceIte, Option.getD_none, Option.getD_some, List.append_nil, List.cons_append, List.nil_append, Bool.false_eq_true]
    refine hK _ _ ?_
    clear hK K
    refine thenQ_normal ?_
    refine WI.ret ?_
    refine thenQ_ret ?_
    refine ⟨.inr rfl, ?_⟩
    -- leaf 0
    simp (disch := omega) only [zF, retD, resD, finD, plainD, freezeD, freezeL, aval, opv, Ab.get, Nat.reduceEqDiff, ↓reduceIte, D.val, D.cond, Nat.reduceAdd, Nat.reduceLeDiff, Ob.slice?, putG, putRG, awake01G]
    refine ⟨_, _, rfl, ?_⟩
    simp only [mkR]
    all_goals first | exact ⟨rfl, rfl⟩ | exact ⟨trivial, trivial⟩ | rfl | trivial
  · try simp only [zB] at h0
    refine WI.skip ?_
    refine thenQ_normal ?_
    refine WI.seq ?_
    refine WI.regA tabBer5_ok [0, 1, 5, 6] (fun K hK => ?_)
    refine osS (by simp only [zC, stepOp, aval, opv, Ab.get, Ab.put, putO, Nat.reduceEqDiff, ↓reduceIte, D.val, D.cond, reduceCtorEq]; rfl) rfl ?_
    refine osS (by simp only [zC, stepOp, aval, opv, Ab.get, Ab.put, putO, Nat.reduceEqDiff, ↓reduceIte, D.val, D.cond, reduceCtorEq]; rfl) rfl ?_
    refine osS (by simp (disch := omega) only [zS, viaNN, viaNNT, D.nn, addQ, addT, IE.isCall, Nat.reduceAdd, Nat.reduceSub, Nat.reduceMul, Nat.reduceLeDiff, Nat.reduceLT, Nat.reduceBEq, Int.reduceToNat, Int.reduceLE, Int.reduceLT, Int.reduceAdd, Int.reduceSub, Int.reduceMul, Int.reduceNeg, Int.reduceEq, Nat.reduceEqDiff, runOpsA, runDA, stepOp, aval, aact, opv, Ab.get, Ab.put, putO, keep, memN, D.val, D.cond, D.cells?, D.scalar, X.scalar, D.plain, D.isX, binD, bitsD, eqD, eqFs, eqX, unD, intOf?, lenD, okRef, rowsOf, viewD, viewX, freezeD, freezeL, partsD, buildD, slcStrD, slcSlD, Ob.slice?, ↓reduceIte, reduceCtorEq, evQ, evK, evC, evA, avalR, prefB, eqR, nzD, actT, callT1, callR1, callK1, valsL, condsL, optV, noTabs, IE.frame, memB, zeroO, IntWalk.i64_in, putG, putRG, awake01G, tabBer5_r, tabBer5_k, tabBer5_q13, tabBer5_q14, tabBer5_q15, tabBer5_q16, tabBer5_q17, tabBer5_q18, tabBer5_q19, tabBer5_q20, tabBer5_q21, tabBer5_q22, allG, allRG, headG, headRG, readG, readRG, sameG]; rfl) (by first | with_reducible rfl | omega | (simp; done) | (simp; omega) | rfl) ?_
    refine osS (by simp only [zC, stepOp, aval, opv, Ab.get, Ab.put, putO, Nat.reduceEqDiff, ↓reduceIte, D.val, D.cond, reduceCtorEq]; rfl) rfl ?_
    refine osS (by simp (disch := omega) only [zL, zC, stepOp, aval, opv, Ab.get, Ab.put, putO, Nat.reduceEqDiff, ↓reduceIte, D.val, D.cond, reduceCtorEq, Nat.reduceAdd, Nat.reduceLeDiff, putG, putRG, awake01G]; rfl) rfl ?_
    refine osS (by simp (disch := omega) only [zL, zC, stepOp, aval, opv, Ab.get, Ab.put, putO, Nat.reduceEqDiff, ↓reduceIte, D.val, D.cond, reduceCtorEq, Nat.reduceAdd, Nat.reduceLeDiff, putG, putRG, awake01G]; rfl) rfl ?_
    refine osS (by simp only [zC, stepOp, aval, opv, Ab.get, Ab.put, putO, Nat.reduceEqDiff, ↓reduceIte, D.val, D.cond, reduceCtorEq]; rfl) rfl ?_
    refine osS (by simp only [zC, stepOp, aval, opv, Ab.get, Ab.put, putO, Nat.reduceEqDiff, ↓reduceIte, D.val, D.cond, reduceCtorEq]; rfl) rfl ?_
    refine osN ?_
    simp only [keep, memN, Nat.reduceEqDiff, if_true, if_false, ↓reduceIte, Option.getD_none, Option.getD_some, List.append_nil, List.cons_append, List.nil_append, Bool.false_eq_true]
    refine hK _ _ ?_
    clear hK K
    refine thenQ_normal ?_
    refine WI.seq ?_
    refine WI.regA tabBer5_ok [5, 6, 7, 8] (fun K hK => ?_)
    refine osS (by simp only [zC, stepOp, aval, opv, Ab.get, Ab.put, putO, Nat.reduceEqDiff, ↓reduceIte, D.val, D.cond, reduceCtorEq]; rfl) rfl ?_
    refine osS (by simp only [zC, stepOp, aval, opv, Ab.get, Ab.put, putO, Nat.reduceEqDiff, ↓reduceIte, D.val, D.cond, reduceCtorEq]; rfl) rfl ?_
    refine osS (by simp (disch := omega) only [zS, viaNN, viaNNT, D.nn, addQ, addT, IE.isCall, Nat.reduceAdd, Nat.reduceSub, Nat.reduceMul, Nat.reduceLeDiff, Nat.reduceLT, Nat.reduceBEq, Int.reduceToNat, Int.reduceLE, Int.reduceLT, Int.reduceAdd, Int.reduceSub, Int.reduceMul, Int.reduceNeg, Int.reduceEq, Nat.reduceEqDiff, runOpsA, runDA, stepOp, aval, aact, opv, Ab.get, Ab.put, putO, keep, memN, D.val, D.cond, D.cells?, D.scalar, X.scalar, D.plain, D.isX, binD, bitsD, eqD, eqFs, eqX, unD, intOf?, lenD, okRef, rowsOf, viewD, viewX, freezeD, freezeL, partsD, buildD, slcStrD, slcSlD, Ob.slice?, ↓reduceIte, reduceCtorEq, evQ, evK, evC, evA, avalR, prefB, eqR, nzD, actT, callT1, callR1, callK1, valsL, condsL, optV, noTabs, IE.frame, memB, zeroO, IntWalk.i64_in, putG, putRG, awake01G, tabBer5_r, tabBer5_k, tabBer5_q13, tabBer5_q14, tabBer5_q15, tabBer5_q16, tabBer5_q17, tabBer5_q18, tabBer5_q19, tabBer5_q20, tabBer5_q21, tabBer5_q22, allG, allRG, headG, headRG, readG, readRG, sameG]; rfl) (by first | with_reducible rfl | omega | (simp; done) | (simp; omega) | rfl) ?_
    refine osS (by simp only [zC, stepOp, aval, opv, Ab.get, Ab.put, putO, Nat.reduceEqDiff, ↓reduceIte, D.val, D.cond, reduceCtorEq]; rfl) rfl ?_
    refine osS (by simp (disch := omega) only [zL, zC, stepOp, aval, opv, Ab.get, Ab.put, putO, Nat.reduceEqDiff, ↓reduceIte, D.val, D.cond, reduceCtorEq, Nat.reduceAdd, Nat.reduceLeDiff, putG, putRG, awake01G]; rfl) rfl ?_
    refine osS (by simp (disch := omega) only [zL, zC, stepOp, aval, opv, Ab.get, Ab.put, putO, Nat.reduceEqDiff, ↓reduceIte, D.val, D.cond, reduceCtorEq, Nat.reduceAdd, Nat.reduceLeDiff, putG, putRG, awake01G]; rfl) rfl ?_
    refine osS (by simp only [zC, stepOp, aval, opv, Ab.get, Ab.put, putO, Nat.reduceEqDiff, ↓reduceIte, D.val, D.cond, reduceCtorEq]; rfl) rfl ?_
    refine osS (by simp only [zC, stepOp, aval, opv, Ab.get, Ab.put, putO, Nat.reduceEqDiff, ↓reduceIte, D.val, D.cond, reduceCtorEq]; rfl) rfl ?_
    refine osN ?_
    simp only [keep, memN, Nat.reduceEqDiff, if_true, if_false, ↓reduceIte, Option.getD_none, Option.getD_some, List.append_nil, List.cons_append, List.nil_append, Bool.false_eq_true]
    refine hK _ _ ?_
    clear hK K
    refine thenQ_normal ?_
    refine WI.seq ?_
    refine WI.regA tabBer5_ok [4] (fun K hK => ?_)
    refine osS (by simp only [zC, stepOp, aval, opv, Ab.get, Ab.put, putO, Nat.reduceEqDiff, ↓reduceIte, D.val, D.cond, reduceCtorEq]; rfl) rfl ?_
    refine osS (by simp only [zC, stepOp, aval, opv, Ab.get, Ab.put, putO, Nat.reduceEqDiff, ↓reduceIte, D.val, D.cond, reduceCtorEq]; rfl) rfl ?_
    refine osS (by simp (disch := omega) only [zG, zN, zC, stepOp, aval, opv, Ab.get, Ab.put, putO, Nat.reduceEqDiff, ↓reduceIte, D.val, D.cond, reduceCtorEq, binD, bitsD, Nat.reduceAdd, Nat.reduceSub, Nat.reduceMul, Nat.reduceLeDiff, Int.reduceToNat, Int.reduceLE, Int.reduceLT, Int.reduceAdd, Int.reduceSub, Int.reduceMul, Int.reduceNeg, Int.reduceEq, bne_self_eq_false, putG, putRG, awake01G]; rfl) (by first | with_reducible rfl | omega | (simp; done) | (simp; omega) | rfl) ?_
    refine osS (by simp only [zC, stepOp, aval, opv, Ab.get, Ab.put, putO, Nat.reduceEqDiff, ↓reduceIte, D.val, D.cond, reduceCtorEq]; rfl) rfl ?_
    refine osS (by simp (disch := omega) only [zG, zC, stepOp, aval, opv, Ab.get, Ab.put, putO, Nat.reduceEqDiff, ↓reduceIte, D.val, D.cond, reduceCtorEq, putG, putRG, awake01G]; rfl) rfl ?_
    refine osS (by simp (disch := omega) only [zG, zC, stepOp, aval, opv, Ab.get, Ab.put, putO, Nat.reduceEqDiff, ↓reduceIte, D.val, D.cond, reduceCtorEq, putG, putRG, awake01G]; rfl) rfl ?_
    refine osS (by simp (disch := omega) only [zG, zN, zC, stepOp, aval, opv, Ab.get, Ab.put, putO, Nat.reduceEqDiff, ↓reduceIte, D.val, D.cond, reduceCtorEq, binD, bitsD, Nat.reduceAdd, Nat.reduceSub, Nat.reduceMul, Nat.reduceLeDiff, Int.reduceToNat, Int.reduceLE, Int.reduceLT, Int.reduceAdd, Int.reduceSub, Int.reduceMul, Int.reduceNeg, Int.reduceEq, bne_self_eq_false, putG, putRG, awake01G]; rfl) (by first | with_reducible rfl | omega | (simp; done) | (simp; omega) | rfl) ?_
    refine osS (by simp (disch := omega) only [zG, zC, stepOp, aval, opv, Ab.get, Ab.put, putO, Nat.reduceEqDiff, ↓reduceIte, D.val, D.cond, reduceCtorEq, Bool.cond_true_left, Bool.cond_false_right, cond_true, cond_false, putG, putRG, awake01G]; rfl) (by first | with_reducible rfl | omega | (simp; done) | (simp; omega) | rfl) ?_
    refine osS (by simp only [zC, stepOp, aval, opv, Ab.get, Ab.put, putO, Nat.reduceEqDiff, ↓reduceIte, D.val, D.cond, reduceCtorEq]; rfl) rfl ?_
    refine osS (by simp (disch := omega) only [zS, viaNN, viaNNT, D.nn, addQ, addT, IE.isCall, Nat.reduceAdd, Nat.reduceSub, Nat.reduceMul, Nat.reduceLeDiff, Nat.reduceLT, Nat.reduceBEq, Int.reduceToNat, Int.reduceLE, Int.reduceLT, Int.reduceAdd, Int.reduceSub, Int.reduceMul, Int.reduceNeg, Int.reduceEq, Nat.reduceEqDiff, runOpsA, runDA, stepOp, aval, aact, opv, Ab.get, Ab.put, putO, keep, memN, D.val, D.cond, D.cells?, D.scalar, X.scalar, D.plain, D.isX, binD, bitsD, eqD, eqFs, eqX, unD, intOf?, lenD, okRef, rowsOf, viewD, viewX, freezeD, freezeL, partsD, buildD, slcStrD, slcSlD, Ob.slice?, ↓reduceIte, reduceCtorEq, evQ, evK, evC, evA, avalR, prefB, eqR, nzD, actT, callT1, callR1, callK1, valsL, condsL, optV, noTabs, IE.frame, memB, zeroO, IntWalk.i64_in, putG, putRG, awake01G, tabBer5_r, tabBer5_k, tabBer5_q13, tabBer5_q14, tabBer5_q15, tabBer5_q16, tabBer5_q17, tabBer5_q18, tabBer5_q19, tabBer5_q20, tabBer5_q21, tabBer5_q22, allG, allRG, headG, headRG, readG, readRG, sameG]; rfl) (by first | with_reducible rfl | omega | (simp; done) | (simp; omega) | rfl) ?_
    refine osS (by simp (disch := omega) only [zG, zC, stepOp, aval, opv, Ab.get, Ab.put, putO, Nat.reduceEqDiff, ↓reduceIte, D.val, D.cond, reduceCtorEq, Bool.cond_true_left, Bool.cond_false_right, cond_true, cond_false, putG, putRG, awake01G]; rfl) (by first | with_reducible rfl | omega | (simp; done) | (simp; omega) | rfl) ?_
    refine osS (by simp only [zC, stepOp, aval, opv, Ab.get, Ab.put, putO, Nat.reduceEqDiff, ↓reduceIte, D.val, D.cond, reduceCtorEq]; rfl) rfl ?_
    refine osN ?_
    simp only [keep, memN, Nat.reduceEqDiff, if_true, if_false, ↓reduceIte, Option.getD_none, Option.getD_some, List.append_nil, List.cons_append, List.nil_append, Bool.false_eq_true]
    refine hK _ _ ?_
    clear hK K
    refine thenQ_normal ?_
    refine WI.ret ?_
    refine ⟨.inr rfl, ?_⟩
    -- leaf 1
    simp (disch := omega) only [zF, retD, resD, finD, plainD, freezeD, freezeL, aval, opv, Ab.get, Nat.reduceEqDiff, ↓reduceIte, D.val, D.cond, Nat.reduceAdd, Nat.reduceLeDiff, Ob.slice?, putG, putRG, awake01G]
    refine ⟨_, _, rfl, ?_⟩
    simp only [mkR]
    all_goals first | exact ⟨rfl, rfl⟩ | exact ⟨trivial, trivial⟩ | rfl | trivial
theorem berReads_c (s : List UInt8) : PCalls Try.prog 4 [.x (.str s)] (.x (.bool true)) := by
  refine FCalls.pure (fcallsG (fz := true) G_ok (p := i4) rfl _ (Nat.le_of_ble_eq_true rfl) _ (fun C0 E0 => ?_)) rfl
  dsimp only [i4, argsφ]
  refine WI.seq ?_
  refine WI.regA tabBer5_ok [0] (fun K hK => ?_)
  refine osS (by simp only [zC, stepOp, aval, opv, Ab.get, Ab.put, putO, Nat.reduceEqDiff, ↓reduceIte, D.val, D.cond, reduceCtorEq]; rfl) rfl ?_
  refine osN ?_
  simp only [keep, memN, Nat.reduceEqDiff, if_true, if_false, ↓reduceIte, Option.getD_none, Option.getD_some, List.append_nil, List.cons_append, List.nil_append, Bool.false_eq_true]
  refine hK _ _ ?_
  clear hK K
  refine thenQ_normal ?_
  refine WI.seq ?_
  refine WI.seq ?_
  refine WI.regA tabBer5_ok [0, 23] (fun K hK => ?_)
  refine osS (by simp only [zC, stepOp, aval, opv, Ab.get, Ab.put, putO, Nat.reduceEqDiff, ↓reduceIte, D.val, D.cond, reduceCtorEq]; rfl) rfl ?_
  refine osS (by simp (disch := omega) only [zL, zR, zC, stepOp, aval, opv, Ab.get, Ab.put, putO, Nat.reduceEqDiff, ↓reduceIte, D.val, D.cond, reduceCtorEq, lenD, okRef, Nat.reduceAdd, Nat.reduceLeDiff, Ob.slice?, headG, headRG, headD, readG, readRG, readD, allG, allRG, sameG, un_tlv, awake01G]; rfl) (by first | with_reducible rfl | omega | (simp; done) | (simp; omega) | rfl) ?_
  refine osS (by simp (disch := omega) only [zG, zN, zC, stepOp, aval, opv, Ab.get, Ab.put, putO, Nat.reduceEqDiff, ↓reduceIte, D.val, D.cond, reduceCtorEq, binD, bitsD, Nat.reduceAdd, Nat.reduceSub, Nat.reduceMul, Nat.reduceLeDiff, Int.reduceToNat, Int.reduceLE, Int.reduceLT, Int.reduceAdd, Int.reduceSub, Int.reduceMul, Int.reduceNeg, Int.reduceEq, bne_self_eq_false, headG, headRG, headD, readG, readRG, readD, allG, allRG, sameG, un_tlv, awake01G]; rfl) (by first | with_reducible rfl | omega | (simp; done) | (simp; omega) | rfl) ?_
  refine osN ?_
  simp only [keep, memN, Nat.reduceEqDiff, if_true, if_false, ↓reduceIte, Option.getD_none, Option.getD_some, List.append_nil, List.cons_append, List.nil_append, Bool.false_eq_true]
  refine hK _ _ ?_
  clear hK K
  refine thenQ_normal ?_
  refine WI.cond (b := _) rfl rfl (fun h0 => ?_) (fun h0 => ?_)
  · try simp only [zB] at h0
    refine WI.seq ?_
    refine WI.regA tabBer5_ok [2] (fun K hK => ?_)
    refine osS (by simp (disch := omega) only [zS, viaNN, viaNNT, D.nn, addQ, addT, IE.isCall, Nat.reduceAdd, Nat.reduceSub, Nat.reduceMul, Nat.reduceLeDiff, Nat.reduceLT, Nat.reduceBEq, Int.reduceToNat, Int.reduceLE, Int.reduceLT, Int.reduceAdd, Int.reduceSub, Int.reduceMul, Int.reduceNeg, Int.reduceEq, Nat.reduceEqDiff, runOpsA, runDA, stepOp, aval, aact, opv, Ab.get, Ab.put, putO, keep, memN, D.val, D.cond, D.cells?, D.scalar, X.scalar, D.plain, D.isX, binD, bitsD, eqD, eqFs, eqX, unD, intOf?, lenD, okRef, rowsOf, viewD, viewX, freezeD, freezeL, partsD, buildD, slcStrD, slcSlD, Ob.slice?, ↓reduceIte, reduceCtorEq, evQ, evK, evC, evA, avalR, prefB, eqR, nzD, actT, callT1, callR1, callK1, valsL, condsL, optV, noTabs, IE.frame, memB, zeroO, IntWalk.i64_in, headG, headRG, headD, readG, readRG, readD, allG, allRG, sameG, un_tlv, awake01G, tabBer5_r, tabBer5_k, tabBer5_q13, tabBer5_q14, tabBer5_q15, tabBer5_q16, tabBer5_q17, tabBer5_q18, tabBer5_q19, tabBer5_q20, tabBer5_q21, tabBer5_q22, putG, putRG]; rfl) (by first | with_reducible rfl | omega | (simp; done) | (simp; omega) | rfl) ?_
    refine osS (by simp only [zC, stepOp, aval, opv, Ab.get, Ab.put, putO, Nat.reduceEqDiff, ↓reduceIte, D.val, D.cond, reduceCtorEq]; rfl) rfl ?_
    refine osN ?_
    simp only [keep, memN, Nat.reduceEqDiff, if_true, if_false, ↓reduceIte, Option.getD_none, Option.getD_some, List.append_nil, List.cons_append, List.nil_append, Bool.false_eq_true]
    refine hK _ _ ?_
    clear hK K
    refine thenQ_normal ?_
    refine WI.ret ?_
    refine thenQ_ret ?_
    refine ⟨.inr rfl, ?_⟩
    -- leaf 0
    simp (disch := omega) only [zF, retD, resD, finD, plainD, freezeD, freezeL, aval, opv, Ab.get, Nat.reduceEqDiff, ↓reduceIte, D.val, D.cond, Nat.reduceAdd, Nat.reduceLeDiff, Ob.slice?, headG, headRG, headD, readG, readRG, readD, allG, allRG, sameG, un_tlv, awake01G]
    refine ⟨_, _, rfl, ?_⟩
    simp only [mkR]
    all_goals first | exact ⟨rfl, rfl⟩ | exact ⟨trivial, trivial⟩ | rfl | trivial
  · try simp only [zB] at h0
    refine WI.skip ?_
    refine thenQ_normal ?_
    refine WI.seq ?_
    refine WI.regA tabBer5_ok [0, 3, 4, 5, 6] (fun K hK => ?_)
    refine osS (by simp only [zC, stepOp, aval, opv, Ab.get, Ab.put, putO, Nat.reduceEqDiff, ↓reduceIte, D.val, D.cond, reduceCtorEq]; rfl) rfl ?_
    refine osS (by simp (disch := omega) only [zS, viaNN, viaNNT, D.nn, addQ, addT, IE.isCall, Nat.reduceAdd, Nat.reduceSub, Nat.reduceMul, Nat.reduceLeDiff, Nat.reduceLT, Nat.reduceBEq, Int.reduceToNat, Int.reduceLE, Int.reduceLT, Int.reduceAdd, Int.reduceSub, Int.reduceMul, Int.reduceNeg, Int.reduceEq, Nat.reduceEqDiff, runOpsA, runDA, stepOp, aval, aact, opv, Ab.get, Ab.put, putO, keep, memN, D.val, D.cond, D.cells?, D.scalar, X.scalar, D.plain, D.isX, binD, bitsD, eqD, eqFs, eqX, unD, intOf?, lenD, okRef, rowsOf, viewD, viewX, freezeD, freezeL, partsD, buildD, slcStrD, slcSlD, Ob.slice?, ↓reduceIte, reduceCtorEq, evQ, evK, evC, evA, avalR, prefB, eqR, nzD, actT, callT1, callR1, callK1, valsL, condsL, optV, noTabs, IE.frame, memB, zeroO, IntWalk.i64_in, headG, headRG, headD, readG, readRG, readD, allG, allRG, sameG, un_tlv, awake01G, tabBer5_r, tabBer5_k, tabBer5_q13, tabBer5_q14, tabBer5_q15, tabBer5_q16, tabBer5_q17, tabBer5_q18, tabBer5_q19, tabBer5_q20, tabBer5_q21, tabBer5_q22, putG, putRG]; rfl) (by first | with_reducible rfl | omega | (simp; done) | (simp; omega) | rfl) ?_
    refine osS (by simp only [zC, stepOp, aval, opv, Ab.get, Ab.put, putO, Nat.reduceEqDiff, ↓reduceIte, D.val, D.cond, reduceCtorEq]; rfl) rfl ?_
    refine osS (by simp (disch := omega) only [zL, zC, stepOp, aval, opv, Ab.get, Ab.put, putO, Nat.reduceEqDiff, ↓reduceIte, D.val, D.cond, reduceCtorEq, Nat.reduceAdd, Nat.reduceLeDiff, headG, headRG, headD, readG, readRG, readD, allG, allRG, sameG, un_tlv, awake01G]; rfl) rfl ?_
    refine osS (by simp (disch := omega) only [zL, zC, stepOp, aval, opv, Ab.get, Ab.put, putO, Nat.reduceEqDiff, ↓reduceIte, D.val, D.cond, reduceCtorEq, Nat.reduceAdd, Nat.reduceLeDiff, headG, headRG, headD, readG, readRG, readD, allG, allRG, sameG, un_tlv, awake01G]; rfl) rfl ?_
    refine osS (by simp (disch := omega) only [zL, zC, stepOp, aval, opv, Ab.get, Ab.put, putO, Nat.reduceEqDiff, ↓reduceIte, D.val, D.cond, reduceCtorEq, Nat.reduceAdd, Nat.reduceLeDiff, headG, headRG, headD, readG, readRG, readD, allG, allRG, sameG, un_tlv, awake01G]; rfl) rfl ?_
    refine osS (by simp (disch := omega) only [zL, zC, stepOp, aval, opv, Ab.get, Ab.put, putO, Nat.reduceEqDiff, ↓reduceIte, D.val, D.cond, reduceCtorEq, Nat.reduceAdd, Nat.reduceLeDiff, headG, headRG, headD, readG, readRG, readD, allG, allRG, sameG, un_tlv, awake01G]; rfl) rfl ?_
    refine osS (by simp only [zC, stepOp, aval, opv, Ab.get, Ab.put, putO, Nat.reduceEqDiff, ↓reduceIte, D.val, D.cond, reduceCtorEq]; rfl) rfl ?_
    refine osS (by simp only [zC, stepOp, aval, opv, Ab.get, Ab.put, putO, Nat.reduceEqDiff, ↓reduceIte, D.val, D.cond, reduceCtorEq]; rfl) rfl ?_
    refine osS (by simp only [zC, stepOp, aval, opv, Ab.get, Ab.put, putO, Nat.reduceEqDiff, ↓reduceIte, D.val, D.cond, reduceCtorEq]; rfl) rfl ?_
    refine osS (by simp only [zC, stepOp, aval, opv, Ab.get, Ab.put, putO, Nat.reduceEqDiff, ↓reduceIte, D.val, D.cond, reduceCtorEq]; rfl) rfl ?_
    refine osN ?_
    simp only [keep, memN, Nat.reduceEqDiff, if_true, if_false, ↓reduceIte, Option.getD_none, Option.getD_some, List.append_nil, List.cons_append, List.nil_append, Bool.false_eq_true]
    refine hK _ _ ?_
    clear hK K
    refine thenQ_normal ?_
    refine WI.seq ?_
    refine WI.regA tabBer5_ok [0, 3, 4, 5, 6, 7, 8, 9, 10] (fun K hK => ?_)
    refine osS (by simp only [zC, stepOp, aval, opv, Ab.get, Ab.put, putO, Nat.reduceEqDiff, ↓reduceIte, D.val, D.cond, reduceCtorEq]; rfl) rfl ?_
    refine osS (by simp (disch := omega) only [zS, viaNN, viaNNT, D.nn, addQ, addT, IE.isCall, Nat.reduceAdd, Nat.reduceSub, Nat.reduceMul, Nat.reduceLeDiff, Nat.reduceLT, Nat.reduceBEq, Int.reduceToNat, Int.reduceLE, Int.reduceLT, Int.reduceAdd, Int.reduceSub, Int.reduceMul, Int.reduceNeg, Int.reduceEq, Nat.reduceEqDiff, runOpsA, runDA, stepOp, aval, aact, opv, Ab.get, Ab.put, putO, keep, memN, D.val, D.cond, D.cells?, D.scalar, X.scalar, D.plain, D.isX, binD, bitsD, eqD, eqFs, eqX, unD, intOf?, lenD, okRef, rowsOf, viewD, viewX, freezeD, freezeL, partsD, buildD, slcStrD, slcSlD, Ob.slice?, ↓reduceIte, reduceCtorEq, evQ, evK, evC, evA, avalR, prefB, eqR, nzD, actT, callT1, callR1, callK1, valsL, condsL, optV, noTabs, IE.frame, memB, zeroO, IntWalk.i64_in, headG, headRG, headD, readG, readRG, readD, allG, allRG, sameG, un_tlv, awake01G, tabBer5_r, tabBer5_k, tabBer5_q13, tabBer5_q14, tabBer5_q15, tabBer5_q16, tabBer5_q17, tabBer5_q18, tabBer5_q19, tabBer5_q20, tabBer5_q21, tabBer5_q22, putG, putRG]; rfl) (by first | with_reducible rfl | omega | (simp; done) | (simp; omega) | rfl) ?_
    refine osS (by simp only [zC, stepOp, aval, opv, Ab.get, Ab.put, putO, Nat.reduceEqDiff, ↓reduceIte, D.val, D.cond, reduceCtorEq]; rfl) rfl ?_
    refine osS (by simp (disch := omega) only [zL, zC, stepOp, aval, opv, Ab.get, Ab.put, putO, Nat.reduceEqDiff, ↓reduceIte, D.val, D.cond, reduceCtorEq, Nat.reduceAdd, Nat.reduceLeDiff, headG, headRG, headD, readG, readRG, readD, allG, allRG, sameG, un_tlv, awake01G]; rfl) rfl ?_
    refine osS (by simp (disch := omega) only [zL, zC, stepOp, aval, opv, Ab.get, Ab.put, putO, Nat.reduceEqDiff, ↓reduceIte, D.val, D.cond, reduceCtorEq, Nat.reduceAdd, Nat.reduceLeDiff, headG, headRG, headD, readG, readRG, readD, allG, allRG, sameG, un_tlv, awake01G]; rfl) rfl ?_
    refine osS (by simp (disch := omega) only [zL, zC, stepOp, aval, opv, Ab.get, Ab.put, putO, Nat.reduceEqDiff, ↓reduceIte, D.val, D.cond, reduceCtorEq, Nat.reduceAdd, Nat.reduceLeDiff, headG, headRG, headD, readG, readRG, readD, allG, allRG, sameG, un_tlv, awake01G]; rfl) rfl ?_
    refine osS (by simp (disch := omega) only [zL, zC, stepOp, aval, opv, Ab.get, Ab.put, putO, Nat.reduceEqDiff, ↓reduceIte, D.val, D.cond, reduceCtorEq, Nat.reduceAdd, Nat.reduceLeDiff, headG, headRG, headD, readG, readRG, readD, allG, allRG, sameG, un_tlv, awake01G]; rfl) rfl ?_
    refine osS (by simp only [zC, stepOp, aval, opv, Ab.get, Ab.put, putO, Nat.reduceEqDiff, ↓reduceIte, D.val, D.cond, reduceCtorEq]; rfl) rfl ?_
    refine osS (by simp only [zC, stepOp, aval, opv, Ab.get, Ab.put, putO, Nat.reduceEqDiff, ↓reduceIte, D.val, D.cond, reduceCtorEq]; rfl) rfl ?_
    refine osS (by simp only [zC, stepOp, aval, opv, Ab.get, Ab.put, putO, Nat.reduceEqDiff, ↓reduceIte, D.val, D.cond, reduceCtorEq]; rfl) rfl ?_
    refine osS (by simp only [zC, stepOp, aval, opv, Ab.get, Ab.put, putO, Nat.reduceEqDiff, ↓reduceIte, D.val, D.cond, reduceCtorEq]; rfl) rfl ?_
    refine osN ?_
    simp only [keep, memN, Nat.reduceEqDiff, if_true, if_false, ↓reduceIte, Option.getD_none, Option.getD_some, List.append_nil, List.cons_append, List.nil_append, Bool.false_eq_true]
    refine hK _ _ ?_
    clear hK K
    refine thenQ_normal ?_
    refine WI.seq ?_
    refine WI.regA tabBer5_ok [0, 3, 4, 5, 6, 7, 8, 9, 10, 11, 12, 13] (fun K hK => ?_)
    refine osS (by simp only [zC, stepOp, aval, opv, Ab.get, Ab.put, putO, Nat.reduceEqDiff, ↓reduceIte, D.val, D.cond, reduceCtorEq]; rfl) rfl ?_
    refine osS (by simp (disch := omega) only [zS, viaNN, viaNNT, D.nn, addQ, addT, IE.isCall, Nat.reduceAdd, Nat.reduceSub, Nat.reduceMul, Nat.reduceLeDiff, Nat.reduceLT, Nat.reduceBEq, Int.reduceToNat, Int.reduceLE, Int.reduceLT, Int.reduceAdd, Int.reduceSub, Int.reduceMul, Int.reduceNeg, Int.reduceEq, Nat.reduceEqDiff, runOpsA, runDA, stepOp, aval, aact, opv, Ab.get, Ab.put, putO, keep, memN, D.val, D.cond, D.cells?, D.scalar, X.scalar, D.plain, D.isX, binD, bitsD, eqD, eqFs, eqX, unD, intOf?, lenD, okRef, rowsOf, viewD, viewX, freezeD, freezeL, partsD, buildD, slcStrD, slcSlD, Ob.slice?, ↓reduceIte, reduceCtorEq, evQ, evK, evC, evA, avalR, prefB, eqR, nzD, actT, callT1, callR1, callK1, valsL, condsL, optV, noTabs, IE.frame, memB, zeroO, IntWalk.i64_in, headG, headRG, headD, readG, readRG, readD, allG, allRG, sameG, un_tlv, awake01G, tabBer5_r, tabBer5_k, tabBer5_q13, tabBer5_q14, tabBer5_q15, tabBer5_q16, tabBer5_q17, tabBer5_q18, tabBer5_q19, tabBer5_q20, tabBer5_q21, tabBer5_q22, putG, putRG]; rfl) (by first | with_reducible rfl | omega | (simp; done) | (simp; omega) | rfl) ?_
    refine osS (by simp only [zC, stepOp, aval, opv, Ab.get, Ab.put, putO, Nat.reduceEqDiff, ↓reduceIte, D.val, D.cond, reduceCtorEq]; rfl) rfl ?_
    refine osS (by simp (disch := omega) only [zL, zC, stepOp, aval, opv, Ab.get, Ab.put, putO, Nat.reduceEqDiff, ↓reduceIte, D.val, D.cond, reduceCtorEq, Nat.reduceAdd, Nat.reduceLeDiff, headG, headRG, headD, readG, readRG, readD, allG, allRG, sameG, un_tlv, awake01G]; rfl) rfl ?_
    refine osS (by simp (disch := omega) only [zL, zC, stepOp, aval, opv, Ab.get, Ab.put, putO, Nat.reduceEqDiff, ↓reduceIte, D.val, D.cond, reduceCtorEq, Nat.reduceAdd, Nat.reduceLeDiff, headG, headRG, headD, readG, readRG, readD, allG, allRG, sameG, un_tlv, awake01G]; rfl) rfl ?_
    refine osS (by simp (disch := omega) only [zL, zC, stepOp, aval, opv, Ab.get, Ab.put, putO, Nat.reduceEqDiff, ↓reduceIte, D.val, D.cond, reduceCtorEq, Nat.reduceAdd, Nat.reduceLeDiff, headG, headRG, headD, readG, readRG, readD, allG, allRG, sameG, un_tlv, awake01G]; rfl) rfl ?_
    refine osS (by simp (disch := omega) only [zL, zC, stepOp, aval, opv, Ab.get, Ab.put, putO, Nat.reduceEqDiff, ↓reduceIte, D.val, D.cond, reduceCtorEq, aact, actT, IE.isCall, D.cells?, Nat.reduceAdd, Nat.reduceLeDiff, headG, headRG, headD, readG, readRG, readD, allG, allRG, sameG, un_tlv, awake01G]; rfl) rfl ?_
    refine osS (by simp (disch := omega) only [zL, zR, zC, stepOp, aval, opv, Ab.get, Ab.put, putO, Nat.reduceEqDiff, ↓reduceIte, D.val, D.cond, reduceCtorEq, aact, actT, IE.isCall, D.cells?, freezeL, freezeD, Option.map_none, Nat.reduceAdd, Nat.reduceLeDiff, Ob.slice?, headG, headRG, headD, readG, readRG, readD, allG, allRG, sameG, un_tlv, awake01G]; rfl) (by first | with_reducible rfl | omega | (simp; done) | (simp; omega) | rfl) ?_
    refine osS (by simp only [zC, stepOp, aval, opv, Ab.get, Ab.put, putO, Nat.reduceEqDiff, ↓reduceIte, D.val, D.cond, reduceCtorEq]; rfl) rfl ?_
    refine osS (by simp only [zC, stepOp, aval, opv, Ab.get, Ab.put, putO, Nat.reduceEqDiff, ↓reduceIte, D.val, D.cond, reduceCtorEq]; rfl) rfl ?_
    refine osN ?_
    simp only [keep, memN, Nat.reduceEqDiff, if_true, if_false, ↓reduceIte, Option.getD_none, Option.getD_some, List.append_nil, List.cons_append, List.nil_append, Bool.false_eq_true]
    refine hK _ _ ?_
    clear hK K
    refine thenQ_normal ?_
    refine WI.seq ?_
    refine WI.regA tabBer5_ok [0, 3, 4, 5, 6, 7, 8, 9, 10, 11, 12, 13, 14, 15, 16] (fun K hK => ?_)
    refine osS (by simp only [zC, stepOp, aval, opv, Ab.get, Ab.put, putO, Nat.reduceEqDiff, ↓reduceIte, D.val, D.cond, reduceCtorEq]; rfl) rfl ?_
    refine osS (by simp (disch := omega) only [zS, viaNN, viaNNT, D.nn, addQ, addT, IE.isCall, Nat.reduceAdd, Nat.reduceSub, Nat.reduceMul, Nat.reduceLeDiff, Nat.reduceLT, Nat.reduceBEq, Int.reduceToNat, Int.reduceLE, Int.reduceLT, Int.reduceAdd, Int.reduceSub, Int.reduceMul, Int.reduceNeg, Int.reduceEq, Nat.reduceEqDiff, runOpsA, runDA, stepOp, aval, aact, opv, Ab.get, Ab.put, putO, keep, memN, D.val, D.cond, D.cells?, D.scalar, X.scalar, D.plain, D.isX, binD, bitsD, eqD, eqFs, eqX, unD, intOf?, lenD, okRef, rowsOf, viewD, viewX, freezeD, freezeL, partsD, buildD, slcStrD, slcSlD, Ob.slice?, ↓reduceIte, reduceCtorEq, evQ, evK, evC, evA, avalR, prefB, eqR, nzD, actT, callT1, callR1, callK1, valsL, condsL, optV, noTabs, IE.frame, memB, zeroO, IntWalk.i64_in, headG, headRG, headD, readG, readRG, readD, allG, allRG, sameG, un_tlv, awake01G, tabBer5_r, tabBer5_k, tabBer5_q13, tabBer5_q14, tabBer5_q15, tabBer5_q16, tabBer5_q17, tabBer5_q18, tabBer5_q19, tabBer5_q20, tabBer5_q21, tabBer5_q22, putG, putRG]; rfl) (by first | with_reducible rfl | omega | (simp; done) | (simp; omega) | rfl) ?_
    refine osS (by simp only [zC, stepOp, aval, opv, Ab.get, Ab.put, putO, Nat.reduceEqDiff, ↓reduceIte, D.val, D.cond, reduceCtorEq]; rfl) rfl ?_
    refine osS (by simp (disch := omega) only [zL, zC, stepOp, aval, opv, Ab.get, Ab.put, putO, Nat.reduceEqDiff, ↓reduceIte, D.val, D.cond, reduceCtorEq, Nat.reduceAdd, Nat.reduceLeDiff, headG, headRG, headD, readG, readRG, readD, allG, allRG, sameG, un_tlv, awake01G]; rfl) rfl ?_
    refine osS (by simp (disch := omega) only [zL, zC, stepOp, aval, opv, Ab.get, Ab.put, putO, Nat.reduceEqDiff, ↓reduceIte, D.val, D.cond, reduceCtorEq, Nat.reduceAdd, Nat.reduceLeDiff, headG, headRG, headD, readG, readRG, readD, allG, allRG, sameG, un_tlv, awake01G]; rfl) rfl ?_
    refine osS (by simp (disch := omega) only [zL, zC, stepOp, aval, opv, Ab.get, Ab.put, putO, Nat.reduceEqDiff, ↓reduceIte, D.val, D.cond, reduceCtorEq, Nat.reduceAdd, Nat.reduceLeDiff, headG, headRG, headD, readG, readRG, readD, allG, allRG, sameG, un_tlv, awake01G]; rfl) rfl ?_
    refine osS (by simp (disch := omega) only [zL, zC, stepOp, aval, opv, Ab.get, Ab.put, putO, Nat.reduceEqDiff, ↓reduceIte, D.val, D.cond, reduceCtorEq, aact, actT, IE.isCall, D.cells?, Nat.reduceAdd, Nat.reduceLeDiff, headG, headRG, headD, readG, readRG, readD, allG, allRG, sameG, un_tlv, awake01G]; rfl) rfl ?_
    refine osS (by simp (disch := omega) only [zL, zR, zC, stepOp, aval, opv, Ab.get, Ab.put, putO, Nat.reduceEqDiff, ↓reduceIte, D.val, D.cond, reduceCtorEq, aact, actT, IE.isCall, D.cells?, freezeL, freezeD, Option.map_none, Nat.reduceAdd, Nat.reduceLeDiff, Ob.slice?, headG, headRG, headD, readG, readRG, readD, allG, allRG, sameG, un_tlv, awake01G]; rfl) (by first | with_reducible rfl | omega | (simp; done) | (simp; omega) | rfl) ?_
    refine osS (by simp only [zC, stepOp, aval, opv, Ab.get, Ab.put, putO, Nat.reduceEqDiff, ↓reduceIte, D.val, D.cond, reduceCtorEq]; rfl) rfl ?_
    refine osS (by simp only [zC, stepOp, aval, opv, Ab.get, Ab.put, putO, Nat.reduceEqDiff, ↓reduceIte, D.val, D.cond, reduceCtorEq]; rfl) rfl ?_
    refine osN ?_
    simp only [keep, memN, Nat.reduceEqDiff, if_true, if_false, ↓reduceIte, Option.getD_none, Option.getD_some, List.append_nil, List.cons_append, List.nil_append, Bool.false_eq_true]
    refine hK _ _ ?_
    clear hK K
    refine thenQ_normal ?_
    refine WI.seq ?_
    refine WI.regA tabBer5_ok [0, 3, 4, 5, 6, 7, 8, 9, 10, 11, 12, 13, 14, 15, 16, 17, 18] (fun K hK => ?_)
    refine osS (by simp only [zC, stepOp, aval, opv, Ab.get, Ab.put, putO, Nat.reduceEqDiff, ↓reduceIte, D.val, D.cond, reduceCtorEq]; rfl) rfl ?_
    refine osS (by simp (disch := omega) only [zS, viaNN, viaNNT, D.nn, addQ, addT, IE.isCall, Nat.reduceAdd, Nat.reduceSub, Nat.reduceMul, Nat.reduceLeDiff, Nat.reduceLT, Nat.reduceBEq, Int.reduceToNat, Int.reduceLE, Int.reduceLT, Int.reduceAdd, Int.reduceSub, Int.reduceMul, Int.reduceNeg, Int.reduceEq, Nat.reduceEqDiff, runOpsA, runDA, stepOp, aval, aact, opv, Ab.get, Ab.put, putO, keep, memN, D.val, D.cond, D.cells?, D.scalar, X.scalar, D.plain, D.isX, binD, bitsD, eqD, eqFs, eqX, unD, intOf?, lenD, okRef, rowsOf, viewD, viewX, freezeD, freezeL, partsD, buildD, slcStrD, slcSlD, Ob.slice?, ↓reduceIte, reduceCtorEq, evQ, evK, evC, evA, avalR, prefB, eqR, nzD, actT, callT1, callR1, callK1, valsL, condsL, optV, noTabs, IE.frame, memB, zeroO, IntWalk.i64_in, headG, headRG, headD, readG, readRG, readD, allG, allRG, sameG, un_tlv, awake01G, tabBer5_r, tabBer5_k, tabBer5_q13, tabBer5_q14, tabBer5_q15, tabBer5_q16, tabBer5_q17, tabBer5_q18, tabBer5_q19, tabBer5_q20, tabBer5_q21, tabBer5_q22, putG, putRG]; rfl) (by first | with_reducible rfl | omega | (simp; done) | (simp; omega) | rfl) ?_
    refine osS (by simp only [zC, stepOp, aval, opv, Ab.get, Ab.put, putO, Nat.reduceEqDiff, ↓reduceIte, D.val, D.cond, reduceCtorEq]; rfl) rfl ?_
    refine osS (by simp (disch := omega) only [zL, zC, stepOp, aval, opv, Ab.get, Ab.put, putO, Nat.reduceEqDiff, ↓reduceIte, D.val, D.cond, reduceCtorEq, Nat.reduceAdd, Nat.reduceLeDiff, headG, headRG, headD, readG, readRG, readD, allG, allRG, sameG, un_tlv, awake01G]; rfl) rfl ?_
    refine osS (by simp (disch := omega) only [zL, zC, stepOp, aval, opv, Ab.get, Ab.put, putO, Nat.reduceEqDiff, ↓reduceIte, D.val, D.cond, reduceCtorEq, Nat.reduceAdd, Nat.reduceLeDiff, headG, headRG, headD, readG, readRG, readD, allG, allRG, sameG, un_tlv, awake01G]; rfl) rfl ?_
    refine osS (by simp only [zC, stepOp, aval, opv, Ab.get, Ab.put, putO, Nat.reduceEqDiff, ↓reduceIte, D.val, D.cond, reduceCtorEq]; rfl) rfl ?_
    refine osS (by simp only [zC, stepOp, aval, opv, Ab.get, Ab.put, putO, Nat.reduceEqDiff, ↓reduceIte, D.val, D.cond, reduceCtorEq]; rfl) rfl ?_
    refine osN ?_
    simp only [keep, memN, Nat.reduceEqDiff, if_true, if_false, ↓reduceIte, Option.getD_none, Option.getD_some, List.append_nil, List.cons_append, List.nil_append, Bool.false_eq_true]
    refine hK _ _ ?_
    clear hK K
    refine thenQ_normal ?_
    refine WI.seq ?_
    refine WI.regA tabBer5_ok [3, 4, 5, 6, 7, 8, 9, 10, 11, 12, 13, 14, 15, 16, 17, 18, 19, 20] (fun K hK => ?_)
    refine osS (by simp only [zC, stepOp, aval, opv, Ab.get, Ab.put, putO, Nat.reduceEqDiff, ↓reduceIte, D.val, D.cond, reduceCtorEq]; rfl) rfl ?_
    refine osS (by simp (disch := omega) only [zS, viaNN, viaNNT, D.nn, addQ, addT, IE.isCall, Nat.reduceAdd, Nat.reduceSub, Nat.reduceMul, Nat.reduceLeDiff, Nat.reduceLT, Nat.reduceBEq, Int.reduceToNat, Int.reduceLE, Int.reduceLT, Int.reduceAdd, Int.reduceSub, Int.reduceMul, Int.reduceNeg, Int.reduceEq, Nat.reduceEqDiff, runOpsA, runDA, stepOp, aval, aact, opv, Ab.get, Ab.put, putO, keep, memN, D.val, D.cond, D.cells?, D.scalar, X.scalar, D.plain, D.isX, binD, bitsD, eqD, eqFs, eqX, unD, intOf?, lenD, okRef, rowsOf, viewD, viewX, freezeD, freezeL, partsD, buildD, slcStrD, slcSlD, Ob.slice?, ↓reduceIte, reduceCtorEq, evQ, evK, evC, evA, avalR, prefB, eqR, nzD, actT, callT1, callR1, callK1, valsL, condsL, optV, noTabs, IE.frame, memB, zeroO, IntWalk.i64_in, headG, headRG, headD, readG, readRG, readD, allG, allRG, sameG, un_tlv, awake01G, tabBer5_r, tabBer5_k, tabBer5_q13, tabBer5_q14, tabBer5_q15, tabBer5_q16, tabBer5_q17, tabBer5_q18, tabBer5_q19, tabBer5_q20, tabBer5_q21, tabBer5_q22, putG, putRG]; rfl) (by first | with_reducible rfl | omega | (simp; done) | (simp; omega) | rfl) ?_
    refine osS (by simp only [zC, stepOp, aval, opv, Ab.get, Ab.put, putO, Nat.reduceEqDiff, ↓reduceIte, D.val, D.cond, reduceCtorEq]; rfl) rfl ?_
    refine osS (by simp (disch := omega) only [zL, zC, stepOp, aval, opv, Ab.get, Ab.put, putO, Nat.reduceEqDiff, ↓reduceIte, D.val, D.cond, reduceCtorEq, Nat.reduceAdd, Nat.reduceLeDiff, headG, headRG, headD, readG, readRG, readD, allG, allRG, sameG, un_tlv, awake01G]; rfl) rfl ?_
    refine osS (by simp (disch := omega) only [zL, zC, stepOp, aval, opv, Ab.get, Ab.put, putO, Nat.reduceEqDiff, ↓reduceIte, D.val, D.cond, reduceCtorEq, Nat.reduceAdd, Nat.reduceLeDiff, headG, headRG, headD, readG, readRG, readD, allG, allRG, sameG, un_tlv, awake01G]; rfl) rfl ?_
    refine osS (by simp only [zC, stepOp, aval, opv, Ab.get, Ab.put, putO, Nat.reduceEqDiff, ↓reduceIte, D.val, D.cond, reduceCtorEq]; rfl) rfl ?_
    refine osS (by simp only [zC, stepOp, aval, opv, Ab.get, Ab.put, putO, Nat.reduceEqDiff, ↓reduceIte, D.val, D.cond, reduceCtorEq]; rfl) rfl ?_
    refine osN ?_
    simp only [keep, memN, Nat.reduceEqDiff, if_true, if_false, ↓reduceIte, Option.getD_none, Option.getD_some, List.append_nil, List.cons_append, List.nil_append, Bool.false_eq_true]
    refine hK _ _ ?_
    clear hK K
    refine thenQ_normal ?_
    refine WI.seq ?_
    refine WI.regA tabBer5_ok [2] (fun K hK => ?_)
    refine osS (by simp only [zC, stepOp, aval, opv, Ab.get, Ab.put, putO, Nat.reduceEqDiff, ↓reduceIte, D.val, D.cond, reduceCtorEq]; rfl) rfl ?_
    refine osS (by simp only [zC, stepOp, aval, opv, Ab.get, Ab.put, putO, Nat.reduceEqDiff, ↓reduceIte, D.val, D.cond, reduceCtorEq]; rfl) rfl ?_
    refine osS (by simp (disch := omega) only [zG, zN, zC, stepOp, aval, opv, Ab.get, Ab.put, putO, Nat.reduceEqDiff, ↓reduceIte, D.val, D.cond, reduceCtorEq, binD, bitsD, Nat.reduceAdd, Nat.reduceSub, Nat.reduceMul, Nat.reduceLeDiff, Int.reduceToNat, Int.reduceLE, Int.reduceLT, Int.reduceAdd, Int.reduceSub, Int.reduceMul, Int.reduceNeg, Int.reduceEq, bne_self_eq_false, headG, headRG, headD, readG, readRG, readD, allG, allRG, sameG, un_tlv, awake01G]; rfl) (by first | with_reducible rfl | omega | (simp; done) | (simp; omega) | rfl) ?_
    refine osS (by simp only [zC, stepOp, aval, opv, Ab.get, Ab.put, putO, Nat.reduceEqDiff, ↓reduceIte, D.val, D.cond, reduceCtorEq]; rfl) rfl ?_
    refine osS (by simp (disch := omega) only [zG, zC, stepOp, aval, opv, Ab.get, Ab.put, putO, Nat.reduceEqDiff, ↓reduceIte, D.val, D.cond, reduceCtorEq, headG, headRG, headD, readG, readRG, readD, allG, allRG, sameG, un_tlv, awake01G]; rfl) rfl ?_
    refine osS (by simp (disch := omega) only [zG, zC, stepOp, aval, opv, Ab.get, Ab.put, putO, Nat.reduceEqDiff, ↓reduceIte, D.val, D.cond, reduceCtorEq, headG, headRG, headD, readG, readRG, readD, allG, allRG, sameG, un_tlv, awake01G]; rfl) rfl ?_
    refine osS (by simp (disch := omega) only [zG, zN, zC, stepOp, aval, opv, Ab.get, Ab.put, putO, Nat.reduceEqDiff, ↓reduceIte, D.val, D.cond, reduceCtorEq, binD, bitsD, Nat.reduceAdd, Nat.reduceSub, Nat.reduceMul, Nat.reduceLeDiff, Int.reduceToNat, Int.reduceLE, Int.reduceLT, Int.reduceAdd, Int.reduceSub, Int.reduceMul, Int.reduceNeg, Int.reduceEq, bne_self_eq_false, headG, headRG, headD, readG, readRG, readD, allG, allRG, sameG, un_tlv, awake01G]; rfl) (by first | with_reducible rfl | omega | (simp; done) | (simp; omega) | rfl) ?_
    refine osS (by simp (disch := omega) only [zG, zC, stepOp, aval, opv, Ab.get, Ab.put, putO, Nat.reduceEqDiff, ↓reduceIte, D.val, D.cond, reduceCtorEq, Bool.cond_true_left, Bool.cond_false_right, cond_true, cond_false, headG, headRG, headD, readG, readRG, readD, allG, allRG, sameG, un_tlv, awake01G]; rfl) (by first | with_reducible rfl | omega | (simp; done) | (simp; omega) | rfl) ?_
    refine osS (by simp only [zC, stepOp, aval, opv, Ab.get, Ab.put, putO, Nat.reduceEqDiff, ↓reduceIte, D.val, D.cond, reduceCtorEq]; rfl) rfl ?_
    refine osS (by simp (disch := omega) only [zG, zC, stepOp, aval, opv, Ab.get, Ab.put, putO, Nat.reduceEqDiff, ↓reduceIte, D.val, D.cond, reduceCtorEq, headG, headRG, headD, readG, readRG, readD, allG, allRG, sameG, un_tlv, awake01G]; rfl) rfl ?_
    refine osS (by simp (disch := omega) only [zG, zC, stepOp, aval, opv, Ab.get, Ab.put, putO, Nat.reduceEqDiff, ↓reduceIte, D.val, D.cond, reduceCtorEq, headG, headRG, headD, readG, readRG, readD, allG, allRG, sameG, un_tlv, awake01G]; rfl) rfl ?_
    refine osS (by simp (disch := omega) only [zG, zN, zC, stepOp, aval, opv, Ab.get, Ab.put, putO, Nat.reduceEqDiff, ↓reduceIte, D.val, D.cond, reduceCtorEq, binD, bitsD, Nat.reduceAdd, Nat.reduceSub, Nat.reduceMul, Nat.reduceLeDiff, Int.reduceToNat, Int.reduceLE, Int.reduceLT, Int.reduceAdd, Int.reduceSub, Int.reduceMul, Int.reduceNeg, Int.reduceEq, bne_self_eq_false, headG, headRG, headD, readG, readRG, readD, allG, allRG, sameG, un_tlv, awake01G]; rfl) (by first | with_reducible rfl | omega | (simp; done) | (simp; omega) | rfl) ?_
    refine osS (by simp (disch := omega) only [zG, zC, stepOp, aval, opv, Ab.get, Ab.put, putO, Nat.reduceEqDiff, ↓reduceIte, D.val, D.cond, reduceCtorEq, Bool.cond_true_left, Bool.cond_false_right, cond_true, cond_false, headG, headRG, headD, readG, readRG, readD, allG, allRG, sameG, un_tlv, awake01G]; rfl) (by first | with_reducible rfl | omega | (simp; done) | (simp; omega) | rfl) ?_
    refine osS (by simp only [zC, stepOp, aval, opv, Ab.get, Ab.put, putO, Nat.reduceEqDiff, ↓reduceIte, D.val, D.cond, reduceCtorEq]; rfl) rfl ?_
    refine osS (by simp (disch := omega) only [zG, zC, stepOp, aval, opv, Ab.get, Ab.put, putO, Nat.reduceEqDiff, ↓reduceIte, D.val, D.cond, reduceCtorEq, headG, headRG, headD, readG, readRG, readD, allG, allRG, sameG, un_tlv, awake01G]; rfl) rfl ?_
    refine osS (by simp (disch := omega) only [zG, zC, stepOp, aval, opv, Ab.get, Ab.put, putO, Nat.reduceEqDiff, ↓reduceIte, D.val, D.cond, reduceCtorEq, headG, headRG, headD, readG, readRG, readD, allG, allRG, sameG, un_tlv, awake01G]; rfl) rfl ?_
    refine osS (by simp (disch := omega) only [zG, zN, zC, stepOp, aval, opv, Ab.get, Ab.put, putO, Nat.reduceEqDiff, ↓reduceIte, D.val, D.cond, reduceCtorEq, binD, bitsD, Nat.reduceAdd, Nat.reduceSub, Nat.reduceMul, Nat.reduceLeDiff, Int.reduceToNat, Int.reduceLE, Int.reduceLT, Int.reduceAdd, Int.reduceSub, Int.reduceMul, Int.reduceNeg, Int.reduceEq, bne_self_eq_false, headG, headRG, headD, readG, readRG, readD, allG, allRG, sameG, un_tlv, awake01G]; rfl) (by first | with_reducible rfl | omega | (simp; done) | (simp; omega) | rfl) ?_
    refine osS (by simp (disch := omega) only [zG, zC, stepOp, aval, opv, Ab.get, Ab.put, putO, Nat.reduceEqDiff, ↓reduceIte, D.val, D.cond, reduceCtorEq, Bool.cond_true_left, Bool.cond_false_right, cond_true, cond_false, headG, headRG, headD, readG, readRG, readD, allG, allRG, sameG, un_tlv, awake01G]; rfl) (by first | with_reducible rfl | omega | (simp; done) | (simp; omega) | rfl) ?_
    refine osS (by simp only [zC, stepOp, aval, opv, Ab.get, Ab.put, putO, Nat.reduceEqDiff, ↓reduceIte, D.val, D.cond, reduceCtorEq]; rfl) rfl ?_
    refine osS (by simp (disch := omega) only [zL, zG, zR, zC, stepOp, aval, opv, Ab.get, Ab.put, putO, Nat.reduceEqDiff, ↓reduceIte, D.val, D.cond, reduceCtorEq, Nat.reduceAdd, Nat.reduceLeDiff, Ob.slice?, headG, headRG, headD, readG, readRG, readD, allG, allRG, sameG, un_tlv, awake01G]; rfl) (by first | with_reducible rfl | omega | (simp; done) | (simp; omega) | rfl) ?_
    refine osS (by simp (disch := omega) only [zL, zG, zR, zC, stepOp, aval, opv, Ab.get, Ab.put, putO, Nat.reduceEqDiff, ↓reduceIte, D.val, D.cond, reduceCtorEq, Nat.reduceAdd, Nat.reduceLeDiff, Ob.slice?, headG, headRG, headD, readG, readRG, readD, allG, allRG, sameG, un_tlv, awake01G]; rfl) (by first | with_reducible rfl | omega | (simp; done) | (simp; omega) | rfl) ?_
    refine osS (by simp (disch := omega) only [zM, stepOp, aval, opv, Ab.get, Ab.put, putO, Nat.reduceEqDiff, ↓reduceIte, D.val, D.cond, reduceCtorEq, aact, actT, IE.isCall, D.cells?, Nat.reduceAdd, Nat.reduceLeDiff, Ob.slice?, Nat.reduceSub, Nat.reduceMul, Int.reduceToNat, Int.reduceLE, Int.reduceLT, Int.reduceAdd, Int.reduceSub, Int.reduceMul, Int.reduceNeg, Int.reduceEq, rowsOf, srcOf, okRef, intOf?, partsD, freezeL, freezeD, buildD, slcStrD, slcSlD, optV, zeroO, eqR, eqD, eqFs, eqX, nzD, binD, unD, lenD, evK, evC, Nat.reduceLT, headG, headRG, headD, readG, readRG, readD, allG, allRG, sameG, un_tlv, awake01G]; rfl) (by first | with_reducible rfl | omega | (simp; done) | (simp; omega) | rfl) ?_
    refine osS (by simp (disch := omega) only [zG, zC, stepOp, aval, opv, Ab.get, Ab.put, putO, Nat.reduceEqDiff, ↓reduceIte, D.val, D.cond, reduceCtorEq, Bool.cond_true_left, Bool.cond_false_right, cond_true, cond_false, headG, headRG, headD, readG, readRG, readD, allG, allRG, sameG, un_tlv, awake01G]; rfl) (by first | with_reducible rfl | omega | (simp; done) | (simp; omega) | rfl) ?_
    refine osS (by simp only [zC, stepOp, aval, opv, Ab.get, Ab.put, putO, Nat.reduceEqDiff, ↓reduceIte, D.val, D.cond, reduceCtorEq]; rfl) rfl ?_
    refine osS (by simp (disch := omega) only [zG, zC, stepOp, aval, opv, Ab.get, Ab.put, putO, Nat.reduceEqDiff, ↓reduceIte, D.val, D.cond, reduceCtorEq, headG, headRG, headD, readG, readRG, readD, allG, allRG, sameG, un_tlv, awake01G]; rfl) rfl ?_
    refine osS (by simp (disch := omega) only [zG, zC, stepOp, aval, opv, Ab.get, Ab.put, putO, Nat.reduceEqDiff, ↓reduceIte, D.val, D.cond, reduceCtorEq, headG, headRG, headD, readG, readRG, readD, allG, allRG, sameG, un_tlv, awake01G]; rfl) rfl ?_
    refine osS (by simp (disch := omega) only [zG, zN, zC, stepOp, aval, opv, Ab.get, Ab.put, putO, Nat.reduceEqDiff, ↓reduceIte, D.val, D.cond, reduceCtorEq, binD, bitsD, Nat.reduceAdd, Nat.reduceSub, Nat.reduceMul, Nat.reduceLeDiff, Int.reduceToNat, Int.reduceLE, Int.reduceLT, Int.reduceAdd, Int.reduceSub, Int.reduceMul, Int.reduceNeg, Int.reduceEq, bne_self_eq_false, headG, headRG, headD, readG, readRG, readD, allG, allRG, sameG, un_tlv, awake01G]; rfl) (by first | with_reducible rfl | omega | (simp; done) | (simp; omega) | rfl) ?_
    refine osS (by simp (disch := omega) only [zG, zC, stepOp, aval, opv, Ab.get, Ab.put, putO, Nat.reduceEqDiff, ↓reduceIte, D.val, D.cond, reduceCtorEq, Bool.cond_true_left, Bool.cond_false_right, cond_true, cond_false, headG, headRG, headD, readG, readRG, readD, allG, allRG, sameG, un_tlv, awake01G]; rfl) (by first | with_reducible rfl | omega | (simp; done) | (simp; omega) | rfl) ?_
    refine osS (by simp only [zC, stepOp, aval, opv, Ab.get, Ab.put, putO, Nat.reduceEqDiff, ↓reduceIte, D.val, D.cond, reduceCtorEq]; rfl) rfl ?_
    refine osS (by simp (disch := omega) only [zG, zC, stepOp, aval, opv, Ab.get, Ab.put, putO, Nat.reduceEqDiff, ↓reduceIte, D.val, D.cond, reduceCtorEq, headG, headRG, headD, readG, readRG, readD, allG, allRG, sameG, un_tlv, awake01G]; rfl) rfl ?_
    refine osS (by simp (disch := omega) only [zG, zC, stepOp, aval, opv, Ab.get, Ab.put, putO, Nat.reduceEqDiff, ↓reduceIte, D.val, D.cond, reduceCtorEq, headG, headRG, headD, readG, readRG, readD, allG, allRG, sameG, un_tlv, awake01G]; rfl) rfl ?_
    refine osS (by simp (disch := omega) only [zG, zN, zC, stepOp, aval, opv, Ab.get, Ab.put, putO, Nat.reduceEqDiff, ↓reduceIte, D.val, D.cond, reduceCtorEq, binD, bitsD, Nat.reduceAdd, Nat.reduceSub, Nat.reduceMul, Nat.reduceLeDiff, Int.reduceToNat, Int.reduceLE, Int.reduceLT, Int.reduceAdd, Int.reduceSub, Int.reduceMul, Int.reduceNeg, Int.reduceEq, bne_self_eq_false, headG, headRG, headD, readG, readRG, readD, allG, allRG, sameG, un_tlv, awake01G]; rfl) (by first | with_reducible rfl | omega | (simp; done) | (simp; omega) | rfl) ?_
    refine osS (by simp (disch := omega) only [zG, zC, stepOp, aval, opv, Ab.get, Ab.put, putO, Nat.reduceEqDiff, ↓reduceIte, D.val, D.cond, reduceCtorEq, Bool.cond_true_left, Bool.cond_false_right, cond_true, cond_false, headG, headRG, headD, readG, readRG, readD, allG, allRG, sameG, un_tlv, awake01G]; rfl) (by first | with_reducible rfl | omega | (simp; done) | (simp; omega) | rfl) ?_
    refine osS (by simp only [zC, stepOp, aval, opv, Ab.get, Ab.put, putO, Nat.reduceEqDiff, ↓reduceIte, D.val, D.cond, reduceCtorEq]; rfl) rfl ?_
    refine osS (by simp (disch := omega) only [zG, zC, stepOp, aval, opv, Ab.get, Ab.put, putO, Nat.reduceEqDiff, ↓reduceIte, D.val, D.cond, reduceCtorEq, headG, headRG, headD, readG, readRG, readD, allG, allRG, sameG, un_tlv, awake01G]; rfl) rfl ?_
    refine osS (by simp (disch := omega) only [zG, zC, stepOp, aval, opv, Ab.get, Ab.put, putO, Nat.reduceEqDiff, ↓reduceIte, D.val, D.cond, reduceCtorEq, headG, headRG, headD, readG, readRG, readD, allG, allRG, sameG, un_tlv, awake01G]; rfl) rfl ?_
    refine osS (by simp (disch := omega) only [zS, viaNN, viaNNT, D.nn, addQ, addT, IE.isCall, Nat.reduceAdd, Nat.reduceSub, Nat.reduceMul, Nat.reduceLeDiff, Nat.reduceLT, Nat.reduceBEq, Int.reduceToNat, Int.reduceLE, Int.reduceLT, Int.reduceAdd, Int.reduceSub, Int.reduceMul, Int.reduceNeg, Int.reduceEq, Nat.reduceEqDiff, runOpsA, runDA, stepOp, aval, aact, opv, Ab.get, Ab.put, putO, keep, memN, D.val, D.cond, D.cells?, D.scalar, X.scalar, D.plain, D.isX, binD, bitsD, eqD, eqFs, eqX, unD, intOf?, lenD, okRef, rowsOf, viewD, viewX, freezeD, freezeL, partsD, buildD, slcStrD, slcSlD, Ob.slice?, ↓reduceIte, reduceCtorEq, evQ, evK, evC, evA, avalR, prefB, eqR, nzD, actT, callT1, callR1, callK1, valsL, condsL, optV, noTabs, IE.frame, memB, zeroO, IntWalk.i64_in, headG, headRG, headD, readG, readRG, readD, allG, allRG, sameG, un_tlv, awake01G, tabBer5_r, tabBer5_k, tabBer5_q13, tabBer5_q14, tabBer5_q15, tabBer5_q16, tabBer5_q17, tabBer5_q18, tabBer5_q19, tabBer5_q20, tabBer5_q21, tabBer5_q22, putG, putRG]; rfl) (by first | with_reducible rfl | omega | (simp; done) | (simp; omega) | rfl) ?_
    refine osS (by simp (disch := omega) only [zG, zC, stepOp, aval, opv, Ab.get, Ab.put, putO, Nat.reduceEqDiff, ↓reduceIte, D.val, D.cond, reduceCtorEq, Bool.cond_true_left, Bool.cond_false_right, cond_true, cond_false, headG, headRG, headD, readG, readRG, readD, allG, allRG, sameG, un_tlv, awake01G]; rfl) (by first | with_reducible rfl | omega | (simp; done) | (simp; omega) | rfl) ?_
    refine osS (by simp only [zC, stepOp, aval, opv, Ab.get, Ab.put, putO, Nat.reduceEqDiff, ↓reduceIte, D.val, D.cond, reduceCtorEq]; rfl) rfl ?_
    refine osS (by simp (disch := omega) only [zG, zC, stepOp, aval, opv, Ab.get, Ab.put, putO, Nat.reduceEqDiff, ↓reduceIte, D.val, D.cond, reduceCtorEq, headG, headRG, headD, readG, readRG, readD, allG, allRG, sameG, un_tlv, awake01G]; rfl) rfl ?_
    refine osS (by simp (disch := omega) only [zG, zC, stepOp, aval, opv, Ab.get, Ab.put, putO, Nat.reduceEqDiff, ↓reduceIte, D.val, D.cond, reduceCtorEq, headG, headRG, headD, readG, readRG, readD, allG, allRG, sameG, un_tlv, awake01G]; rfl) rfl ?_
    refine osS (by simp (disch := omega) only [zG, zN, zC, stepOp, aval, opv, Ab.get, Ab.put, putO, Nat.reduceEqDiff, ↓reduceIte, D.val, D.cond, reduceCtorEq, binD, bitsD, Nat.reduceAdd, Nat.reduceSub, Nat.reduceMul, Nat.reduceLeDiff, Int.reduceToNat, Int.reduceLE, Int.reduceLT, Int.reduceAdd, Int.reduceSub, Int.reduceMul, Int.reduceNeg, Int.reduceEq, bne_self_eq_false, headG, headRG, headD, readG, readRG, readD, allG, allRG, sameG, un_tlv, awake01G]; rfl) (by first | with_reducible rfl | omega | (simp; done) | (simp; omega) | rfl) ?_
    refine osS (by simp (disch := omega) only [zG, zC, stepOp, aval, opv, Ab.get, Ab.put, putO, Nat.reduceEqDiff, ↓reduceIte, D.val, D.cond, reduceCtorEq, Bool.cond_true_left, Bool.cond_false_right, cond_true, cond_false, headG, headRG, headD, readG, readRG, readD, allG, allRG, sameG, un_tlv, awake01G]; rfl) (by first | with_reducible rfl | omega | (simp; done) | (simp; omega) | rfl) ?_
    refine osS (by simp only [zC, stepOp, aval, opv, Ab.get, Ab.put, putO, Nat.reduceEqDiff, ↓reduceIte, D.val, D.cond, reduceCtorEq]; rfl) rfl ?_
    refine osS (by simp (disch := omega) only [zS, viaNN, viaNNT, D.nn, addQ, addT, IE.isCall, Nat.reduceAdd, Nat.reduceSub, Nat.reduceMul, Nat.reduceLeDiff, Nat.reduceLT, Nat.reduceBEq, Int.reduceToNat, Int.reduceLE, Int.reduceLT, Int.reduceAdd, Int.reduceSub, Int.reduceMul, Int.reduceNeg, Int.reduceEq, Nat.reduceEqDiff, runOpsA, runDA, stepOp, aval, aact, opv, Ab.get, Ab.put, putO, keep, memN, D.val, D.cond, D.cells?, D.scalar, X.scalar, D.plain, D.isX, binD, bitsD, eqD, eqFs, eqX, unD, intOf?, lenD, okRef, rowsOf, viewD, viewX, freezeD, freezeL, partsD, buildD, slcStrD, slcSlD, Ob.slice?, ↓reduceIte, reduceCtorEq, evQ, evK, evC, evA, avalR, prefB, eqR, nzD, actT, callT1, callR1, callK1, valsL, condsL, optV, noTabs, IE.frame, memB, zeroO, IntWalk.i64_in, headG, headRG, headD, readG, readRG, readD, allG, allRG, sameG, un_tlv, awake01G, tabBer5_r, tabBer5_k, tabBer5_q13, tabBer5_q14, tabBer5_q15, tabBer5_q16, tabBer5_q17, tabBer5_q18, tabBer5_q19, tabBer5_q20, tabBer5_q21, tabBer5_q22, putG, putRG]; rfl) (by first | with_reducible rfl | omega | (simp; done) | (simp; omega) | rfl) ?_
    refine osS (by simp (disch := omega) only [zG, zC, stepOp, aval, opv, Ab.get, Ab.put, putO, Nat.reduceEqDiff, ↓reduceIte, D.val, D.cond, reduceCtorEq, Bool.cond_true_left, Bool.cond_false_right, cond_true, cond_false, headG, headRG, headD, readG, readRG, readD, allG, allRG, sameG, un_tlv, awake01G]; rfl) (by first | with_reducible rfl | omega | (simp; done) | (simp; omega) | rfl) ?_
    refine osS (by simp only [zC, stepOp, aval, opv, Ab.get, Ab.put, putO, Nat.reduceEqDiff, ↓reduceIte, D.val, D.cond, reduceCtorEq]; rfl) rfl ?_
    refine osN ?_
    simp only [keep, memN, Nat.reduceEqDiff, if_true, if_false, ↓reduceIte, Option.getD_none, Option.getD_some, List.append_nil, List.cons_append, List.nil_append, Bool.false_eq_true]
    refine hK _ _ ?_
    clear hK K
    refine thenQ_normal ?_
    refine WI.ret ?_
    refine ⟨.inr rfl, ?_⟩
    -- leaf 1
    simp (disch := omega) only [zF, retD, resD, finD, plainD, freezeD, freezeL, aval, opv, Ab.get, Nat.reduceEqDiff, ↓reduceIte, D.val, D.cond, Nat.reduceAdd, Nat.reduceLeDiff, Ob.slice?, headG, headRG, headD, readG, readRG, readD, allG, allRG, sameG, un_tlv, awake01G]
    refine ⟨_, _, rfl, ?_⟩
    simp only [mkR]
    all_goals first | exact ⟨rfl, rfl⟩ | exact ⟨trivial, trivial⟩ | rfl | trivial
theorem put_code (t : Int) (s : List UInt8) (h : s.length ≤ 65536) : (putB t s).2 = if tagB t = true then 0 else 6 := by
  unfold putB
  by_cases ht : tagB t = true
  · rw [if_pos ht, if_pos h, if_pos ht]
  · rw [if_neg ht, if_neg ht]
theorem put_le (t : Int) (s : List UInt8) (h : s.length ≤ 3000) : (putB t s).1.length ≤ s.length + 4 := by
  have h1 := lenB_hi s.length h
  unfold putB
  split
  · rw [if_pos (by omega)]; simp; omega
  · simp
theorem berBack_c (t : Int) (s more : List UInt8) (ht : 0 ≤ t ∧ t ≤ 255) : PCalls Try.prog 5 [.x (.int .u8 t), .x (.str s), .x (.str more)] (.x (.bool true)) := by
  have h4 := read_put t s more
  have h5 := put_read more
  have h6 := readB_ok more
  refine FCalls.pure (fcallsG (fz := true) G_ok (p := i5) rfl _ (Nat.le_of_ble_eq_true rfl) _ (fun C0 E0 => ?_)) rfl
  dsimp only [i5, argsφ]
  refine WI.seq ?_
  refine WI.regA tabBer5_ok [0, 1, 2] (fun K hK => ?_)
  refine osS (by simp only [zC, stepOp, aval, opv, Ab.get, Ab.put, putO, Nat.reduceEqDiff, ↓reduceIte, D.val, D.cond, reduceCtorEq]; rfl) rfl ?_
  refine osN ?_
  simp only [keep, memN, Nat.reduceEqDiff, if_true, if_false, ↓reduceIte, Option.getD_none, Option.getD_some, List.append_nil, List.cons_append, List.nil_append, Bool.false_eq_true]
  refine hK _ _ ?_
  clear hK K
  refine thenQ_normal ?_
  refine WI.seq ?_
  refine WI.seq ?_
  refine WI.regA tabBer5_ok [0, 1, 2, 24] (fun K hK => ?_)
  refine osS (by simp only [zC, stepOp, aval, opv, Ab.get, Ab.put, putO, Nat.reduceEqDiff, ↓reduceIte, D.val, D.cond, reduceCtorEq]; rfl) rfl ?_
  refine osS (by simp (disch := omega) only [zL, zR, zC, stepOp, aval, opv, Ab.get, Ab.put, putO, Nat.reduceEqDiff, ↓reduceIte, D.val, D.cond, reduceCtorEq, lenD, okRef, Nat.reduceAdd, Nat.reduceLeDiff, Ob.slice?, putG, readG, readD, awake01G]; rfl) (by first | with_reducible rfl | omega | (clear hK K; by_cases hp : (putB t s).2 = 0 <;> simp [hp, h4]; done) | (simp only [List.length_append]; simp; omega) | (clear hK K; by_cases hq : (readB more).2.2 = 0 <;> simp [hq, h5, h6]; done) | (simp; done) | (simp; omega) | rfl) ?_
  refine osS (by simp (disch := omega) only [zG, zN, zC, stepOp, aval, opv, Ab.get, Ab.put, putO, Nat.reduceEqDiff, ↓reduceIte, D.val, D.cond, reduceCtorEq, binD, bitsD, Nat.reduceAdd, Nat.reduceSub, Nat.reduceMul, Nat.reduceLeDiff, Int.reduceToNat, Int.reduceLE, Int.reduceLT, Int.reduceAdd, Int.reduceSub, Int.reduceMul, Int.reduceNeg, Int.reduceEq, bne_self_eq_false, putG, readG, readD, awake01G]; rfl) (by first | with_reducible rfl | omega | (clear hK K; by_cases hp : (putB t s).2 = 0 <;> simp [hp, h4]; done) | (simp only [List.length_append]; simp; omega) | (clear hK K; by_cases hq : (readB more).2.2 = 0 <;> simp [hq, h5, h6]; done) | (simp; done) | (simp; omega) | rfl) ?_
  refine osS (by simp only [zC, stepOp, aval, opv, Ab.get, Ab.put, putO, Nat.reduceEqDiff, ↓reduceIte, D.val, D.cond, reduceCtorEq]; rfl) rfl ?_
  refine osS (by simp (disch := omega) only [zG, zC, stepOp, aval, opv, Ab.get, Ab.put, putO, Nat.reduceEqDiff, ↓reduceIte, D.val, D.cond, reduceCtorEq, putG, readG, readD, awake01G]; rfl) rfl ?_
  refine osS (by simp (disch := omega) only [zL, zG, zR, zC, stepOp, aval, opv, Ab.get, Ab.put, putO, Nat.reduceEqDiff, ↓reduceIte, D.val, D.cond, reduceCtorEq, lenD, okRef, Nat.reduceAdd, Nat.reduceLeDiff, Ob.slice?, putG, readG, readD, awake01G]; rfl) (by first | with_reducible rfl | omega | (clear hK K; by_cases hp : (putB t s).2 = 0 <;> simp [hp, h4]; done) | (simp only [List.length_append]; simp; omega) | (clear hK K; by_cases hq : (readB more).2.2 = 0 <;> simp [hq, h5, h6]; done) | (simp; done) | (simp; omega) | rfl) ?_
  refine osS (by simp (disch := omega) only [zG, zN, zC, stepOp, aval, opv, Ab.get, Ab.put, putO, Nat.reduceEqDiff, ↓reduceIte, D.val, D.cond, reduceCtorEq, binD, bitsD, Nat.reduceAdd, Nat.reduceSub, Nat.reduceMul, Nat.reduceLeDiff, Int.reduceToNat, Int.reduceLE, Int.reduceLT, Int.reduceAdd, Int.reduceSub, Int.reduceMul, Int.reduceNeg, Int.reduceEq, bne_self_eq_false, putG, readG, readD, awake01G]; rfl) (by first | with_reducible rfl | omega | (clear hK K; by_cases hp : (putB t s).2 = 0 <;> simp [hp, h4]; done) | (simp only [List.length_append]; simp; omega) | (clear hK K; by_cases hq : (readB more).2.2 = 0 <;> simp [hq, h5, h6]; done) | (simp; done) | (simp; omega) | rfl) ?_
  refine osS (by simp (disch := omega) only [zG, zC, stepOp, aval, opv, Ab.get, Ab.put, putO, Nat.reduceEqDiff, ↓reduceIte, D.val, D.cond, reduceCtorEq, Bool.cond_true_left, Bool.cond_false_right, cond_true, cond_false, putG, readG, readD, awake01G]; rfl) (by first | with_reducible rfl | omega | (clear hK K; by_cases hp : (putB t s).2 = 0 <;> simp [hp, h4]; done) | (simp only [List.length_append]; simp; omega) | (clear hK K; by_cases hq : (readB more).2.2 = 0 <;> simp [hq, h5, h6]; done) | (simp; done) | (simp; omega) | rfl) ?_
  refine osN ?_
  simp only [keep, memN, Nat.reduceEqDiff, if_true, if_false, ↓reduceIte, Option.getD_none, Option.getD_some, List.append_nil, List.cons_append, List.nil_append, Bool.false_eq_true]
  refine hK _ _ ?_
  clear hK K
  refine thenQ_normal ?_
  refine WI.cond (b := _) rfl rfl (fun h0 => ?_) (fun h0 => ?_)
  · try simp only [zB] at h0
    refine WI.seq ?_
    refine WI.regA tabBer5_ok [6] (fun K hK => ?_)
    refine osS (by simp (disch := omega) only [zS, viaNN, viaNNT, D.nn, addQ, addT, IE.isCall, Nat.reduceAdd, Nat.reduceSub, Nat.reduceMul, Nat.reduceLeDiff, Nat.reduceLT, Nat.reduceBEq, Int.reduceToNat, Int.reduceLE, Int.reduceLT, Int.reduceAdd, Int.reduceSub, Int.reduceMul, Int.reduceNeg, Int.reduceEq, Nat.reduceEqDiff, runOpsA, runDA, stepOp, aval, aact, opv, Ab.get, Ab.put, putO, keep, memN, D.val, D.cond, D.cells?, D.scalar, X.scalar, D.plain, D.isX, binD, bitsD, eqD, eqFs, eqX, unD, intOf?, lenD, okRef, rowsOf, viewD, viewX, freezeD, freezeL, partsD, buildD, slcStrD, slcSlD, Ob.slice?, ↓reduceIte, reduceCtorEq, evQ, evK, evC, evA, avalR, prefB, eqR, nzD, actT, callT1, callR1, callK1, valsL, condsL, optV, noTabs, IE.frame, memB, zeroO, IntWalk.i64_in, putG, readG, readD, awake01G, tabBer5_r, tabBer5_k, tabBer5_q13, tabBer5_q14, tabBer5_q15, tabBer5_q16, tabBer5_q17, tabBer5_q18, tabBer5_q19, tabBer5_q20, tabBer5_q21, tabBer5_q22, allG, allRG, headG, headRG, putRG, readRG, sameG]; rfl) (by first | with_reducible rfl | omega | (clear hK K; by_cases hp : (putB t s).2 = 0 <;> simp [hp, h4]; done) | (simp only [List.length_append]; simp; omega) | (clear hK K; by_cases hq : (readB more).2.2 = 0 <;> simp [hq, h5, h6]; done) | (simp; done) | (simp; omega) | rfl) ?_
    refine osS (by simp only [zC, stepOp, aval, opv, Ab.get, Ab.put, putO, Nat.reduceEqDiff, ↓reduceIte, D.val, D.cond, reduceCtorEq]; rfl) rfl ?_
    refine osN ?_
    simp only [keep, memN, Nat.reduceEqDiff, if_true, if_false, ↓reduceIte, Option.getD_none, Option.getD_some, List.append_nil, List.cons_append, List.nil_append, Bool.false_eq_true]
    refine hK _ _ ?_
    clear hK K
    refine thenQ_normal ?_
    refine WI.ret ?_
    refine thenQ_ret ?_
    refine ⟨.inr rfl, ?_⟩
    -- leaf 0
    simp (disch := omega) only [zF, retD, resD, finD, plainD, freezeD, freezeL, aval, opv, Ab.get, Nat.reduceEqDiff, ↓reduceIte, D.val, D.cond, Nat.reduceAdd, Nat.reduceLeDiff, Ob.slice?, putG, readG, readD, awake01G]
    refine ⟨_, _, rfl, ?_⟩
    simp only [mkR]
    all_goals first | exact ⟨rfl, rfl⟩ | exact ⟨trivial, trivial⟩ | rfl | trivial
  · try simp only [zB] at h0
    refine WI.skip ?_
    refine thenQ_normal ?_
    refine WI.seq ?_
    refine WI.regA tabBer5_ok [0, 1, 2, 7, 8] (fun K hK => ?_)
    refine osS (by simp only [zC, stepOp, aval, opv, Ab.get, Ab.put, putO, Nat.reduceEqDiff, ↓reduceIte, D.val, D.cond, reduceCtorEq]; rfl) rfl ?_
    refine osS (by simp (disch := omega) only [zM, stepOp, aval, opv, Ab.get, Ab.put, putO, Nat.reduceEqDiff, ↓reduceIte, D.val, D.cond, reduceCtorEq, aact, actT, IE.isCall, D.cells?, Nat.reduceAdd, Nat.reduceLeDiff, Ob.slice?, Nat.reduceSub, Nat.reduceMul, Int.reduceToNat, Int.reduceLE, Int.reduceLT, Int.reduceAdd, Int.reduceSub, Int.reduceMul, Int.reduceNeg, Int.reduceEq, rowsOf, srcOf, okRef, intOf?, partsD, freezeL, freezeD, buildD, slcStrD, slcSlD, optV, zeroO, eqR, eqD, eqFs, eqX, nzD, binD, unD, lenD, evK, evC, Nat.reduceLT, putG, readG, readD, awake01G]; rfl) (by first | with_reducible rfl | omega | (clear hK K; by_cases hp : (putB t s).2 = 0 <;> simp [hp, h4]; done) | (simp only [List.length_append]; simp; omega) | (clear hK K; by_cases hq : (readB more).2.2 = 0 <;> simp [hq, h5, h6]; done) | (simp; done) | (simp; omega) | rfl) ?_
    refine osS (by simp only [zC, stepOp, aval, opv, Ab.get, Ab.put, putO, Nat.reduceEqDiff, ↓reduceIte, D.val, D.cond, reduceCtorEq]; rfl) rfl ?_
    refine osS (by simp (disch := omega) only [zS, viaNN, viaNNT, D.nn, addQ, addT, IE.isCall, Nat.reduceAdd, Nat.reduceSub, Nat.reduceMul, Nat.reduceLeDiff, Nat.reduceLT, Nat.reduceBEq, Int.reduceToNat, Int.reduceLE, Int.reduceLT, Int.reduceAdd, Int.reduceSub, Int.reduceMul, Int.reduceNeg, Int.reduceEq, Nat.reduceEqDiff, runOpsA, runDA, stepOp, aval, aact, opv, Ab.get, Ab.put, putO, keep, memN, D.val, D.cond, D.cells?, D.scalar, X.scalar, D.plain, D.isX, binD, bitsD, eqD, eqFs, eqX, unD, intOf?, lenD, okRef, rowsOf, viewD, viewX, freezeD, freezeL, partsD, buildD, slcStrD, slcSlD, Ob.slice?, ↓reduceIte, reduceCtorEq, evQ, evK, evC, evA, avalR, prefB, eqR, nzD, actT, callT1, callR1, callK1, valsL, condsL, optV, noTabs, IE.frame, memB, zeroO, IntWalk.i64_in, putG, readG, readD, awake01G, tabBer5_r, tabBer5_k, tabBer5_q13, tabBer5_q14, tabBer5_q15, tabBer5_q16, tabBer5_q17, tabBer5_q18, tabBer5_q19, tabBer5_q20, tabBer5_q21, tabBer5_q22, allG, allRG, headG, headRG, putRG, readRG, sameG]; rfl) (by first | with_reducible rfl | omega | (clear hK K; by_cases hp : (putB t s).2 = 0 <;> simp [hp, h4]; done) | (simp only [List.length_append]; simp; omega) | (clear hK K; by_cases hq : (readB more).2.2 = 0 <;> simp [hq, h5, h6]; done) | (simp; done) | (simp; omega) | rfl) ?_
    refine osS (by simp only [zC, stepOp, aval, opv, Ab.get, Ab.put, putO, Nat.reduceEqDiff, ↓reduceIte, D.val, D.cond, reduceCtorEq]; rfl) rfl ?_
    refine osS (by simp (disch := omega) only [zL, zC, stepOp, aval, opv, Ab.get, Ab.put, putO, Nat.reduceEqDiff, ↓reduceIte, D.val, D.cond, reduceCtorEq, Nat.reduceAdd, Nat.reduceLeDiff, putG, readG, readD, awake01G]; rfl) rfl ?_
    refine osS (by simp (disch := omega) only [zL, zC, stepOp, aval, opv, Ab.get, Ab.put, putO, Nat.reduceEqDiff, ↓reduceIte, D.val, D.cond, reduceCtorEq, Nat.reduceAdd, Nat.reduceLeDiff, putG, readG, readD, awake01G]; rfl) rfl ?_
    refine osS (by simp only [zC, stepOp, aval, opv, Ab.get, Ab.put, putO, Nat.reduceEqDiff, ↓reduceIte, D.val, D.cond, reduceCtorEq]; rfl) rfl ?_
    refine osS (by simp only [zC, stepOp, aval, opv, Ab.get, Ab.put, putO, Nat.reduceEqDiff, ↓reduceIte, D.val, D.cond, reduceCtorEq]; rfl) rfl ?_
    refine osN ?_
    simp only [keep, memN, Nat.reduceEqDiff, if_true, if_false, ↓reduceIte, Option.getD_none, Option.getD_some, List.append_nil, List.cons_append, List.nil_append, Bool.false_eq_true]
    refine hK _ _ ?_
    clear hK K
    refine thenQ_normal ?_
    refine WI.seq ?_
    have h7 := put_le t s (by omega)
    refine WI.regA tabBer5_ok [0, 1, 2, 7, 8, 9, 10, 11] (fun K hK => ?_)
    refine osS (by simp only [zC, stepOp, aval, opv, Ab.get, Ab.put, putO, Nat.reduceEqDiff, ↓reduceIte, D.val, D.cond, reduceCtorEq]; rfl) rfl ?_
    refine osS (by simp only [zC, stepOp, aval, opv, Ab.get, Ab.put, putO, Nat.reduceEqDiff, ↓reduceIte, D.val, D.cond, reduceCtorEq]; rfl) rfl ?_
    refine osS (by simp (disch := omega) only [zG, zN, zC, stepOp, aval, opv, Ab.get, Ab.put, putO, Nat.reduceEqDiff, ↓reduceIte, D.val, D.cond, reduceCtorEq, binD, bitsD, Nat.reduceAdd, Nat.reduceSub, Nat.reduceMul, Nat.reduceLeDiff, Int.reduceToNat, Int.reduceLE, Int.reduceLT, Int.reduceAdd, Int.reduceSub, Int.reduceMul, Int.reduceNeg, Int.reduceEq, bne_self_eq_false, putG, readG, readD, awake01G]; rfl) (by first | with_reducible rfl | omega | (clear hK K; by_cases hp : (putB t s).2 = 0 <;> simp [hp, h4]; done) | (simp only [List.length_append]; simp; omega) | (clear hK K; by_cases hq : (readB more).2.2 = 0 <;> simp [hq, h5, h6]; done) | (simp; done) | (simp; omega) | rfl) ?_
    refine osS (by simp (disch := omega) only [zS, viaNN, viaNNT, D.nn, addQ, addT, IE.isCall, Nat.reduceAdd, Nat.reduceSub, Nat.reduceMul, Nat.reduceLeDiff, Nat.reduceLT, Nat.reduceBEq, Int.reduceToNat, Int.reduceLE, Int.reduceLT, Int.reduceAdd, Int.reduceSub, Int.reduceMul, Int.reduceNeg, Int.reduceEq, Nat.reduceEqDiff, runOpsA, runDA, stepOp, aval, aact, opv, Ab.get, Ab.put, putO, keep, memN, D.val, D.cond, D.cells?, D.scalar, X.scalar, D.plain, D.isX, binD, bitsD, eqD, eqFs, eqX, unD, intOf?, lenD, okRef, rowsOf, viewD, viewX, freezeD, freezeL, partsD, buildD, slcStrD, slcSlD, Ob.slice?, ↓reduceIte, reduceCtorEq, evQ, evK, evC, evA, avalR, prefB, eqR, nzD, actT, callT1, callR1, callK1, valsL, condsL, optV, noTabs, IE.frame, memB, zeroO, IntWalk.i64_in, putG, readG, readD, awake01G, tabBer5_r, tabBer5_k, tabBer5_q13, tabBer5_q14, tabBer5_q15, tabBer5_q16, tabBer5_q17, tabBer5_q18, tabBer5_q19, tabBer5_q20, tabBer5_q21, tabBer5_q22, allG, allRG, headG, headRG, putRG, readRG, sameG]; rfl) (by first | with_reducible rfl | omega | (clear hK K; by_cases hp : (putB t s).2 = 0 <;> simp [hp, h4]; done) | (simp only [List.length_append]; simp; omega) | (clear hK K; by_cases hq : (readB more).2.2 = 0 <;> simp [hq, h5, h6]; done) | (simp; done) | (simp; omega) | rfl) ?_
    refine osS (by simp only [zC, stepOp, aval, opv, Ab.get, Ab.put, putO, Nat.reduceEqDiff, ↓reduceIte, D.val, D.cond, reduceCtorEq]; rfl) rfl ?_
    refine osS (by simp (disch := omega) only [zL, zC, stepOp, aval, opv, Ab.get, Ab.put, putO, Nat.reduceEqDiff, ↓reduceIte, D.val, D.cond, reduceCtorEq, Nat.reduceAdd, Nat.reduceLeDiff, putG, readG, readD, awake01G]; rfl) rfl ?_
    refine osS (by simp (disch := omega) only [zL, zC, stepOp, aval, opv, Ab.get, Ab.put, putO, Nat.reduceEqDiff, ↓reduceIte, D.val, D.cond, reduceCtorEq, Nat.reduceAdd, Nat.reduceLeDiff, putG, readG, readD, awake01G]; rfl) rfl ?_
    refine osS (by simp (disch := omega) only [zL, zC, stepOp, aval, opv, Ab.get, Ab.put, putO, Nat.reduceEqDiff, ↓reduceIte, D.val, D.cond, reduceCtorEq, Nat.reduceAdd, Nat.reduceLeDiff, putG, readG, readD, awake01G]; rfl) rfl ?_
    refine osS (by simp (disch := omega) only [zL, zC, stepOp, aval, opv, Ab.get, Ab.put, putO, Nat.reduceEqDiff, ↓reduceIte, D.val, D.cond, reduceCtorEq, aact, actT, IE.isCall, D.cells?, Nat.reduceAdd, Nat.reduceLeDiff, putG, readG, readD, awake01G]; rfl) rfl ?_
    refine osS (by simp (disch := omega) only [zL, zR, zC, stepOp, aval, opv, Ab.get, Ab.put, putO, Nat.reduceEqDiff, ↓reduceIte, D.val, D.cond, reduceCtorEq, aact, actT, IE.isCall, D.cells?, freezeL, freezeD, Option.map_none, Nat.reduceAdd, Nat.reduceLeDiff, Ob.slice?, putG, readG, readD, awake01G]; rfl) (by first | with_reducible rfl | omega | (clear hK K; by_cases hp : (putB t s).2 = 0 <;> simp [hp, h4]; done) | (simp only [List.length_append]; simp; omega) | (clear hK K; by_cases hq : (readB more).2.2 = 0 <;> simp [hq, h5, h6]; done) | (simp; done) | (simp; omega) | rfl) ?_
    refine osS (by simp only [zC, stepOp, aval, opv, Ab.get, Ab.put, putO, Nat.reduceEqDiff, ↓reduceIte, D.val, D.cond, reduceCtorEq]; rfl) rfl ?_
    refine osS (by simp only [zC, stepOp, aval, opv, Ab.get, Ab.put, putO, Nat.reduceEqDiff, ↓reduceIte, D.val, D.cond, reduceCtorEq]; rfl) rfl ?_
    refine osN ?_
    simp only [keep, memN, Nat.reduceEqDiff, if_true, if_false, ↓reduceIte, Option.getD_none, Option.getD_some, List.append_nil, List.cons_append, List.nil_append, Bool.false_eq_true]
    refine hK _ _ ?_
    clear hK K
    refine thenQ_normal ?_
    refine WI.seq ?_
    have h7 := put_le t s (by omega)
    refine WI.regA tabBer5_ok [0, 1, 2, 7, 8, 9, 10, 11, 12, 13, 14] (fun K hK => ?_)
    refine osS (by simp only [zC, stepOp, aval, opv, Ab.get, Ab.put, putO, Nat.reduceEqDiff, ↓reduceIte, D.val, D.cond, reduceCtorEq]; rfl) rfl ?_
    refine osS (by simp (disch := omega) only [zS, viaNN, viaNNT, D.nn, addQ, addT, IE.isCall, Nat.reduceAdd, Nat.reduceSub, Nat.reduceMul, Nat.reduceLeDiff, Nat.reduceLT, Nat.reduceBEq, Int.reduceToNat, Int.reduceLE, Int.reduceLT, Int.reduceAdd, Int.reduceSub, Int.reduceMul, Int.reduceNeg, Int.reduceEq, Nat.reduceEqDiff, runOpsA, runDA, stepOp, aval, aact, opv, Ab.get, Ab.put, putO, keep, memN, D.val, D.cond, D.cells?, D.scalar, X.scalar, D.plain, D.isX, binD, bitsD, eqD, eqFs, eqX, unD, intOf?, lenD, okRef, rowsOf, viewD, viewX, freezeD, freezeL, partsD, buildD, slcStrD, slcSlD, Ob.slice?, ↓reduceIte, reduceCtorEq, evQ, evK, evC, evA, avalR, prefB, eqR, nzD, actT, callT1, callR1, callK1, valsL, condsL, optV, noTabs, IE.frame, memB, zeroO, IntWalk.i64_in, putG, readG, readD, awake01G, tabBer5_r, tabBer5_k, tabBer5_q13, tabBer5_q14, tabBer5_q15, tabBer5_q16, tabBer5_q17, tabBer5_q18, tabBer5_q19, tabBer5_q20, tabBer5_q21, tabBer5_q22, allG, allRG, headG, headRG, putRG, readRG, sameG]; rfl) (by first | with_reducible rfl | omega | (clear hK K; by_cases hp : (putB t s).2 = 0 <;> simp [hp, h4]; done) | (simp only [List.length_append]; simp; omega) | (clear hK K; by_cases hq : (readB more).2.2 = 0 <;> simp [hq, h5, h6]; done) | (simp; done) | (simp; omega) | rfl) ?_
    refine osS (by simp only [zC, stepOp, aval, opv, Ab.get, Ab.put, putO, Nat.reduceEqDiff, ↓reduceIte, D.val, D.cond, reduceCtorEq]; rfl) rfl ?_
    refine osS (by simp (disch := omega) only [zL, zC, stepOp, aval, opv, Ab.get, Ab.put, putO, Nat.reduceEqDiff, ↓reduceIte, D.val, D.cond, reduceCtorEq, Nat.reduceAdd, Nat.reduceLeDiff, putG, readG, readD, awake01G]; rfl) rfl ?_
    refine osS (by simp (disch := omega) only [zL, zC, stepOp, aval, opv, Ab.get, Ab.put, putO, Nat.reduceEqDiff, ↓reduceIte, D.val, D.cond, reduceCtorEq, Nat.reduceAdd, Nat.reduceLeDiff, putG, readG, readD, awake01G]; rfl) rfl ?_
    refine osS (by simp (disch := omega) only [zL, zC, stepOp, aval, opv, Ab.get, Ab.put, putO, Nat.reduceEqDiff, ↓reduceIte, D.val, D.cond, reduceCtorEq, Nat.reduceAdd, Nat.reduceLeDiff, putG, readG, readD, awake01G]; rfl) rfl ?_
    refine osS (by simp (disch := omega) only [zL, zC, stepOp, aval, opv, Ab.get, Ab.put, putO, Nat.reduceEqDiff, ↓reduceIte, D.val, D.cond, reduceCtorEq, aact, actT, IE.isCall, D.cells?, Nat.reduceAdd, Nat.reduceLeDiff, putG, readG, readD, awake01G]; rfl) rfl ?_
    refine osS (by simp (disch := omega) only [zL, zR, zC, stepOp, aval, opv, Ab.get, Ab.put, putO, Nat.reduceEqDiff, ↓reduceIte, D.val, D.cond, reduceCtorEq, aact, actT, IE.isCall, D.cells?, freezeL, freezeD, Option.map_none, Nat.reduceAdd, Nat.reduceLeDiff, Ob.slice?, putG, readG, readD, awake01G]; rfl) (by first | with_reducible rfl | omega | (clear hK K; by_cases hp : (putB t s).2 = 0 <;> simp [hp, h4]; done) | (simp only [List.length_append]; simp; omega) | (clear hK K; by_cases hq : (readB more).2.2 = 0 <;> simp [hq, h5, h6]; done) | (simp; done) | (simp; omega) | rfl) ?_
    refine osS (by simp only [zC, stepOp, aval, opv, Ab.get, Ab.put, putO, Nat.reduceEqDiff, ↓reduceIte, D.val, D.cond, reduceCtorEq]; rfl) rfl ?_
    refine osS (by simp only [zC, stepOp, aval, opv, Ab.get, Ab.put, putO, Nat.reduceEqDiff, ↓reduceIte, D.val, D.cond, reduceCtorEq]; rfl) rfl ?_
    refine osN ?_
    simp only [keep, memN, Nat.reduceEqDiff, if_true, if_false, ↓reduceIte, Option.getD_none, Option.getD_some, List.append_nil, List.cons_append, List.nil_append, Bool.false_eq_true]
    refine hK _ _ ?_
    clear hK K
    refine thenQ_normal ?_
    refine WI.seq ?_
    refine WI.regA tabBer5_ok [0, 1, 2, 7, 8, 9, 10, 11, 13, 14, 15, 16] (fun K hK => ?_)
    refine osS (by simp only [zC, stepOp, aval, opv, Ab.get, Ab.put, putO, Nat.reduceEqDiff, ↓reduceIte, D.val, D.cond, reduceCtorEq, Nat.reduceAdd, Nat.add_zero, Nat.zero_add]; rfl) rfl ?_
    refine osS (by simp (disch := omega) only [zL, zR, zC, stepOp, aval, opv, Ab.get, Ab.put, putO, Nat.reduceEqDiff, ↓reduceIte, D.val, D.cond, reduceCtorEq, Nat.reduceAdd, Nat.reduceLeDiff, Ob.slice?, putG, readG, readD, awake01G]; rfl) (by first | with_reducible rfl | omega | (clear hK K; by_cases hp : (putB t s).2 = 0 <;> simp [hp, h4]; done) | (simp only [List.length_append]; simp; omega) | (clear hK K; by_cases hq : (readB more).2.2 = 0 <;> simp [hq, h5, h6]; done) | (simp; done) | (simp; omega) | rfl) ?_
    refine osS (by simp only [zC, stepOp, aval, opv, Ab.get, Ab.put, putO, Nat.reduceEqDiff, ↓reduceIte, D.val, D.cond, reduceCtorEq, Nat.reduceAdd, Nat.add_zero, Nat.zero_add]; rfl) rfl ?_
    refine osS (by simp (disch := omega) only [zL, zR, zC, stepOp, aval, opv, Ab.get, Ab.put, putO, Nat.reduceEqDiff, ↓reduceIte, D.val, D.cond, reduceCtorEq, Nat.reduceAdd, Nat.reduceLeDiff, Ob.slice?, putG, readG, readD, awake01G]; rfl) (by first | with_reducible rfl | omega | (clear hK K; by_cases hp : (putB t s).2 = 0 <;> simp [hp, h4]; done) | (simp only [List.length_append]; simp; omega) | (clear hK K; by_cases hq : (readB more).2.2 = 0 <;> simp [hq, h5, h6]; done) | (simp; done) | (simp; omega) | rfl) ?_
    refine osS (by simp (disch := omega) only [zS, viaNN, viaNNT, D.nn, addQ, addT, IE.isCall, Nat.reduceAdd, Nat.reduceSub, Nat.reduceMul, Nat.reduceLeDiff, Nat.reduceLT, Nat.reduceBEq, Int.reduceToNat, Int.reduceLE, Int.reduceLT, Int.reduceAdd, Int.reduceSub, Int.reduceMul, Int.reduceNeg, Int.reduceEq, Nat.reduceEqDiff, runOpsA, runDA, stepOp, aval, aact, opv, Ab.get, Ab.put, putO, keep, memN, D.val, D.cond, D.cells?, D.scalar, X.scalar, D.plain, D.isX, binD, bitsD, eqD, eqFs, eqX, unD, intOf?, lenD, okRef, rowsOf, viewD, viewX, freezeD, freezeL, partsD, buildD, slcStrD, slcSlD, Ob.slice?, ↓reduceIte, reduceCtorEq, evQ, evK, evC, evA, avalR, prefB, eqR, nzD, actT, callT1, callR1, callK1, valsL, condsL, optV, noTabs, IE.frame, memB, zeroO, IntWalk.i64_in, putG, readG, readD, awake01G, tabBer5_r, tabBer5_k, tabBer5_q13, tabBer5_q14, tabBer5_q15, tabBer5_q16, tabBer5_q17, tabBer5_q18, tabBer5_q19, tabBer5_q20, tabBer5_q21, tabBer5_q22, allG, allRG, headG, headRG, putRG, readRG, sameG]; rfl) (by first | with_reducible rfl | omega | (clear hK K; by_cases hp : (putB t s).2 = 0 <;> simp [hp, h4]; done) | (simp only [List.length_append]; simp; omega) | (clear hK K; by_cases hq : (readB more).2.2 = 0 <;> simp [hq, h5, h6]; done) | (simp; done) | (simp; omega) | rfl) ?_
    refine osS (by simp only [zC, stepOp, aval, opv, Ab.get, Ab.put, putO, Nat.reduceEqDiff, ↓reduceIte, D.val, D.cond, reduceCtorEq]; rfl) rfl ?_
    refine osS (by simp (disch := omega) only [zL, zC, stepOp, aval, opv, Ab.get, Ab.put, putO, Nat.reduceEqDiff, ↓reduceIte, D.val, D.cond, reduceCtorEq, Nat.reduceAdd, Nat.reduceLeDiff, putG, readG, readD, awake01G]; rfl) rfl ?_
    refine osS (by simp (disch := omega) only [zL, zC, stepOp, aval, opv, Ab.get, Ab.put, putO, Nat.reduceEqDiff, ↓reduceIte, D.val, D.cond, reduceCtorEq, Nat.reduceAdd, Nat.reduceLeDiff, putG, readG, readD, awake01G]; rfl) rfl ?_
    refine osS (by simp only [zC, stepOp, aval, opv, Ab.get, Ab.put, putO, Nat.reduceEqDiff, ↓reduceIte, D.val, D.cond, reduceCtorEq]; rfl) rfl ?_
    refine osS (by simp only [zC, stepOp, aval, opv, Ab.get, Ab.put, putO, Nat.reduceEqDiff, ↓reduceIte, D.val, D.cond, reduceCtorEq]; rfl) rfl ?_
    refine osN ?_
    simp only [keep, memN, Nat.reduceEqDiff, if_true, if_false, ↓reduceIte, Option.getD_none, Option.getD_some, List.append_nil, List.cons_append, List.nil_append, Bool.false_eq_true]
    refine hK _ _ ?_
    clear hK K
    refine thenQ_normal ?_
    refine WI.seq ?_
    refine WI.seq ?_
    refine WI.regA tabBer5_ok [2, 13, 14, 15, 16, 79] (fun K hK => ?_)
    refine osS (by simp only [zC, stepOp, aval, opv, Ab.get, Ab.put, putO, Nat.reduceEqDiff, ↓reduceIte, D.val, D.cond, reduceCtorEq]; rfl) rfl ?_
    refine osS (by simp (disch := omega) only [zG, zN, zC, stepOp, aval, opv, Ab.get, Ab.put, putO, Nat.reduceEqDiff, ↓reduceIte, D.val, D.cond, reduceCtorEq, binD, bitsD, Nat.reduceAdd, Nat.reduceSub, Nat.reduceMul, Nat.reduceLeDiff, Int.reduceToNat, Int.reduceLE, Int.reduceLT, Int.reduceAdd, Int.reduceSub, Int.reduceMul, Int.reduceNeg, Int.reduceEq, bne_self_eq_false, putG, readG, readD, awake01G]; rfl) (by first | with_reducible rfl | omega | (clear hK K; by_cases hp : (putB t s).2 = 0 <;> simp [hp, h4]; done) | (simp only [List.length_append]; simp; omega) | (clear hK K; by_cases hq : (readB more).2.2 = 0 <;> simp [hq, h5, h6]; done) | (simp; done) | (simp; omega) | rfl) ?_
    refine osS (by simp only [zC, stepOp, aval, opv, Ab.get, Ab.put, putO, Nat.reduceEqDiff, ↓reduceIte, D.val, D.cond, reduceCtorEq]; rfl) rfl ?_
    refine osS (by simp (disch := omega) only [zG, zC, stepOp, aval, opv, Ab.get, Ab.put, putO, Nat.reduceEqDiff, ↓reduceIte, D.val, D.cond, reduceCtorEq, putG, readG, readD, awake01G]; rfl) rfl ?_
    refine osS (by simp (disch := omega) only [zG, zN, zC, stepOp, aval, opv, Ab.get, Ab.put, putO, Nat.reduceEqDiff, ↓reduceIte, D.val, D.cond, reduceCtorEq, binD, bitsD, Nat.reduceAdd, Nat.reduceSub, Nat.reduceMul, Nat.reduceLeDiff, Int.reduceToNat, Int.reduceLE, Int.reduceLT, Int.reduceAdd, Int.reduceSub, Int.reduceMul, Int.reduceNeg, Int.reduceEq, bne_self_eq_false, putG, readG, readD, awake01G]; rfl) (by first | with_reducible rfl | omega | (clear hK K; by_cases hp : (putB t s).2 = 0 <;> simp [hp, h4]; done) | (simp only [List.length_append]; simp; omega) | (clear hK K; by_cases hq : (readB more).2.2 = 0 <;> simp [hq, h5, h6]; done) | (simp; done) | (simp; omega) | rfl) ?_
    refine osS (by simp (disch := omega) only [zG, zC, stepOp, aval, opv, Ab.get, Ab.put, putO, Nat.reduceEqDiff, ↓reduceIte, D.val, D.cond, reduceCtorEq, putG, readG, readD, awake01G]; rfl) rfl ?_
    refine osS (by simp (disch := omega) only [zG, zC, stepOp, aval, opv, Ab.get, Ab.put, putO, Nat.reduceEqDiff, ↓reduceIte, D.val, D.cond, reduceCtorEq, Nat.reduceAdd, Nat.add_zero, Nat.zero_add, putG, readG, readD, awake01G]; rfl) rfl ?_
    refine osS (by simp (disch := omega) only [zL, zG, zR, zC, stepOp, aval, opv, Ab.get, Ab.put, putO, Nat.reduceEqDiff, ↓reduceIte, D.val, D.cond, reduceCtorEq, Nat.reduceAdd, Nat.reduceLeDiff, Ob.slice?, putG, readG, readD, awake01G]; rfl) (by first | with_reducible rfl | omega | (clear hK K; by_cases hp : (putB t s).2 = 0 <;> simp [hp, h4]; done) | (simp only [List.length_append]; simp; omega) | (clear hK K; by_cases hq : (readB more).2.2 = 0 <;> simp [hq, h5, h6]; done) | (simp; done) | (simp; omega) | rfl) ?_
    refine osS (by simp (disch := omega) only [zG, zC, stepOp, aval, opv, Ab.get, Ab.put, putO, Nat.reduceEqDiff, ↓reduceIte, D.val, D.cond, reduceCtorEq, putG, readG, readD, awake01G]; rfl) rfl ?_
    refine osS (by simp (disch := omega) only [zM, stepOp, aval, opv, Ab.get, Ab.put, putO, Nat.reduceEqDiff, ↓reduceIte, D.val, D.cond, reduceCtorEq, aact, actT, IE.isCall, D.cells?, Nat.reduceAdd, Nat.reduceLeDiff, Ob.slice?, Nat.reduceSub, Nat.reduceMul, Int.reduceToNat, Int.reduceLE, Int.reduceLT, Int.reduceAdd, Int.reduceSub, Int.reduceMul, Int.reduceNeg, Int.reduceEq, rowsOf, srcOf, okRef, intOf?, partsD, freezeL, freezeD, buildD, slcStrD, slcSlD, optV, zeroO, eqR, eqD, eqFs, eqX, nzD, binD, unD, lenD, evK, evC, Nat.reduceLT, putG, readG, readD, awake01G]; rfl) (by first | with_reducible rfl | omega | (clear hK K; by_cases hp : (putB t s).2 = 0 <;> simp [hp, h4]; done) | (simp only [List.length_append]; simp; omega) | (clear hK K; by_cases hq : (readB more).2.2 = 0 <;> simp [hq, h5, h6]; done) | (simp; done) | (simp; omega) | rfl) ?_
    refine osS (by simp (disch := omega) only [zG, zN, zC, stepOp, aval, opv, Ab.get, Ab.put, putO, Nat.reduceEqDiff, ↓reduceIte, D.val, D.cond, reduceCtorEq, binD, bitsD, Nat.reduceAdd, Nat.reduceSub, Nat.reduceMul, Nat.reduceLeDiff, Int.reduceToNat, Int.reduceLE, Int.reduceLT, Int.reduceAdd, Int.reduceSub, Int.reduceMul, Int.reduceNeg, Int.reduceEq, bne_self_eq_false, putG, readG, readD, awake01G]; rfl) (by first | with_reducible rfl | omega | (clear hK K; by_cases hp : (putB t s).2 = 0 <;> simp [hp, h4]; done) | (simp only [List.length_append]; simp; omega) | (clear hK K; by_cases hq : (readB more).2.2 = 0 <;> simp [hq, h5, h6]; done) | (simp; done) | (simp; omega) | rfl) ?_
    refine osS (by simp (disch := omega) only [zG, zC, stepOp, aval, opv, Ab.get, Ab.put, putO, Nat.reduceEqDiff, ↓reduceIte, D.val, D.cond, reduceCtorEq, Bool.cond_true_left, Bool.cond_false_right, cond_true, cond_false, putG, readG, readD, awake01G]; rfl) (by first | with_reducible rfl | omega | (clear hK K; by_cases hp : (putB t s).2 = 0 <;> simp [hp, h4]; done) | (simp only [List.length_append]; simp; omega) | (clear hK K; by_cases hq : (readB more).2.2 = 0 <;> simp [hq, h5, h6]; done) | (simp; done) | (simp; omega) | rfl) ?_
    refine osS (by simp (disch := omega) only [zG, zC, stepOp, aval, opv, Ab.get, Ab.put, putO, Nat.reduceEqDiff, ↓reduceIte, D.val, D.cond, reduceCtorEq, putG, readG, readD, awake01G]; rfl) rfl ?_
    refine osS (by simp (disch := omega) only [zG, zC, stepOp, aval, opv, Ab.get, Ab.put, putO, Nat.reduceEqDiff, ↓reduceIte, D.val, D.cond, reduceCtorEq, Nat.reduceAdd, Nat.add_zero, Nat.zero_add, putG, readG, readD, awake01G]; rfl) rfl ?_
    refine osS (by simp (disch := omega) only [zL, zG, zR, zC, stepOp, aval, opv, Ab.get, Ab.put, putO, Nat.reduceEqDiff, ↓reduceIte, D.val, D.cond, reduceCtorEq, Nat.reduceAdd, Nat.reduceLeDiff, Ob.slice?, putG, readG, readD, awake01G]; rfl) (by first | with_reducible rfl | omega | (clear hK K; by_cases hp : (putB t s).2 = 0 <;> simp [hp, h4]; done) | (simp only [List.length_append]; simp; omega) | (clear hK K; by_cases hq : (readB more).2.2 = 0 <;> simp [hq, h5, h6]; done) | (simp; done) | (simp; omega) | rfl) ?_
    refine osS (by simp (disch := omega) only [zG, zC, stepOp, aval, opv, Ab.get, Ab.put, putO, Nat.reduceEqDiff, ↓reduceIte, D.val, D.cond, reduceCtorEq, putG, readG, readD, awake01G]; rfl) rfl ?_
    refine osS (by simp (disch := omega) only [zG, zN, zC, stepOp, aval, opv, Ab.get, Ab.put, putO, Nat.reduceEqDiff, ↓reduceIte, D.val, D.cond, reduceCtorEq, binD, bitsD, Nat.reduceAdd, Nat.reduceSub, Nat.reduceMul, Nat.reduceLeDiff, Int.reduceToNat, Int.reduceLE, Int.reduceLT, Int.reduceAdd, Int.reduceSub, Int.reduceMul, Int.reduceNeg, Int.reduceEq, bne_self_eq_false, putG, readG, readD, awake01G]; rfl) (by first | with_reducible rfl | omega | (clear hK K; by_cases hp : (putB t s).2 = 0 <;> simp [hp, h4]; done) | (simp only [List.length_append]; simp; omega) | (clear hK K; by_cases hq : (readB more).2.2 = 0 <;> simp [hq, h5, h6]; done) | (simp; done) | (simp; omega) | rfl) ?_
    refine osS (by simp (disch := omega) only [zG, zC, stepOp, aval, opv, Ab.get, Ab.put, putO, Nat.reduceEqDiff, ↓reduceIte, D.val, D.cond, reduceCtorEq, Bool.cond_true_left, Bool.cond_false_right, cond_true, cond_false, putG, readG, readD, awake01G]; rfl) (by first | with_reducible rfl | omega | (clear hK K; by_cases hp : (putB t s).2 = 0 <;> simp [hp, h4]; done) | (simp only [List.length_append]; simp; omega) | (clear hK K; by_cases hq : (readB more).2.2 = 0 <;> simp [hq, h5, h6]; done) | (simp; done) | (simp; omega) | rfl) ?_
    refine osS (by simp (disch := omega) only [zG, zC, stepOp, aval, opv, Ab.get, Ab.put, putO, Nat.reduceEqDiff, ↓reduceIte, D.val, D.cond, reduceCtorEq, putG, readG, readD, awake01G]; rfl) rfl ?_
    refine osS (by simp (disch := omega) only [zG, zC, stepOp, aval, opv, Ab.get, Ab.put, putO, Nat.reduceEqDiff, ↓reduceIte, D.val, D.cond, reduceCtorEq, putG, readG, readD, awake01G]; rfl) rfl ?_
    refine osS (by simp (disch := omega) only [zG, zC, stepOp, aval, opv, Ab.get, Ab.put, putO, Nat.reduceEqDiff, ↓reduceIte, D.val, D.cond, reduceCtorEq, putG, readG, readD, awake01G]; rfl) rfl ?_
    refine osS (by simp (disch := omega) only [zL, zG, zR, zC, stepOp, aval, opv, Ab.get, Ab.put, putO, Nat.reduceEqDiff, ↓reduceIte, D.val, D.cond, reduceCtorEq, lenD, okRef, Nat.reduceAdd, Nat.reduceLeDiff, Ob.slice?, putG, readG, readD, awake01G]; rfl) (by first | with_reducible rfl | omega | (clear hK K; by_cases hp : (putB t s).2 = 0 <;> simp [hp, h4]; done) | (simp only [List.length_append]; simp; omega) | (clear hK K; by_cases hq : (readB more).2.2 = 0 <;> simp [hq, h5, h6]; done) | (simp; done) | (simp; omega) | rfl) ?_
    refine osS (by simp (disch := omega) only [zG, zN, zC, stepOp, aval, opv, Ab.get, Ab.put, putO, Nat.reduceEqDiff, ↓reduceIte, D.val, D.cond, reduceCtorEq, binD, bitsD, Nat.reduceAdd, Nat.reduceSub, Nat.reduceMul, Nat.reduceLeDiff, Int.reduceToNat, Int.reduceLE, Int.reduceLT, Int.reduceAdd, Int.reduceSub, Int.reduceMul, Int.reduceNeg, Int.reduceEq, bne_self_eq_false, putG, readG, readD, awake01G]; rfl) (by first | with_reducible rfl | omega | (clear hK K; by_cases hp : (putB t s).2 = 0 <;> simp [hp, h4]; done) | (simp only [List.length_append]; simp; omega) | (clear hK K; by_cases hq : (readB more).2.2 = 0 <;> simp [hq, h5, h6]; done) | (simp; done) | (simp; omega) | rfl) ?_
    refine osS (by simp (disch := omega) only [zG, zC, stepOp, aval, opv, Ab.get, Ab.put, putO, Nat.reduceEqDiff, ↓reduceIte, D.val, D.cond, reduceCtorEq, Bool.cond_true_left, Bool.cond_false_right, cond_true, cond_false, putG, readG, readD, awake01G]; rfl) (by first | with_reducible rfl | omega | (clear hK K; by_cases hp : (putB t s).2 = 0 <;> simp [hp, h4]; done) | (simp only [List.length_append]; simp; omega) | (clear hK K; by_cases hq : (readB more).2.2 = 0 <;> simp [hq, h5, h6]; done) | (simp; done) | (simp; omega) | rfl) ?_
    refine osS (by simp (disch := omega) only [zG, zC, stepOp, aval, opv, Ab.get, Ab.put, putO, Nat.reduceEqDiff, ↓reduceIte, D.val, D.cond, reduceCtorEq, Bool.cond_true_left, Bool.cond_false_right, cond_true, cond_false, putG, readG, readD, awake01G]; rfl) (by first | with_reducible rfl | omega | (clear hK K; by_cases hp : (putB t s).2 = 0 <;> simp [hp, h4]; done) | (simp only [List.length_append]; simp; omega) | (clear hK K; by_cases hq : (readB more).2.2 = 0 <;> simp [hq, h5, h6]; done) | (simp; done) | (simp; omega) | rfl) ?_
    refine osN ?_
    simp only [keep, memN, Nat.reduceEqDiff, if_true, if_false, ↓reduceIte, Option.getD_none, Option.getD_some, List.append_nil, List.cons_append, List.nil_append, Bool.false_eq_true]
    refine hK _ _ ?_
    clear hK K
    refine thenQ_normal ?_
    refine WI.cond (b := _) rfl rfl (fun h1 => ?_) (fun h1 => ?_)
    · exfalso
      simp only [Bool.and_eq_true, beq_iff_eq] at h1; rw [h4 h1.1] at h1; simp at h1
    · try simp only [zB] at h1
      refine WI.skip ?_
      refine thenQ_normal ?_
      refine WI.seq ?_
      refine WI.regA tabBer5_ok [6] (fun K hK => ?_)
      refine osS (by simp only [zC, stepOp, aval, opv, Ab.get, Ab.put, putO, Nat.reduceEqDiff, ↓reduceIte, D.val, D.cond, reduceCtorEq]; rfl) rfl ?_
      refine osS (by simp (disch := omega) only [zG, zN, zC, stepOp, aval, opv, Ab.get, Ab.put, putO, Nat.reduceEqDiff, ↓reduceIte, D.val, D.cond, reduceCtorEq, binD, bitsD, Nat.reduceAdd, Nat.reduceSub, Nat.reduceMul, Nat.reduceLeDiff, Int.reduceToNat, Int.reduceLE, Int.reduceLT, Int.reduceAdd, Int.reduceSub, Int.reduceMul, Int.reduceNeg, Int.reduceEq, bne_self_eq_false, putG, readG, readD, awake01G]; rfl) (by first | with_reducible rfl | omega | (clear hK K; by_cases hp : (putB t s).2 = 0 <;> simp [hp, h4]; done) | (simp only [List.length_append]; simp; omega) | (clear hK K; by_cases hq : (readB more).2.2 = 0 <;> simp [hq, h5, h6]; done) | (simp; done) | (simp; omega) | rfl) ?_
      refine osS (by simp only [zC, stepOp, aval, opv, Ab.get, Ab.put, putO, Nat.reduceEqDiff, ↓reduceIte, D.val, D.cond, reduceCtorEq]; rfl) rfl ?_
      refine osS (by simp (disch := omega) only [zG, zC, stepOp, aval, opv, Ab.get, Ab.put, putO, Nat.reduceEqDiff, ↓reduceIte, D.val, D.cond, reduceCtorEq, putG, readG, readD, awake01G]; rfl) rfl ?_
      refine osS (by simp (disch := omega) only [zG, zN, zC, stepOp, aval, opv, Ab.get, Ab.put, putO, Nat.reduceEqDiff, ↓reduceIte, D.val, D.cond, reduceCtorEq, binD, bitsD, Nat.reduceAdd, Nat.reduceSub, Nat.reduceMul, Nat.reduceLeDiff, Int.reduceToNat, Int.reduceLE, Int.reduceLT, Int.reduceAdd, Int.reduceSub, Int.reduceMul, Int.reduceNeg, Int.reduceEq, bne_self_eq_false, putG, readG, readD, awake01G]; rfl) (by first | with_reducible rfl | omega | (clear hK K; by_cases hp : (putB t s).2 = 0 <;> simp [hp, h4]; done) | (simp only [List.length_append]; simp; omega) | (clear hK K; by_cases hq : (readB more).2.2 = 0 <;> simp [hq, h5, h6]; done) | (simp; done) | (simp; omega) | rfl) ?_
      refine osS (by simp (disch := omega) only [zG, zC, stepOp, aval, opv, Ab.get, Ab.put, putO, Nat.reduceEqDiff, ↓reduceIte, D.val, D.cond, reduceCtorEq, putG, readG, readD, awake01G]; rfl) rfl ?_
      refine osS (by simp (disch := omega) only [zG, zC, stepOp, aval, opv, Ab.get, Ab.put, putO, Nat.reduceEqDiff, ↓reduceIte, D.val, D.cond, reduceCtorEq, putG, readG, readD, awake01G]; rfl) rfl ?_
      refine osS (by simp (disch := omega) only [zG, zC, stepOp, aval, opv, Ab.get, Ab.put, putO, Nat.reduceEqDiff, ↓reduceIte, D.val, D.cond, reduceCtorEq, putG, readG, readD, awake01G]; rfl) rfl ?_
      refine osS (by simp (disch := omega) only [zG, zC, stepOp, aval, opv, Ab.get, Ab.put, putO, Nat.reduceEqDiff, ↓reduceIte, D.val, D.cond, reduceCtorEq, putG, readG, readD, awake01G]; rfl) rfl ?_
      refine osS (by simp (disch := omega) only [zM, stepOp, aval, opv, Ab.get, Ab.put, putO, Nat.reduceEqDiff, ↓reduceIte, D.val, D.cond, reduceCtorEq, aact, actT, IE.isCall, D.cells?, Nat.reduceAdd, Nat.reduceLeDiff, Ob.slice?, Nat.reduceSub, Nat.reduceMul, Int.reduceToNat, Int.reduceLE, Int.reduceLT, Int.reduceAdd, Int.reduceSub, Int.reduceMul, Int.reduceNeg, Int.reduceEq, rowsOf, srcOf, okRef, intOf?, partsD, freezeL, freezeD, buildD, slcStrD, slcSlD, optV, zeroO, eqR, eqD, eqFs, eqX, nzD, binD, unD, lenD, evK, evC, Nat.reduceLT, putG, readG, readD, awake01G]; rfl) (by first | with_reducible rfl | omega | (clear hK K; by_cases hp : (putB t s).2 = 0 <;> simp [hp, h4]; done) | (simp only [List.length_append]; simp; omega) | (clear hK K; by_cases hq : (readB more).2.2 = 0 <;> simp [hq, h5, h6]; done) | (simp; done) | (simp; omega) | rfl) ?_
      refine osS (by simp (disch := omega) only [zG, zN, zC, stepOp, aval, opv, Ab.get, Ab.put, putO, Nat.reduceEqDiff, ↓reduceIte, D.val, D.cond, reduceCtorEq, binD, bitsD, Nat.reduceAdd, Nat.reduceSub, Nat.reduceMul, Nat.reduceLeDiff, Int.reduceToNat, Int.reduceLE, Int.reduceLT, Int.reduceAdd, Int.reduceSub, Int.reduceMul, Int.reduceNeg, Int.reduceEq, bne_self_eq_false, putG, readG, readD, awake01G]; rfl) (by first | with_reducible rfl | omega | (clear hK K; by_cases hp : (putB t s).2 = 0 <;> simp [hp, h4]; done) | (simp only [List.length_append]; simp; omega) | (clear hK K; by_cases hq : (readB more).2.2 = 0 <;> simp [hq, h5, h6]; done) | (simp; done) | (simp; omega) | rfl) ?_
      refine osS (by simp (disch := omega) only [zG, zC, stepOp, aval, opv, Ab.get, Ab.put, putO, Nat.reduceEqDiff, ↓reduceIte, D.val, D.cond, reduceCtorEq, Bool.cond_true_left, Bool.cond_false_right, cond_true, cond_false, putG, readG, readD, awake01G]; rfl) (by first | with_reducible rfl | omega | (clear hK K; by_cases hp : (putB t s).2 = 0 <;> simp [hp, h4]; done) | (simp only [List.length_append]; simp; omega) | (clear hK K; by_cases hq : (readB more).2.2 = 0 <;> simp [hq, h5, h6]; done) | (simp; done) | (simp; omega) | rfl) ?_
      refine osS (by simp (disch := omega) only [zG, zC, stepOp, aval, opv, Ab.get, Ab.put, putO, Nat.reduceEqDiff, ↓reduceIte, D.val, D.cond, reduceCtorEq, Bool.cond_true_left, Bool.cond_false_right, cond_true, cond_false, putG, readG, readD, awake01G]; rfl) (by first | with_reducible rfl | omega | (clear hK K; by_cases hp : (putB t s).2 = 0 <;> simp [hp, h4]; done) | (simp only [List.length_append]; simp; omega) | (clear hK K; by_cases hq : (readB more).2.2 = 0 <;> simp [hq, h5, h6]; done) | (simp; done) | (simp; omega) | rfl) ?_
      refine osS (by simp only [zC, stepOp, aval, opv, Ab.get, Ab.put, putO, Nat.reduceEqDiff, ↓reduceIte, D.val, D.cond, reduceCtorEq]; rfl) rfl ?_
      refine osS (by simp (disch := omega) only [zS, viaNN, viaNNT, D.nn, addQ, addT, IE.isCall, Nat.reduceAdd, Nat.reduceSub, Nat.reduceMul, Nat.reduceLeDiff, Nat.reduceLT, Nat.reduceBEq, Int.reduceToNat, Int.reduceLE, Int.reduceLT, Int.reduceAdd, Int.reduceSub, Int.reduceMul, Int.reduceNeg, Int.reduceEq, Nat.reduceEqDiff, runOpsA, runDA, stepOp, aval, aact, opv, Ab.get, Ab.put, putO, keep, memN, D.val, D.cond, D.cells?, D.scalar, X.scalar, D.plain, D.isX, binD, bitsD, eqD, eqFs, eqX, unD, intOf?, lenD, okRef, rowsOf, viewD, viewX, freezeD, freezeL, partsD, buildD, slcStrD, slcSlD, Ob.slice?, ↓reduceIte, reduceCtorEq, evQ, evK, evC, evA, avalR, prefB, eqR, nzD, actT, callT1, callR1, callK1, valsL, condsL, optV, noTabs, IE.frame, memB, zeroO, IntWalk.i64_in, putG, readG, readD, awake01G, tabBer5_r, tabBer5_k, tabBer5_q13, tabBer5_q14, tabBer5_q15, tabBer5_q16, tabBer5_q17, tabBer5_q18, tabBer5_q19, tabBer5_q20, tabBer5_q21, tabBer5_q22, allG, allRG, headG, headRG, putRG, readRG, sameG]; rfl) (by first | with_reducible rfl | omega | (clear hK K; by_cases hp : (putB t s).2 = 0 <;> simp [hp, h4]; done) | (simp only [List.length_append]; simp; omega) | (clear hK K; by_cases hq : (readB more).2.2 = 0 <;> simp [hq, h5, h6]; done) | (simp; done) | (simp; omega) | rfl) ?_
      refine osS (by simp (disch := omega) only [zG, zC, stepOp, aval, opv, Ab.get, Ab.put, putO, Nat.reduceEqDiff, ↓reduceIte, D.val, D.cond, reduceCtorEq, Bool.cond_true_left, Bool.cond_false_right, cond_true, cond_false, putG, readG, readD, awake01G]; rfl) (by first | with_reducible rfl | omega | (clear hK K; by_cases hp : (putB t s).2 = 0 <;> simp [hp, h4]; done) | (simp only [List.length_append]; simp; omega) | (clear hK K; by_cases hq : (readB more).2.2 = 0 <;> simp [hq, h5, h6]; done) | (simp; done) | (simp; omega) | rfl) ?_
      refine osS (by simp only [zC, stepOp, aval, opv, Ab.get, Ab.put, putO, Nat.reduceEqDiff, ↓reduceIte, D.val, D.cond, reduceCtorEq]; rfl) rfl ?_
      refine osN ?_
      simp only [keep, memN, Nat.reduceEqDiff, if_true, if_false, ↓reduceIte, Option.getD_none, Option.getD_some, List.append_nil, List.cons_append, List.nil_append, Bool.false_eq_true]
      refine hK _ _ ?_
      clear hK K
      refine thenQ_normal ?_
      refine WI.ret ?_
      refine ⟨.inr rfl, ?_⟩
      -- leaf 1
      simp (disch := omega) only [zF, retD, resD, finD, plainD, freezeD, freezeL, aval, opv, Ab.get, Nat.reduceEqDiff, ↓reduceIte, D.val, D.cond, Nat.reduceAdd, Nat.reduceLeDiff, Ob.slice?, putG, readG, readD, awake01G]
      refine ⟨_, _, rfl, ?_⟩
      simp only [mkR]
      by_cases hq : (readB more).2.2 = 0
      · rw [h5 hq]; simp
      · simp [hq]
theorem berLength_c (t : Int) (s q : List UInt8) (ht : 0 ≤ t ∧ t ≤ 255) : PCalls Try.prog 6 [.x (.int .u8 t), .x (.str s), .x (.str q)] (.x (.bool true)) := by
  have h4 := put_len t s
  have h5 := put_len t q
  refine FCalls.pure (fcallsG (fz := true) G_ok (p := i6) rfl _ (Nat.le_of_ble_eq_true rfl) _ (fun C0 E0 => ?_)) rfl
  dsimp only [i6, argsφ]
  refine WI.seq ?_
  refine WI.regA tabBer5_ok [0, 1, 2] (fun K hK => ?_)
  refine osS (by simp only [zC, stepOp, aval, opv, Ab.get, Ab.put, putO, Nat.reduceEqDiff, ↓reduceIte, D.val, D.cond, reduceCtorEq]; rfl) rfl ?_
  refine osN ?_
  simp only [keep, memN, Nat.reduceEqDiff, if_true, if_false, ↓reduceIte, Option.getD_none, Option.getD_some, List.append_nil, List.cons_append, List.nil_append, Bool.false_eq_true]
  refine hK _ _ ?_
  clear hK K
  refine thenQ_normal ?_
  refine WI.seq ?_
  refine WI.seq ?_
  refine WI.regA tabBer5_ok [0, 1, 2, 18] (fun K hK => ?_)
  refine osS (by simp only [zC, stepOp, aval, opv, Ab.get, Ab.put, putO, Nat.reduceEqDiff, ↓reduceIte, D.val, D.cond, reduceCtorEq]; rfl) rfl ?_
  refine osS (by simp (disch := omega) only [zL, zR, zC, stepOp, aval, opv, Ab.get, Ab.put, putO, Nat.reduceEqDiff, ↓reduceIte, D.val, D.cond, reduceCtorEq, lenD, okRef, Nat.reduceAdd, Nat.reduceLeDiff, Ob.slice?, putG, awake01G]; rfl) (by first | with_reducible rfl | omega | (simp; done) | (simp; omega) | rfl) ?_
  refine osS (by simp (disch := omega) only [zG, zN, zC, stepOp, aval, opv, Ab.get, Ab.put, putO, Nat.reduceEqDiff, ↓reduceIte, D.val, D.cond, reduceCtorEq, binD, bitsD, Nat.reduceAdd, Nat.reduceSub, Nat.reduceMul, Nat.reduceLeDiff, Int.reduceToNat, Int.reduceLE, Int.reduceLT, Int.reduceAdd, Int.reduceSub, Int.reduceMul, Int.reduceNeg, Int.reduceEq, bne_self_eq_false, putG, awake01G]; rfl) (by first | with_reducible rfl | omega | (simp; done) | (simp; omega) | rfl) ?_
  refine osS (by simp only [zC, stepOp, aval, opv, Ab.get, Ab.put, putO, Nat.reduceEqDiff, ↓reduceIte, D.val, D.cond, reduceCtorEq]; rfl) rfl ?_
  refine osS (by simp (disch := omega) only [zG, zC, stepOp, aval, opv, Ab.get, Ab.put, putO, Nat.reduceEqDiff, ↓reduceIte, D.val, D.cond, reduceCtorEq, putG, awake01G]; rfl) rfl ?_
  refine osS (by simp (disch := omega) only [zL, zG, zR, zC, stepOp, aval, opv, Ab.get, Ab.put, putO, Nat.reduceEqDiff, ↓reduceIte, D.val, D.cond, reduceCtorEq, lenD, okRef, Nat.reduceAdd, Nat.reduceLeDiff, Ob.slice?, putG, awake01G]; rfl) (by first | with_reducible rfl | omega | (simp; done) | (simp; omega) | rfl) ?_
  refine osS (by simp (disch := omega) only [zG, zN, zC, stepOp, aval, opv, Ab.get, Ab.put, putO, Nat.reduceEqDiff, ↓reduceIte, D.val, D.cond, reduceCtorEq, binD, bitsD, Nat.reduceAdd, Nat.reduceSub, Nat.reduceMul, Nat.reduceLeDiff, Int.reduceToNat, Int.reduceLE, Int.reduceLT, Int.reduceAdd, Int.reduceSub, Int.reduceMul, Int.reduceNeg, Int.reduceEq, bne_self_eq_false, putG, awake01G]; rfl) (by first | with_reducible rfl | omega | (simp; done) | (simp; omega) | rfl) ?_
  refine osS (by simp (disch := omega) only [zG, zC, stepOp, aval, opv, Ab.get, Ab.put, putO, Nat.reduceEqDiff, ↓reduceIte, D.val, D.cond, reduceCtorEq, Bool.cond_true_left, Bool.cond_false_right, cond_true, cond_false, putG, awake01G]; rfl) (by first | with_reducible rfl | omega | (simp; done) | (simp; omega) | rfl) ?_
  refine osN ?_
  simp only [keep, memN, Nat.reduceEqDiff, if_true, if_false, ↓reduceIte, Option.getD_none, Option.getD_some, List.append_nil, List.cons_append, List.nil_append, Bool.false_eq_true]
  refine hK _ _ ?_
  clear hK K
  refine thenQ_normal ?_
  refine WI.cond (b := _) rfl rfl (fun h0 => ?_) (fun h0 => ?_)
  · try simp only [zB] at h0
    refine WI.seq ?_
    refine WI.regA tabBer5_ok [6] (fun K hK => ?_)
    refine osS (by simp (disch := omega) only [zS, viaNN, viaNNT, D.nn, addQ, addT, IE.isCall, Nat.reduceAdd, Nat.reduceSub, Nat.reduceMul, Nat.reduceLeDiff, Nat.reduceLT, Nat.reduceBEq, Int.reduceToNat, Int.reduceLE, Int.reduceLT, Int.reduceAdd, Int.reduceSub, Int.reduceMul, Int.reduceNeg, Int.reduceEq, Nat.reduceEqDiff, runOpsA, runDA, stepOp, aval, aact, opv, Ab.get, Ab.put, putO, keep, memN, D.val, D.cond, D.cells?, D.scalar, X.scalar, D.plain, D.isX, binD, bitsD, eqD, eqFs, eqX, unD, intOf?, lenD, okRef, rowsOf, viewD, viewX, freezeD, freezeL, partsD, buildD, slcStrD, slcSlD, Ob.slice?, ↓reduceIte, reduceCtorEq, evQ, evK, evC, evA, avalR, prefB, eqR, nzD, actT, callT1, callR1, callK1, valsL, condsL, optV, noTabs, IE.frame, memB, zeroO, IntWalk.i64_in, putG, awake01G, tabBer5_r, tabBer5_k, tabBer5_q13, tabBer5_q14, tabBer5_q15, tabBer5_q16, tabBer5_q17, tabBer5_q18, tabBer5_q19, tabBer5_q20, tabBer5_q21, tabBer5_q22, allG, allRG, headG, headRG, putRG, readG, readRG, sameG]; rfl) (by first | with_reducible rfl | omega | (simp; done) | (simp; omega) | rfl) ?_
    refine osS (by simp only [zC, stepOp, aval, opv, Ab.get, Ab.put, putO, Nat.reduceEqDiff, ↓reduceIte, D.val, D.cond, reduceCtorEq]; rfl) rfl ?_
    refine osN ?_
    simp only [keep, memN, Nat.reduceEqDiff, if_true, if_false, ↓reduceIte, Option.getD_none, Option.getD_some, List.append_nil, List.cons_append, List.nil_append, Bool.false_eq_true]
    refine hK _ _ ?_
    clear hK K
    refine thenQ_normal ?_
    refine WI.ret ?_
    refine thenQ_ret ?_
    refine ⟨.inr rfl, ?_⟩
    -- leaf 0
    simp (disch := omega) only [zF, retD, resD, finD, plainD, freezeD, freezeL, aval, opv, Ab.get, Nat.reduceEqDiff, ↓reduceIte, D.val, D.cond, Nat.reduceAdd, Nat.reduceLeDiff, Ob.slice?, putG, awake01G]
    refine ⟨_, _, rfl, ?_⟩
    simp only [mkR]
    all_goals first | exact ⟨rfl, rfl⟩ | exact ⟨trivial, trivial⟩ | rfl | trivial
  · try simp only [zB] at h0
    refine WI.skip ?_
    refine thenQ_normal ?_
    refine WI.seq ?_
    refine WI.regA tabBer5_ok [0, 1, 2, 7, 8] (fun K hK => ?_)
    refine osS (by simp only [zC, stepOp, aval, opv, Ab.get, Ab.put, putO, Nat.reduceEqDiff, ↓reduceIte, D.val, D.cond, reduceCtorEq]; rfl) rfl ?_
    refine osS (by simp (disch := omega) only [zM, stepOp, aval, opv, Ab.get, Ab.put, putO, Nat.reduceEqDiff, ↓reduceIte, D.val, D.cond, reduceCtorEq, aact, actT, IE.isCall, D.cells?, Nat.reduceAdd, Nat.reduceLeDiff, Ob.slice?, Nat.reduceSub, Nat.reduceMul, Int.reduceToNat, Int.reduceLE, Int.reduceLT, Int.reduceAdd, Int.reduceSub, Int.reduceMul, Int.reduceNeg, Int.reduceEq, rowsOf, srcOf, okRef, intOf?, partsD, freezeL, freezeD, buildD, slcStrD, slcSlD, optV, zeroO, eqR, eqD, eqFs, eqX, nzD, binD, unD, lenD, evK, evC, Nat.reduceLT, putG, awake01G]; rfl) (by first | with_reducible rfl | omega | (simp; done) | (simp; omega) | rfl) ?_
    refine osS (by simp only [zC, stepOp, aval, opv, Ab.get, Ab.put, putO, Nat.reduceEqDiff, ↓reduceIte, D.val, D.cond, reduceCtorEq]; rfl) rfl ?_
    refine osS (by simp (disch := omega) only [zS, viaNN, viaNNT, D.nn, addQ, addT, IE.isCall, Nat.reduceAdd, Nat.reduceSub, Nat.reduceMul, Nat.reduceLeDiff, Nat.reduceLT, Nat.reduceBEq, Int.reduceToNat, Int.reduceLE, Int.reduceLT, Int.reduceAdd, Int.reduceSub, Int.reduceMul, Int.reduceNeg, Int.reduceEq, Nat.reduceEqDiff, runOpsA, runDA, stepOp, aval, aact, opv, Ab.get, Ab.put, putO, keep, memN, D.val, D.cond, D.cells?, D.scalar, X.scalar, D.plain, D.isX, binD, bitsD, eqD, eqFs, eqX, unD, intOf?, lenD, okRef, rowsOf, viewD, viewX, freezeD, freezeL, partsD, buildD, slcStrD, slcSlD, Ob.slice?, ↓reduceIte, reduceCtorEq, evQ, evK, evC, evA, avalR, prefB, eqR, nzD, actT, callT1, callR1, callK1, valsL, condsL, optV, noTabs, IE.frame, memB, zeroO, IntWalk.i64_in, putG, awake01G, tabBer5_r, tabBer5_k, tabBer5_q13, tabBer5_q14, tabBer5_q15, tabBer5_q16, tabBer5_q17, tabBer5_q18, tabBer5_q19, tabBer5_q20, tabBer5_q21, tabBer5_q22, allG, allRG, headG, headRG, putRG, readG, readRG, sameG]; rfl) (by first | with_reducible rfl | omega | (simp; done) | (simp; omega) | rfl) ?_
    refine osS (by simp only [zC, stepOp, aval, opv, Ab.get, Ab.put, putO, Nat.reduceEqDiff, ↓reduceIte, D.val, D.cond, reduceCtorEq]; rfl) rfl ?_
    refine osS (by simp (disch := omega) only [zL, zC, stepOp, aval, opv, Ab.get, Ab.put, putO, Nat.reduceEqDiff, ↓reduceIte, D.val, D.cond, reduceCtorEq, Nat.reduceAdd, Nat.reduceLeDiff, putG, awake01G]; rfl) rfl ?_
    refine osS (by simp (disch := omega) only [zL, zC, stepOp, aval, opv, Ab.get, Ab.put, putO, Nat.reduceEqDiff, ↓reduceIte, D.val, D.cond, reduceCtorEq, Nat.reduceAdd, Nat.reduceLeDiff, putG, awake01G]; rfl) rfl ?_
    refine osS (by simp only [zC, stepOp, aval, opv, Ab.get, Ab.put, putO, Nat.reduceEqDiff, ↓reduceIte, D.val, D.cond, reduceCtorEq]; rfl) rfl ?_
    refine osS (by simp only [zC, stepOp, aval, opv, Ab.get, Ab.put, putO, Nat.reduceEqDiff, ↓reduceIte, D.val, D.cond, reduceCtorEq]; rfl) rfl ?_
    refine osN ?_
    simp only [keep, memN, Nat.reduceEqDiff, if_true, if_false, ↓reduceIte, Option.getD_none, Option.getD_some, List.append_nil, List.cons_append, List.nil_append, Bool.false_eq_true]
    refine hK _ _ ?_
    clear hK K
    refine thenQ_normal ?_
    refine WI.seq ?_
    refine WI.regA tabBer5_ok [1, 2, 7, 8, 9, 10] (fun K hK => ?_)
    refine osS (by simp only [zC, stepOp, aval, opv, Ab.get, Ab.put, putO, Nat.reduceEqDiff, ↓reduceIte, D.val, D.cond, reduceCtorEq]; rfl) rfl ?_
    refine osS (by simp (disch := omega) only [zM, stepOp, aval, opv, Ab.get, Ab.put, putO, Nat.reduceEqDiff, ↓reduceIte, D.val, D.cond, reduceCtorEq, aact, actT, IE.isCall, D.cells?, Nat.reduceAdd, Nat.reduceLeDiff, Ob.slice?, Nat.reduceSub, Nat.reduceMul, Int.reduceToNat, Int.reduceLE, Int.reduceLT, Int.reduceAdd, Int.reduceSub, Int.reduceMul, Int.reduceNeg, Int.reduceEq, rowsOf, srcOf, okRef, intOf?, partsD, freezeL, freezeD, buildD, slcStrD, slcSlD, optV, zeroO, eqR, eqD, eqFs, eqX, nzD, binD, unD, lenD, evK, evC, Nat.reduceLT, putG, awake01G]; rfl) (by first | with_reducible rfl | omega | (simp; done) | (simp; omega) | rfl) ?_
    refine osS (by simp only [zC, stepOp, aval, opv, Ab.get, Ab.put, putO, Nat.reduceEqDiff, ↓reduceIte, D.val, D.cond, reduceCtorEq]; rfl) rfl ?_
    refine osS (by simp (disch := omega) only [zS, viaNN, viaNNT, D.nn, addQ, addT, IE.isCall, Nat.reduceAdd, Nat.reduceSub, Nat.reduceMul, Nat.reduceLeDiff, Nat.reduceLT, Nat.reduceBEq, Int.reduceToNat, Int.reduceLE, Int.reduceLT, Int.reduceAdd, Int.reduceSub, Int.reduceMul, Int.reduceNeg, Int.reduceEq, Nat.reduceEqDiff, runOpsA, runDA, stepOp, aval, aact, opv, Ab.get, Ab.put, putO, keep, memN, D.val, D.cond, D.cells?, D.scalar, X.scalar, D.plain, D.isX, binD, bitsD, eqD, eqFs, eqX, unD, intOf?, lenD, okRef, rowsOf, viewD, viewX, freezeD, freezeL, partsD, buildD, slcStrD, slcSlD, Ob.slice?, ↓reduceIte, reduceCtorEq, evQ, evK, evC, evA, avalR, prefB, eqR, nzD, actT, callT1, callR1, callK1, valsL, condsL, optV, noTabs, IE.frame, memB, zeroO, IntWalk.i64_in, putG, awake01G, tabBer5_r, tabBer5_k, tabBer5_q13, tabBer5_q14, tabBer5_q15, tabBer5_q16, tabBer5_q17, tabBer5_q18, tabBer5_q19, tabBer5_q20, tabBer5_q21, tabBer5_q22, allG, allRG, headG, headRG, putRG, readG, readRG, sameG]; rfl) (by first | with_reducible rfl | omega | (simp; done) | (simp; omega) | rfl) ?_
    refine osS (by simp only [zC, stepOp, aval, opv, Ab.get, Ab.put, putO, Nat.reduceEqDiff, ↓reduceIte, D.val, D.cond, reduceCtorEq]; rfl) rfl ?_
    refine osS (by simp (disch := omega) only [zL, zC, stepOp, aval, opv, Ab.get, Ab.put, putO, Nat.reduceEqDiff, ↓reduceIte, D.val, D.cond, reduceCtorEq, Nat.reduceAdd, Nat.reduceLeDiff, putG, awake01G]; rfl) rfl ?_
    refine osS (by simp (disch := omega) only [zL, zC, stepOp, aval, opv, Ab.get, Ab.put, putO, Nat.reduceEqDiff, ↓reduceIte, D.val, D.cond, reduceCtorEq, Nat.reduceAdd, Nat.reduceLeDiff, putG, awake01G]; rfl) rfl ?_
    refine osS (by simp only [zC, stepOp, aval, opv, Ab.get, Ab.put, putO, Nat.reduceEqDiff, ↓reduceIte, D.val, D.cond, reduceCtorEq]; rfl) rfl ?_
    refine osS (by simp only [zC, stepOp, aval, opv, Ab.get, Ab.put, putO, Nat.reduceEqDiff, ↓reduceIte, D.val, D.cond, reduceCtorEq]; rfl) rfl ?_
    refine osN ?_
    simp only [keep, memN, Nat.reduceEqDiff, if_true, if_false, ↓reduceIte, Option.getD_none, Option.getD_some, List.append_nil, List.cons_append, List.nil_append, Bool.false_eq_true]
    refine hK _ _ ?_
    clear hK K
    refine thenQ_normal ?_
    refine WI.seq ?_
    refine WI.seq ?_
    refine WI.regA tabBer5_ok [1, 2, 7, 8, 9, 10, 39] (fun K hK => ?_)
    refine osS (by simp only [zC, stepOp, aval, opv, Ab.get, Ab.put, putO, Nat.reduceEqDiff, ↓reduceIte, D.val, D.cond, reduceCtorEq]; rfl) rfl ?_
    refine osS (by simp (disch := omega) only [zG, zN, zC, stepOp, aval, opv, Ab.get, Ab.put, putO, Nat.reduceEqDiff, ↓reduceIte, D.val, D.cond, reduceCtorEq, binD, bitsD, Nat.reduceAdd, Nat.reduceSub, Nat.reduceMul, Nat.reduceLeDiff, Int.reduceToNat, Int.reduceLE, Int.reduceLT, Int.reduceAdd, Int.reduceSub, Int.reduceMul, Int.reduceNeg, Int.reduceEq, bne_self_eq_false, putG, awake01G]; rfl) (by first | with_reducible rfl | omega | (simp; done) | (simp; omega) | rfl) ?_
    refine osS (by simp only [zC, stepOp, aval, opv, Ab.get, Ab.put, putO, Nat.reduceEqDiff, ↓reduceIte, D.val, D.cond, reduceCtorEq]; rfl) rfl ?_
    refine osS (by simp (disch := omega) only [zG, zC, stepOp, aval, opv, Ab.get, Ab.put, putO, Nat.reduceEqDiff, ↓reduceIte, D.val, D.cond, reduceCtorEq, putG, awake01G]; rfl) rfl ?_
    refine osS (by simp (disch := omega) only [zG, zN, zC, stepOp, aval, opv, Ab.get, Ab.put, putO, Nat.reduceEqDiff, ↓reduceIte, D.val, D.cond, reduceCtorEq, binD, bitsD, Nat.reduceAdd, Nat.reduceSub, Nat.reduceMul, Nat.reduceLeDiff, Int.reduceToNat, Int.reduceLE, Int.reduceLT, Int.reduceAdd, Int.reduceSub, Int.reduceMul, Int.reduceNeg, Int.reduceEq, bne_self_eq_false, putG, awake01G]; rfl) (by first | with_reducible rfl | omega | (simp; done) | (simp; omega) | rfl) ?_
    refine osS (by simp (disch := omega) only [zG, zC, stepOp, aval, opv, Ab.get, Ab.put, putO, Nat.reduceEqDiff, ↓reduceIte, D.val, D.cond, reduceCtorEq, Bool.cond_true_left, Bool.cond_false_right, cond_true, cond_false, putG, awake01G]; rfl) (by first | with_reducible rfl | omega | (simp; done) | (simp; omega) | rfl) ?_
    refine osN ?_
    simp only [keep, memN, Nat.reduceEqDiff, if_true, if_false, ↓reduceIte, Option.getD_none, Option.getD_some, List.append_nil, List.cons_append, List.nil_append, Bool.false_eq_true]
    refine hK _ _ ?_
    clear hK K
    refine thenQ_normal ?_
    refine WI.cond (b := _) rfl rfl (fun h1 => ?_) (fun h1 => ?_)
    · try simp only [zB] at h1
      refine WI.seq ?_
      refine WI.regA tabBer5_ok [6] (fun K hK => ?_)
      refine osS (by simp only [zC, stepOp, aval, opv, Ab.get, Ab.put, putO, Nat.reduceEqDiff, ↓reduceIte, D.val, D.cond, reduceCtorEq]; rfl) rfl ?_
      refine osS (by simp only [zC, stepOp, aval, opv, Ab.get, Ab.put, putO, Nat.reduceEqDiff, ↓reduceIte, D.val, D.cond, reduceCtorEq]; rfl) rfl ?_
      refine osS (by simp (disch := omega) only [zG, zN, zC, stepOp, aval, opv, Ab.get, Ab.put, putO, Nat.reduceEqDiff, ↓reduceIte, D.val, D.cond, reduceCtorEq, binD, bitsD, Nat.reduceAdd, Nat.reduceSub, Nat.reduceMul, Nat.reduceLeDiff, Int.reduceToNat, Int.reduceLE, Int.reduceLT, Int.reduceAdd, Int.reduceSub, Int.reduceMul, Int.reduceNeg, Int.reduceEq, bne_self_eq_false, putG, awake01G]; rfl) (by first | with_reducible rfl | omega | (simp; done) | (simp; omega) | rfl) ?_
      refine osS (by simp only [zC, stepOp, aval, opv, Ab.get, Ab.put, putO, Nat.reduceEqDiff, ↓reduceIte, D.val, D.cond, reduceCtorEq]; rfl) rfl ?_
      refine osS (by simp (disch := omega) only [zS, viaNN, viaNNT, D.nn, addQ, addT, IE.isCall, Nat.reduceAdd, Nat.reduceSub, Nat.reduceMul, Nat.reduceLeDiff, Nat.reduceLT, Nat.reduceBEq, Int.reduceToNat, Int.reduceLE, Int.reduceLT, Int.reduceAdd, Int.reduceSub, Int.reduceMul, Int.reduceNeg, Int.reduceEq, Nat.reduceEqDiff, runOpsA, runDA, stepOp, aval, aact, opv, Ab.get, Ab.put, putO, keep, memN, D.val, D.cond, D.cells?, D.scalar, X.scalar, D.plain, D.isX, binD, bitsD, eqD, eqFs, eqX, unD, intOf?, lenD, okRef, rowsOf, viewD, viewX, freezeD, freezeL, partsD, buildD, slcStrD, slcSlD, Ob.slice?, ↓reduceIte, reduceCtorEq, evQ, evK, evC, evA, avalR, prefB, eqR, nzD, actT, callT1, callR1, callK1, valsL, condsL, optV, noTabs, IE.frame, memB, zeroO, IntWalk.i64_in, putG, awake01G, tabBer5_r, tabBer5_k, tabBer5_q13, tabBer5_q14, tabBer5_q15, tabBer5_q16, tabBer5_q17, tabBer5_q18, tabBer5_q19, tabBer5_q20, tabBer5_q21, tabBer5_q22, allG, allRG, headG, headRG, putRG, readG, readRG, sameG]; rfl) (by first | with_reducible rfl | omega | (simp; done) | (simp; omega) | rfl) ?_
      refine osS (by simp (disch := omega) only [zG, zC, stepOp, aval, opv, Ab.get, Ab.put, putO, Nat.reduceEqDiff, ↓reduceIte, D.val, D.cond, reduceCtorEq, Bool.cond_true_left, Bool.cond_false_right, cond_true, cond_false, putG, awake01G]; rfl) (by first | with_reducible rfl | omega | (simp; done) | (simp; omega) | rfl) ?_
      refine osS (by simp only [zC, stepOp, aval, opv, Ab.get, Ab.put, putO, Nat.reduceEqDiff, ↓reduceIte, D.val, D.cond, reduceCtorEq]; rfl) rfl ?_
      refine osN ?_
      simp only [keep, memN, Nat.reduceEqDiff, if_true, if_false, ↓reduceIte, Option.getD_none, Option.getD_some, List.append_nil, List.cons_append, List.nil_append, Bool.false_eq_true]
      refine hK _ _ ?_
      clear hK K
      refine thenQ_normal ?_
      refine WI.ret ?_
      refine thenQ_ret ?_
      refine ⟨.inr rfl, ?_⟩
      -- leaf 1
      simp (disch := omega) only [zF, retD, resD, finD, plainD, freezeD, freezeL, aval, opv, Ab.get, Nat.reduceEqDiff, ↓reduceIte, D.val, D.cond, Nat.reduceAdd, Nat.reduceLeDiff, Ob.slice?, putG, awake01G]
      refine ⟨_, _, rfl, ?_⟩
      simp only [mkR]
      rw [put_code t s (by omega), put_code t q (by omega)]; simp
    · try simp only [zB] at h1
      refine WI.skip ?_
      refine thenQ_normal ?_
      refine WI.seq ?_
      refine WI.regA tabBer5_ok [6] (fun K hK => ?_)
      refine osS (by simp only [zC, stepOp, aval, opv, Ab.get, Ab.put, putO, Nat.reduceEqDiff, ↓reduceIte, D.val, D.cond, reduceCtorEq]; rfl) rfl ?_
      refine osS (by simp (disch := omega) only [zL, zR, zC, stepOp, aval, opv, Ab.get, Ab.put, putO, Nat.reduceEqDiff, ↓reduceIte, D.val, D.cond, reduceCtorEq, lenD, okRef, Nat.reduceAdd, Nat.reduceLeDiff, Ob.slice?, putG, awake01G]; rfl) (by first | with_reducible rfl | omega | (simp; done) | (simp; omega) | rfl) ?_
      refine osS (by simp only [zC, stepOp, aval, opv, Ab.get, Ab.put, putO, Nat.reduceEqDiff, ↓reduceIte, D.val, D.cond, reduceCtorEq]; rfl) rfl ?_
      refine osS (by simp (disch := omega) only [zL, zR, zC, stepOp, aval, opv, Ab.get, Ab.put, putO, Nat.reduceEqDiff, ↓reduceIte, D.val, D.cond, reduceCtorEq, lenD, okRef, Nat.reduceAdd, Nat.reduceLeDiff, Ob.slice?, putG, awake01G]; rfl) (by first | with_reducible rfl | omega | (simp; done) | (simp; omega) | rfl) ?_
      refine osS (by simp (disch := omega) only [zG, zN, zC, stepOp, aval, opv, Ab.get, Ab.put, putO, Nat.reduceEqDiff, ↓reduceIte, D.val, D.cond, reduceCtorEq, binD, bitsD, Nat.reduceAdd, Nat.reduceSub, Nat.reduceMul, Nat.reduceLeDiff, Int.reduceToNat, Int.reduceLE, Int.reduceLT, Int.reduceAdd, Int.reduceSub, Int.reduceMul, Int.reduceNeg, Int.reduceEq, bne_self_eq_false, putG, awake01G]; rfl) (by first | with_reducible rfl | omega | (simp; done) | (simp; omega) | rfl) ?_
      refine osS (by simp (disch := omega) only [zG, zN, zC, stepOp, aval, opv, Ab.get, Ab.put, putO, Nat.reduceEqDiff, ↓reduceIte, D.val, D.cond, reduceCtorEq, binD, bitsD, Nat.reduceAdd, Nat.reduceSub, Nat.reduceMul, Nat.reduceLeDiff, Int.reduceToNat, Int.reduceLE, Int.reduceLT, Int.reduceAdd, Int.reduceSub, Int.reduceMul, Int.reduceNeg, Int.reduceEq, bne_self_eq_false, putG, awake01G]; rfl) (by first | with_reducible rfl | omega | (simp; done) | (simp; omega) | rfl) ?_
      refine osS (by simp only [zC, stepOp, aval, opv, Ab.get, Ab.put, putO, Nat.reduceEqDiff, ↓reduceIte, D.val, D.cond, reduceCtorEq]; rfl) rfl ?_
      refine osS (by simp (disch := omega) only [zG, zC, stepOp, aval, opv, Ab.get, Ab.put, putO, Nat.reduceEqDiff, ↓reduceIte, D.val, D.cond, reduceCtorEq, putG, awake01G]; rfl) rfl ?_
      refine osS (by simp (disch := omega) only [zL, zG, zR, zC, stepOp, aval, opv, Ab.get, Ab.put, putO, Nat.reduceEqDiff, ↓reduceIte, D.val, D.cond, reduceCtorEq, lenD, okRef, Nat.reduceAdd, Nat.reduceLeDiff, Ob.slice?, putG, awake01G]; rfl) (by first | with_reducible rfl | omega | (simp; done) | (simp; omega) | rfl) ?_
      refine osS (by simp (disch := omega) only [zG, zC, stepOp, aval, opv, Ab.get, Ab.put, putO, Nat.reduceEqDiff, ↓reduceIte, D.val, D.cond, reduceCtorEq, putG, awake01G]; rfl) rfl ?_
      refine osS (by simp (disch := omega) only [zL, zG, zR, zC, stepOp, aval, opv, Ab.get, Ab.put, putO, Nat.reduceEqDiff, ↓reduceIte, D.val, D.cond, reduceCtorEq, lenD, okRef, Nat.reduceAdd, Nat.reduceLeDiff, Ob.slice?, putG, awake01G]; rfl) (by first | with_reducible rfl | omega | (simp; done) | (simp; omega) | rfl) ?_
      refine osS (by simp (disch := omega) only [zG, zN, zC, stepOp, aval, opv, Ab.get, Ab.put, putO, Nat.reduceEqDiff, ↓reduceIte, D.val, D.cond, reduceCtorEq, binD, bitsD, Nat.reduceAdd, Nat.reduceSub, Nat.reduceMul, Nat.reduceLeDiff, Int.reduceToNat, Int.reduceLE, Int.reduceLT, Int.reduceAdd, Int.reduceSub, Int.reduceMul, Int.reduceNeg, Int.reduceEq, bne_self_eq_false, putG, awake01G]; rfl) (by first | with_reducible rfl | omega | (simp; done) | (simp; omega) | rfl) ?_
      refine osS (by simp (disch := omega) only [zG, zN, zC, stepOp, aval, opv, Ab.get, Ab.put, putO, Nat.reduceEqDiff, ↓reduceIte, D.val, D.cond, reduceCtorEq, binD, bitsD, Nat.reduceAdd, Nat.reduceSub, Nat.reduceMul, Nat.reduceLeDiff, Int.reduceToNat, Int.reduceLE, Int.reduceLT, Int.reduceAdd, Int.reduceSub, Int.reduceMul, Int.reduceNeg, Int.reduceEq, bne_self_eq_false, putG, awake01G]; rfl) (by first | with_reducible rfl | omega | (simp; done) | (simp; omega) | rfl) ?_
      refine osS (by simp (disch := omega) only [zG, zC, stepOp, aval, opv, Ab.get, Ab.put, putO, Nat.reduceEqDiff, ↓reduceIte, D.val, D.cond, reduceCtorEq, Bool.cond_true_left, Bool.cond_false_right, cond_true, cond_false, putG, awake01G]; rfl) (by first | with_reducible rfl | omega | (simp; done) | (simp; omega) | rfl) ?_
      refine osS (by simp only [zC, stepOp, aval, opv, Ab.get, Ab.put, putO, Nat.reduceEqDiff, ↓reduceIte, D.val, D.cond, reduceCtorEq]; rfl) rfl ?_
      refine osS (by simp (disch := omega) only [zG, zC, stepOp, aval, opv, Ab.get, Ab.put, putO, Nat.reduceEqDiff, ↓reduceIte, D.val, D.cond, reduceCtorEq, putG, awake01G]; rfl) rfl ?_
      refine osS (by simp (disch := omega) only [zL, zG, zR, zC, stepOp, aval, opv, Ab.get, Ab.put, putO, Nat.reduceEqDiff, ↓reduceIte, D.val, D.cond, reduceCtorEq, lenD, okRef, Nat.reduceAdd, Nat.reduceLeDiff, Ob.slice?, putG, awake01G]; rfl) (by first | with_reducible rfl | omega | (simp; done) | (simp; omega) | rfl) ?_
      refine osS (by simp (disch := omega) only [zG, zC, stepOp, aval, opv, Ab.get, Ab.put, putO, Nat.reduceEqDiff, ↓reduceIte, D.val, D.cond, reduceCtorEq, putG, awake01G]; rfl) rfl ?_
      refine osS (by simp (disch := omega) only [zL, zG, zR, zC, stepOp, aval, opv, Ab.get, Ab.put, putO, Nat.reduceEqDiff, ↓reduceIte, D.val, D.cond, reduceCtorEq, lenD, okRef, Nat.reduceAdd, Nat.reduceLeDiff, Ob.slice?, putG, awake01G]; rfl) (by first | with_reducible rfl | omega | (simp; done) | (simp; omega) | rfl) ?_
      refine osS (by simp (disch := omega) only [zG, zN, zC, stepOp, aval, opv, Ab.get, Ab.put, putO, Nat.reduceEqDiff, ↓reduceIte, D.val, D.cond, reduceCtorEq, binD, bitsD, Nat.reduceAdd, Nat.reduceSub, Nat.reduceMul, Nat.reduceLeDiff, Int.reduceToNat, Int.reduceLE, Int.reduceLT, Int.reduceAdd, Int.reduceSub, Int.reduceMul, Int.reduceNeg, Int.reduceEq, bne_self_eq_false, putG, awake01G]; rfl) (by first | with_reducible rfl | omega | (simp; done) | (simp; omega) | rfl) ?_
      refine osS (by simp (disch := omega) only [zG, zC, stepOp, aval, opv, Ab.get, Ab.put, putO, Nat.reduceEqDiff, ↓reduceIte, D.val, D.cond, reduceCtorEq, putG, awake01G]; rfl) rfl ?_
      refine osS (by simp (disch := omega) only [zG, zC, stepOp, aval, opv, Ab.get, Ab.put, putO, Nat.reduceEqDiff, ↓reduceIte, D.val, D.cond, reduceCtorEq, putG, awake01G]; rfl) rfl ?_
      refine osS (by simp (disch := omega) only [zL, zG, zR, zC, stepOp, aval, opv, Ab.get, Ab.put, putO, Nat.reduceEqDiff, ↓reduceIte, D.val, D.cond, reduceCtorEq, lenD, okRef, Nat.reduceAdd, Nat.reduceLeDiff, Ob.slice?, putG, awake01G]; rfl) (by first | with_reducible rfl | omega | (simp; done) | (simp; omega) | rfl) ?_
      refine osS (by simp (disch := omega) only [zG, zC, stepOp, aval, opv, Ab.get, Ab.put, putO, Nat.reduceEqDiff, ↓reduceIte, D.val, D.cond, reduceCtorEq, putG, awake01G]; rfl) rfl ?_
      refine osS (by simp (disch := omega) only [zL, zG, zR, zC, stepOp, aval, opv, Ab.get, Ab.put, putO, Nat.reduceEqDiff, ↓reduceIte, D.val, D.cond, reduceCtorEq, lenD, okRef, Nat.reduceAdd, Nat.reduceLeDiff, Ob.slice?, putG, awake01G]; rfl) (by first | with_reducible rfl | omega | (simp; done) | (simp; omega) | rfl) ?_
      refine osS (by simp (disch := omega) only [zG, zN, zC, stepOp, aval, opv, Ab.get, Ab.put, putO, Nat.reduceEqDiff, ↓reduceIte, D.val, D.cond, reduceCtorEq, binD, bitsD, Nat.reduceAdd, Nat.reduceSub, Nat.reduceMul, Nat.reduceLeDiff, Int.reduceToNat, Int.reduceLE, Int.reduceLT, Int.reduceAdd, Int.reduceSub, Int.reduceMul, Int.reduceNeg, Int.reduceEq, bne_self_eq_false, putG, awake01G]; rfl) (by first | with_reducible rfl | omega | (simp; done) | (simp; omega) | rfl) ?_
      refine osS (by simp (disch := omega) only [zG, zC, stepOp, aval, opv, Ab.get, Ab.put, putO, Nat.reduceEqDiff, ↓reduceIte, D.val, D.cond, reduceCtorEq, Bool.cond_true_left, Bool.cond_false_right, cond_true, cond_false, putG, awake01G]; rfl) (by first | with_reducible rfl | omega | (simp; done) | (simp; omega) | rfl) ?_
      refine osS (by simp (disch := omega) only [zG, zC, stepOp, aval, opv, Ab.get, Ab.put, putO, Nat.reduceEqDiff, ↓reduceIte, D.val, D.cond, reduceCtorEq, Bool.cond_true_left, Bool.cond_false_right, cond_true, cond_false, putG, awake01G]; rfl) (by first | with_reducible rfl | omega | (simp; done) | (simp; omega) | rfl) ?_
      refine osS (by simp only [zC, stepOp, aval, opv, Ab.get, Ab.put, putO, Nat.reduceEqDiff, ↓reduceIte, D.val, D.cond, reduceCtorEq]; rfl) rfl ?_
      refine osS (by simp (disch := omega) only [zS, viaNN, viaNNT, D.nn, addQ, addT, IE.isCall, Nat.reduceAdd, Nat.reduceSub, Nat.reduceMul, Nat.reduceLeDiff, Nat.reduceLT, Nat.reduceBEq, Int.reduceToNat, Int.reduceLE, Int.reduceLT, Int.reduceAdd, Int.reduceSub, Int.reduceMul, Int.reduceNeg, Int.reduceEq, Nat.reduceEqDiff, runOpsA, runDA, stepOp, aval, aact, opv, Ab.get, Ab.put, putO, keep, memN, D.val, D.cond, D.cells?, D.scalar, X.scalar, D.plain, D.isX, binD, bitsD, eqD, eqFs, eqX, unD, intOf?, lenD, okRef, rowsOf, viewD, viewX, freezeD, freezeL, partsD, buildD, slcStrD, slcSlD, Ob.slice?, ↓reduceIte, reduceCtorEq, evQ, evK, evC, evA, avalR, prefB, eqR, nzD, actT, callT1, callR1, callK1, valsL, condsL, optV, noTabs, IE.frame, memB, zeroO, IntWalk.i64_in, putG, awake01G, tabBer5_r, tabBer5_k, tabBer5_q13, tabBer5_q14, tabBer5_q15, tabBer5_q16, tabBer5_q17, tabBer5_q18, tabBer5_q19, tabBer5_q20, tabBer5_q21, tabBer5_q22, allG, allRG, headG, headRG, putRG, readG, readRG, sameG]; rfl) (by first | with_reducible rfl | omega | (simp; done) | (simp; omega) | rfl) ?_
      refine osS (by simp (disch := omega) only [zG, zC, stepOp, aval, opv, Ab.get, Ab.put, putO, Nat.reduceEqDiff, ↓reduceIte, D.val, D.cond, reduceCtorEq, Bool.cond_true_left, Bool.cond_false_right, cond_true, cond_false, putG, awake01G]; rfl) (by first | with_reducible rfl | omega | (simp; done) | (simp; omega) | rfl) ?_
      refine osS (by simp only [zC, stepOp, aval, opv, Ab.get, Ab.put, putO, Nat.reduceEqDiff, ↓reduceIte, D.val, D.cond, reduceCtorEq]; rfl) rfl ?_
      refine osN ?_
      simp only [keep, memN, Nat.reduceEqDiff, if_true, if_false, ↓reduceIte, Option.getD_none, Option.getD_some, List.append_nil, List.cons_append, List.nil_append, Bool.false_eq_true]
      refine hK _ _ ?_
      clear hK K
      refine thenQ_normal ?_
      refine WI.ret ?_
      refine ⟨.inr rfl, ?_⟩
      -- leaf 2
      simp (disch := omega) only [zF, retD, resD, finD, plainD, freezeD, freezeL, aval, opv, Ab.get, Nat.reduceEqDiff, ↓reduceIte, D.val, D.cond, Nat.reduceAdd, Nat.reduceLeDiff, Ob.slice?, putG, awake01G]
      refine ⟨_, _, rfl, ?_⟩
      simp only [mkR]
      rw [h4 h1.1, h5 h1.2]
      have k1 := lenB_lo s.length
      have k2 := lenB_hi s.length (by omega)
      have k3 := lenB_mono s.length q.length
      congr 2
      rw [Bool.and_eq_true, Bool.and_eq_true, Bool.or_eq_true, decide_eq_true_eq, decide_eq_true_eq, decide_eq_true_eq, decide_eq_true_eq]
      omega
end Go.Proofs.Ytogmbfaijmhamaa
