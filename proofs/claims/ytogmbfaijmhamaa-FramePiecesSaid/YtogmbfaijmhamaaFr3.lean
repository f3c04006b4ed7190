/- Frame: the plays. -/
import Derived.Test.YtogmbfaijmhamaaFr2
set_option linter.unusedSimpArgs false
set_option linter.unusedVariables false
namespace Go.Proofs.Ytogmbfaijmhamaa
open Go.RowKit Go.Bo Go.Ab

/-- New, Feed, Next, Err, Left in a table. -/
def frNewT : List D → List Ob → Option (Bool × D × List Ob)
  | [.x (.int .i64 m)], [] => if 1 ≤ m ∧ m ≤ 65536 then some (true, .tup [.ptr 0 0, .x (.int .i64 0)], [.box [.x (.int .i64 m), .x .nils, .x (.int .i64 0)]]) else some (true, .tup [.x .nilp, .x (.int .i64 1)], [])
  | _, _ => none
theorem frNewT_ok : ∀ args os r os', frNewT args os = some (true, r, os') → MCalls Try.prog 24 args os r os' := by
  intro args os r os' h
  unfold frNewT at h
  split at h
  · split at h
    · rename_i hm; cases h; exact new_ok _ hm
    · rename_i hm; cases h; exact new_bad _ hm
  · cases h
def feedT : List D → List Ob → Option (Bool × D × List Ob)
  | [.ptr 0 0, .x (.str s)], [.box [.x (.int .i64 m), .x (.sl B), .x (.int .i64 e)]] => (unbytes B).bind fun S => some (decide (S.length ≤ 1000000) && (decide (s.length ≤ 1000000)), .tup [], [frO m (feedB m S e s).1 (feedB m S e s).2])
  | _, _ => none
theorem feedT_ok : ∀ args os r os', feedT args os = some (true, r, os') → MCalls Try.prog 25 args os r os' := by
  intro args os r os' h
  unfold feedT at h
  split at h
  · rename_i s m B e
    obtain ⟨S, hb0, h⟩ := Option.bind_eq_some_iff.1 h
    simp only [Option.some.injEq, Prod.mk.injEq, Bool.and_eq_true, decide_eq_true_eq, true_and] at h
    obtain ⟨⟨h1, h2⟩, rfl, rfl⟩ := h
    rw [unbytes_inv hb0]
    exact feed_all _ _ _ _ h1 h2
  · cases h
def nextT : List D → List Ob → Option (Bool × D × List Ob)
  | [.ptr 0 0], [.box [.x (.int .i64 m), .x (.sl B), .x (.int .i64 e)]] => (unbytes B).bind fun S => some (decide (S.length ≤ 1000000), .tup [.x (.str (nextB m S e).2.2.1), .x (.bool (nextB m S e).2.2.2)], [frO m (nextB m S e).1 (nextB m S e).2.1])
  | _, _ => none
theorem nextT_ok : ∀ args os r os', nextT args os = some (true, r, os') → MCalls Try.prog 27 args os r os' := by
  intro args os r os' h
  unfold nextT at h
  split at h
  · rename_i m B e
    obtain ⟨S, hb0, h⟩ := Option.bind_eq_some_iff.1 h
    simp only [Option.some.injEq, Prod.mk.injEq, Bool.and_eq_true, decide_eq_true_eq, true_and] at h
    obtain ⟨h1, rfl, rfl⟩ := h
    rw [unbytes_inv hb0]
    exact next_c _ _ _ h1
  · cases h
def errR : List D → List Ob → Option (Bool × D)
  | [.ptr 0 0], [.box [.x (.int .i64 m), .x (.sl B), .x (.int .i64 e)]] => (unbytes B).bind fun S => some (true, .x (.int .i64 e))
  | _, _ => none
theorem errR_ok : ∀ args os r, errR args os = some (true, r) → r.clean = true ∧ ∃ X, MCalls Try.prog 29 args os r (os ++ X) := by
  intro args os r h
  unfold errR at h
  split at h
  · rename_i m B e
    obtain ⟨S, hb0, h⟩ := Option.bind_eq_some_iff.1 h
    simp only [Option.some.injEq, Prod.mk.injEq, Bool.and_eq_true, decide_eq_true_eq, true_and] at h
    obtain rfl := h
    rw [unbytes_inv hb0]
    exact ⟨rfl, [], by rw [List.append_nil]; exact err_c m S e⟩
  · cases h
def leftR : List D → List Ob → Option (Bool × D)
  | [.ptr 0 0], [.box [.x (.int .i64 m), .x (.sl B), .x (.int .i64 e)]] => (unbytes B).bind fun S => some (true, .x (.int .i64 S.length))
  | _, _ => none
theorem leftR_ok : ∀ args os r, leftR args os = some (true, r) → r.clean = true ∧ ∃ X, MCalls Try.prog 30 args os r (os ++ X) := by
  intro args os r h
  unfold leftR at h
  split at h
  · rename_i m B e
    obtain ⟨S, hb0, h⟩ := Option.bind_eq_some_iff.1 h
    simp only [Option.some.injEq, Prod.mk.injEq, Bool.and_eq_true, decide_eq_true_eq, true_and] at h
    obtain rfl := h
    rw [unbytes_inv hb0]
    exact ⟨rfl, [], by rw [List.append_nil]; exact left_c m S e⟩
  · cases h
def feedRG : List D → Option (Bool × D)
  | [.agg [.x (.int .i64 m), .x (.str S), .x (.int .i64 e)], .x (.str s)] => some (decide (S.length ≤ 1000000) && (decide (s.length ≤ 1000000)), fD m (feedB m S e s).1 (feedB m S e s).2)
  | _ => none
theorem feedRG_ok : ∀ args r, feedRG args = some (true, r) → PCalls Try.prog 26 args r := by
  intro args r h
  unfold feedRG at h
  split at h
  · rename_i m S e s
    simp only [Option.some.injEq, Prod.mk.injEq, Bool.and_eq_true, decide_eq_true_eq, true_and] at h
    obtain ⟨⟨h1, h2⟩, rfl⟩ := h
    exact feedR_c m S e s h1 h2
  · cases h
def nextRG : List D → Option (Bool × D)
  | [.agg [.x (.int .i64 m), .x (.str S), .x (.int .i64 e)]] => some (decide (S.length ≤ 1000000) && (decide (toldE m S e = e)), .tup [fD m (nextB m S e).1 (nextB m S e).2.1, .x (.str (nextB m S e).2.2.1), .x (.bool (nextB m S e).2.2.2)])
  | _ => none
theorem nextRG_ok : ∀ args r, nextRG args = some (true, r) → PCalls Try.prog 28 args r := by
  intro args r h
  unfold nextRG at h
  split at h
  · rename_i m S e
    simp only [Option.some.injEq, Prod.mk.injEq, Bool.and_eq_true, decide_eq_true_eq, true_and] at h
    obtain ⟨⟨h1, h2⟩, rfl⟩ := h
    exact nextR_c m S e h1 h2
  · cases h
def tabFr5 : Tabs := addQ (addQ (addQ (addR (addR (addT (addT (addT (noTabs) 24 frNewT) 25 feedT) 27 nextT) 29 errR) 30 leftR) 26 feedRG) 28 nextRG) 23 awake04G
theorem tabFr5_ok : SsOk Try.prog tabFr5 := addQ_ok (addQ_ok (addQ_ok (addR_ok (addR_ok (addT_ok (addT_ok (addT_ok (noTabs_ok) (G_enters G_ok (p := i24) rfl) frNewT_ok) (G_enters G_ok (p := i25) rfl) feedT_ok) (G_enters G_ok (p := i27) rfl) nextT_ok) (G_enters G_ok (p := i29) rfl) errR_ok) (G_enters G_ok (p := i30) rfl) leftR_ok) (G_enters G_ok (p := i26) rfl) feedRG_ok) (G_enters G_ok (p := i28) rfl) nextRG_ok) (G_enters G_ok (p := i23) rfl) awake04G_ok
theorem tabFr5_q24 (a : List D) : tabFr5.q 24 a = none := rfl
theorem tabFr5_t24 (a : List D) (o : List Ob) : tabFr5.t 24 a o = liftT frNewT a o := rfl
theorem tabFr5_q25 (a : List D) : tabFr5.q 25 a = none := rfl
theorem tabFr5_t25 (a : List D) (o : List Ob) : tabFr5.t 25 a o = liftT feedT a o := rfl
theorem tabFr5_q27 (a : List D) : tabFr5.q 27 a = none := rfl
theorem tabFr5_t27 (a : List D) (o : List Ob) : tabFr5.t 27 a o = liftT nextT a o := rfl
theorem tabFr5_q29 (a : List D) : tabFr5.q 29 a = none := rfl
theorem tabFr5_t29 (a : List D) (o : List Ob) : tabFr5.t 29 a o = (readT errR a o).map fun r => (r.1, r.2, o) := rfl
theorem tabFr5_r29 (a : List D) (o : List Ob) : tabFr5.r 29 a o = readT errR a o := rfl
theorem tabFr5_q30 (a : List D) : tabFr5.q 30 a = none := rfl
theorem tabFr5_t30 (a : List D) (o : List Ob) : tabFr5.t 30 a o = (readT leftR a o).map fun r => (r.1, r.2, o) := rfl
theorem tabFr5_r30 (a : List D) (o : List Ob) : tabFr5.r 30 a o = readT leftR a o := rfl
theorem tabFr5_q26 (a : List D) : tabFr5.q 26 a = feedRG a := rfl
theorem tabFr5_q28 (a : List D) : tabFr5.q 28 a = nextRG a := rfl
theorem tabFr5_q23 (a : List D) : tabFr5.q 23 a = awake04G a := rfl
theorem tabFr5_r23 (a : List D) (o : List Ob) : tabFr5.r 23 a o = none := rfl
theorem tabFr5_r24 (a : List D) (o : List Ob) : tabFr5.r 24 a o = none := rfl
theorem tabFr5_r25 (a : List D) (o : List Ob) : tabFr5.r 25 a o = none := rfl
theorem tabFr5_r26 (a : List D) (o : List Ob) : tabFr5.r 26 a o = none := rfl
theorem tabFr5_r27 (a : List D) (o : List Ob) : tabFr5.r 27 a o = none := rfl
theorem tabFr5_r28 (a : List D) (o : List Ob) : tabFr5.r 28 a o = none := rfl
theorem tabFr5_k (f : FuncId) (a : List D) (o : List Ob) : tabFr5.k f a o = none := rfl
theorem plays_bad (m : Int) (l : List (List UInt8)) (hm : ¬ (1 ≤ m ∧ m ≤ 65536)) : PCalls Try.prog 7 [.x (.int .i64 m), .x (.sl (rows rStr l))] (.x (.bool true)) := by
  refine FCalls.pure (fcallsG (fz := true) G_ok (p := i7) rfl _ (Nat.le_of_ble_eq_true rfl) _ (fun C0 E0 => ?_)) rfl
  dsimp only [i7, argsφ]
  have uu := And.intro @frNewT.eq_1 (And.intro @frNewT.eq_2 (And.intro @feedT.eq_1 (And.intro @feedT.eq_2 (And.intro @nextT.eq_1 (And.intro @nextT.eq_2 (And.intro @errR.eq_1 (And.intro @errR.eq_2 (And.intro @leftR.eq_1 (And.intro @leftR.eq_2 (And.intro @feedRG.eq_1 (And.intro @feedRG.eq_2 (And.intro @nextRG.eq_1 (And.intro @nextRG.eq_2 (And.intro @awake04G.eq_1 (And.intro @awake04G.eq_2 (And.intro @unb_bytes (And.intro @frO.eq_1 (And.intro @fD.eq_1 (And.intro hm (And.intro @tabFr5_r23 (And.intro @tabFr5_r24 (And.intro @tabFr5_r25 (And.intro @tabFr5_r26 (And.intro @tabFr5_r27 (And.intro @tabFr5_r28 (And.intro @tabFr5_r29 (And.intro @tabFr5_r30 (And.intro @tabFr5_k (And.intro @tabFr5_q23 (And.intro @tabFr5_q24 (And.intro @tabFr5_q25 (And.intro @tabFr5_q26 (And.intro @tabFr5_q27 (And.intro @tabFr5_q28 (And.intro @tabFr5_q29 (And.intro @tabFr5_q30 (And.intro @tabFr5_t24 (And.intro @tabFr5_t25 (And.intro @tabFr5_t27 (And.intro @tabFr5_t29 (@tabFr5_t30)))))))))))))))))))))))))))))))))))))))))
  refine WI.seq ?_
  refine WI.regB tabFr5_ok [0, 1] ?_
  refine oS ?_
  refine oN ?_
  refine thenQ_normal ?_
  refine WI.seq ?_
  refine WI.seq ?_
  refine WI.regB tabFr5_ok [0, 1, 17] ?_
  refine oS ?_
  iterate 2 refine oG ?_
  refine oN ?_
  refine thenQ_normal ?_
  refine WI.cond (b := _) rfl rfl (fun h0 => ?_) (fun h0 => ?_)
  · try simp only [zB] at h0
    refine WI.seq ?_
    refine WI.regB tabFr5_ok [4] ?_
    refine oC ?_
    refine oS ?_
    refine oN ?_
    refine thenQ_normal ?_
    refine WI.ret ?_
    refine thenQ_ret ?_
    first | refine lfR ?_ | refine lfR2 ?_
    first | rfl | exact ⟨rfl, rfl⟩ | trivial -- leaf 0
  · try simp only [zB] at h0
    refine WI.skip ?_
    refine thenQ_normal ?_
    refine WI.seq ?_
    refine WI.regB tabFr5_ok [0, 1, 5, 6] ?_
    refine oS ?_
    refine oC ?_
    refine oS ?_
    iterate 2 refine oG ?_
    iterate 2 refine oS ?_
    refine oN ?_
    refine thenQ_normal ?_
    refine WI.seq ?_
    refine WI.seq ?_
    refine WI.regB tabFr5_ok [0, 1, 5, 6, 29] ?_
    refine oS ?_
    refine oG ?_
    refine oS ?_
    iterate 3 refine oG ?_
    refine oN ?_
    refine thenQ_normal ?_
    refine WI.cond (b := _) rfl rfl (fun h1 => ?_) (fun h1 => ?_)
    · try simp only [zB] at h1
      refine WI.seq ?_
      refine WI.regB tabFr5_ok [4] ?_
      refine oS ?_
      refine oG ?_
      refine oS ?_
      iterate 3 refine oG ?_
      refine oS ?_
      refine oC ?_
      refine oG ?_
      refine oS ?_
      refine oN ?_
      refine thenQ_normal ?_
      refine WI.ret ?_
      refine thenQ_ret ?_
      first | refine lfR ?_ | refine lfR2 ?_
      first | rfl | exact ⟨rfl, rfl⟩ | trivial -- leaf 1
    · exfalso
      simp at h1; omega
theorem plays_ok (m : Int) (l : List (List UInt8)) (hm : 1 ≤ m ∧ m ≤ 65536) : PCalls Try.prog 7 [.x (.int .i64 m), .x (.sl (rows rStr l))] (.x (.bool true)) := by
  refine FCalls.pure (fcallsG (fz := true) G_ok (p := i7) rfl _ (Nat.le_of_ble_eq_true rfl) _ (fun C0 E0 => ?_)) rfl
  dsimp only [i7, argsφ]
  have uu := And.intro @frNewT.eq_1 (And.intro @frNewT.eq_2 (And.intro @feedT.eq_1 (And.intro @feedT.eq_2 (And.intro @nextT.eq_1 (And.intro @nextT.eq_2 (And.intro @errR.eq_1 (And.intro @errR.eq_2 (And.intro @leftR.eq_1 (And.intro @leftR.eq_2 (And.intro @feedRG.eq_1 (And.intro @feedRG.eq_2 (And.intro @nextRG.eq_1 (And.intro @nextRG.eq_2 (And.intro @awake04G.eq_1 (And.intro @awake04G.eq_2 (And.intro @unb_bytes (And.intro @frO.eq_1 (And.intro @fD.eq_1 (And.intro hm (And.intro @tabFr5_r23 (And.intro @tabFr5_r24 (And.intro @tabFr5_r25 (And.intro @tabFr5_r26 (And.intro @tabFr5_r27 (And.intro @tabFr5_r28 (And.intro @tabFr5_r29 (And.intro @tabFr5_r30 (And.intro @tabFr5_k (And.intro @tabFr5_q23 (And.intro @tabFr5_q24 (And.intro @tabFr5_q25 (And.intro @tabFr5_q26 (And.intro @tabFr5_q27 (And.intro @tabFr5_q28 (And.intro @tabFr5_q29 (And.intro @tabFr5_q30 (And.intro @tabFr5_t24 (And.intro @tabFr5_t25 (And.intro @tabFr5_t27 (And.intro @tabFr5_t29 (@tabFr5_t30)))))))))))))))))))))))))))))))))))))))))
  refine WI.seq ?_
  refine WI.regB tabFr5_ok [0, 1] ?_
  refine oS ?_
  refine oN ?_
  refine thenQ_normal ?_
  refine WI.seq ?_
  refine WI.seq ?_
  refine WI.regB tabFr5_ok [0, 1, 17] ?_
  refine oS ?_
  iterate 2 refine oG ?_
  refine oN ?_
  refine thenQ_normal ?_
  refine WI.cond (b := _) rfl rfl (fun h0 => ?_) (fun h0 => ?_)
  · try simp only [zB] at h0
    refine WI.seq ?_
    refine WI.regB tabFr5_ok [4] ?_
    refine oC ?_
    refine oS ?_
    refine oN ?_
    refine thenQ_normal ?_
    refine WI.ret ?_
    refine thenQ_ret ?_
    first | refine lfR ?_ | refine lfR2 ?_
    first | rfl | exact ⟨rfl, rfl⟩ | trivial -- leaf 0
  · try simp only [zB] at h0
    refine WI.skip ?_
    refine thenQ_normal ?_
    refine WI.seq ?_
    refine WI.regB tabFr5_ok [0, 1, 5, 6] ?_
    refine oS ?_
    refine oC ?_
    refine oS ?_
    iterate 2 refine oG ?_
    iterate 2 refine oS ?_
    refine oN ?_
    refine thenQ_normal ?_
    refine WI.seq ?_
    refine WI.seq ?_
    refine WI.regB tabFr5_ok [0, 1, 5, 6, 29] ?_
    refine oS ?_
    refine oG ?_
    refine oS ?_
    iterate 3 refine oG ?_
    refine oN ?_
    refine thenQ_normal ?_
    refine WI.cond (b := _) rfl rfl (fun h1 => ?_) (fun h1 => ?_)
    · exfalso
      simp at h1; omega
    · try simp only [zB] at h1
      refine WI.skip ?_
      refine thenQ_normal ?_
      refine WI.seq ?_
      refine WI.seq ?_
      refine WI.regB tabFr5_ok [0, 1, 5, 44] ?_
      refine oS ?_
      refine oG ?_
      refine oS ?_
      iterate 3 refine oG ?_
      refine oN ?_
      refine thenQ_normal ?_
      refine WI.cond (b := _) rfl rfl (fun h2 => ?_) (fun h2 => ?_)
      · exfalso
        simp at h2
      · try simp only [zB] at h2
        refine WI.skip ?_
        refine thenQ_normal ?_
        refine WI.seq ?_
        refine WI.regB tabFr5_ok [1, 5, 7] ?_
        refine oS ?_
        iterate 3 refine oG ?_
        refine oN ?_
        refine thenQ_normal ?_
        refine WI.seq ?_
        refine WI.seq ?_
        refine WI.regB tabFr5_ok [1, 5, 7, 8] ?_
        refine oS ?_
        refine oN ?_
        refine thenQ_normal ?_
        refine WI.block ?_
        refine WI.nn ?_
        simp only [zV, frzL, nrmφ, nrmO, onF, D.vw, vwL, D.on, D.inP, inL, memB, D.ren, renL, inv, fpO, Ob.mp, Ob.ren, D.nn, nnφ, Nat.reduceBEq, Nat.reduceEqDiff, Nat.reduceAdd, ↓reduceIte]
        refine WI.loop (fun φ os => ∃ (i : Nat) (S : List UInt8) (e : Int), φ = [(1, .x (.sl (rows rStr l))), (5, .ptr 0 0), (7, .ptr 1 0), (8, .x (.int .i64 i))] ∧ os = [frO m S e, .box [.x (.int .i64 m), .x (.str S), .x (.int .i64 e)]] ∧ i ≤ l.length ∧ toldE m S e = e ∧ S.length ≤ 300 * i) (down l.length 8) ?_ (fun φ os hI => ?_)
        · exact ⟨0, [], 0, rfl, rfl, by omega, rfl, by simp⟩
        · obtain ⟨i, S, e, rfl, rfl, hi, ht, hb⟩ := hI
          simp only [frO]
          refine WI.seq ?_
          refine WI.seq ?_
          refine WI.regB tabFr5_ok [1, 5, 7, 8, 50] ?_
          iterate 2 refine oS ?_
          iterate 2 refine oG ?_
          refine oN ?_
          refine thenQ_normal ?_
          refine WI.cond (b := _) rfl rfl (fun h3 => ?_) (fun h3 => ?_)
          · try simp only [zB] at h3
            refine WI.skip ?_
            refine thenQ_normal ?_
            refine WI.seq ?_
            refine WI.block ?_
            refine WI.seq ?_
            refine WI.seq ?_
            refine WI.regB tabFr5_ok [1, 5, 7, 8, 58] ?_
            iterate 2 refine oS ?_
            iterate 4 refine oG ?_
            refine oN ?_
            refine thenQ_normal ?_
            refine WI.cond (b := _) rfl rfl (fun h4 => ?_) (fun h4 => ?_)
            · try simp only [zB] at h4
              refine WI.exit ?_
              refine thenQ_exit ?_
              refine blockQ_hit ?_
              refine thenQ_normal ?_
              refine WI.regB tabFr5_ok [1, 5, 7, 8] ?_
              refine oS ?_
              refine oG ?_
              refine oS ?_
              refine oN ?_
              refine thenQ_normal ?_
              exact ⟨⟨i + 1, S, e, by simp, rfl, by omega, ht, by omega⟩, by simp [down, Ab.get, D.val, intOf?]; omega⟩
            · try simp only [zB] at h4
              refine WI.skip ?_
              refine thenQ_normal ?_
              refine WI.seq ?_
              have hfl := feedB_le m S e l[i]
              have hft := feedB_told m S e l[i] ht
              refine WI.regB tabFr5_ok [1, 5, 7, 8] ?_
              iterate 3 refine oS ?_
              iterate 2 refine oG ?_
              refine oC ?_
              refine oN ?_
              refine thenQ_normal ?_
              refine WI.seq ?_
              refine WI.dregB tabFr5_ok [1, 5, 7, 8] ?_
              refine dQG ?_
              iterate 2 refine dFS ?_
              iterate 2 refine dQG ?_
              refine dAC ?_
              refine dAG ?_
              refine dN ?_
              refine thenQ_normal ?_
              refine WI.seq ?_
              refine WI.seq ?_
              refine WI.regB tabFr5_ok [1, 5, 7, 8, 9] ?_
              refine oS ?_
              refine oN ?_
              refine thenQ_normal ?_
              refine WI.block ?_
              refine WI.loop (fun φ os => ∃ (k : Nat) (S : List UInt8) (e : Int), φ = [(1, .x (.sl (rows rStr l))), (5, .ptr 0 0), (7, .ptr 1 0), (8, .x (.int .i64 i)), (9, .x (.int .i64 k))] ∧ os = [frO m S e, .box [.x (.int .i64 m), .x (.str S), .x (.int .i64 e)]] ∧ toldE m S e = e ∧ S.length ≤ 300 * (i + 1)) (down 3 9) ?_ (fun φ os hI => ?_)
              · exact ⟨0, _, _, rfl, rfl, hft, by omega⟩
              · obtain ⟨k, S, e, rfl, rfl, ht, hb⟩ := hI
                simp only [frO]
                refine WI.seq ?_
                refine WI.seq ?_
                refine WI.regB tabFr5_ok [1, 5, 7, 8, 9, 78] ?_
                iterate 3 refine oS ?_
                iterate 5 refine oG ?_
                refine oN ?_
                refine thenQ_normal ?_
                refine WI.cond (b := _) rfl rfl (fun h5 => ?_) (fun h5 => ?_)
                · try simp only [zB] at h5
                  refine WI.skip ?_
                  refine thenQ_normal ?_
                  refine WI.seq ?_
                  refine WI.block ?_
                  refine WI.seq ?_
                  have h3r := Int.tmod_lt_of_pos (l[i].length : Int) (show (0 : Int) < 3 by decide)
                  refine WI.regB tabFr5_ok [1, 5, 7, 8, 9, 10, 11] ?_
                  refine oS ?_
                  refine oC ?_
                  refine oS ?_
                  iterate 2 refine oG ?_
                  iterate 2 refine oS ?_
                  refine oN ?_
                  refine thenQ_normal ?_
                  refine WI.seq ?_
                  refine WI.regB tabFr5_ok [1, 5, 7, 8, 9, 10, 11, 12, 13, 14] ?_
                  refine oG ?_
                  refine oC ?_
                  refine oS ?_
                  iterate 5 refine oG ?_
                  iterate 2 refine oS ?_
                  refine oN ?_
                  refine thenQ_normal ?_
                  refine WI.seq ?_
                  refine WI.regB tabFr5_ok [1, 5, 7, 8, 9, 10, 11, 13, 14] ?_
                  iterate 2 refine oG ?_
                  refine oN ?_
                  refine thenQ_normal ?_
                  refine WI.seq ?_
                  refine WI.regB tabFr5_ok [1, 5, 7, 8, 9, 100] ?_
                  iterate 2 refine oS ?_
                  refine oG ?_
                  refine oS ?_
                  iterate 4 refine oG ?_
                  refine oN ?_
                  refine thenQ_normal ?_
                  refine WI.cond (b := _) rfl rfl (fun h6 => ?_) (fun h6 => ?_)
                  · exfalso
                    simp at h6
                  · try simp only [zB] at h6
                    refine WI.skip ?_
                    refine blockQ_normal ?_
                    refine thenQ_normal ?_
                    refine WI.pick [0, 1] rfl ?_
                    simp (disch := decide) only [zV, frzL, nrmφ, nrmO, onF, D.vw, vwL, D.on, D.inP, inL, memB, D.ren, renL, inv, fpO, Ob.mp, Ob.ren, D.nn, nnφ, Nat.reduceBEq, Nat.reduceEqDiff, Nat.reduceAdd, ↓reduceIte]
                    refine WI.regB tabFr5_ok [1, 5, 7, 8, 9] ?_
                    refine oS ?_
                    refine oG ?_
                    refine oS ?_
                    refine oN ?_
                    refine thenQ_normal ?_
                    exact ⟨⟨k + 1, (nextB m S e).1, (nextB m S e).2.1, by simp, rfl, nextB_told m S e ht, Nat.le_trans (nextB_le m S e) hb⟩, by simp [down, Ab.get, D.val, intOf?]; omega⟩
                · try simp only [zB] at h5
                  refine WI.exit ?_
                  refine thenQ_exit ?_
                  refine thenQ_exit ?_
                  refine blockQ_hit ?_
                  refine thenQ_normal ?_
                  refine WI.seq ?_
                  refine WI.dregB tabFr5_ok [1, 5, 7, 8, 113] ?_
                  refine dFS ?_
                  refine dQC ?_
                  refine dFS ?_
                  refine dQG ?_
                  refine dFG ?_
                  refine dFS ?_
                  refine dFG ?_
                  refine dQC ?_
                  refine dFG ?_
                  refine dQG ?_
                  iterate 3 refine dFG ?_
                  refine dN ?_
                  refine thenQ_normal ?_
                  refine WI.cond (b := _) rfl rfl (fun h7 => ?_) (fun h7 => ?_)
                  · exfalso
                    simp at h7
                  · try simp only [zB] at h7
                    refine WI.skip ?_
                    refine blockQ_normal ?_
                    refine thenQ_normal ?_
                    refine WI.regB tabFr5_ok [1, 5, 7, 8] ?_
                    refine oS ?_
                    refine oG ?_
                    refine oS ?_
                    refine oN ?_
                    refine thenQ_normal ?_
                    exact ⟨⟨i + 1, S, e, by simp, rfl, by omega, ht, by omega⟩, by simp [down, Ab.get, D.val, intOf?]; omega⟩
          · try simp only [zB] at h3
            refine WI.exit ?_
            refine thenQ_exit ?_
            refine thenQ_exit ?_
            refine blockQ_hit ?_
            refine thenQ_normal ?_
            refine WI.seq ?_
            refine WI.regB tabFr5_ok [4] ?_
            refine oC ?_
            refine oS ?_
            refine oN ?_
            refine thenQ_normal ?_
            refine WI.ret ?_
            first | refine lfR ?_ | refine lfR2 ?_
            first | rfl | exact ⟨rfl, rfl⟩ | trivial -- leaf 1
end Go.Proofs.Ytogmbfaijmhamaa
