/- Tree: the document's Parts; the laws. -/
import Derived.Test.YtogmbfaijmhamaaTr3
set_option linter.unusedSimpArgs false
set_option linter.unusedVariables false
namespace Go.Proofs.Ytogmbfaijmhamaa
open Go.RowKit Go.Bo Go.Ab

def tabTr9 : Tabs := addQ (addQ (noTabs) 19 readRG) 21 allRG
theorem tabTr9_ok : SsOk Try.prog tabTr9 := addQ_ok (addQ_ok (noTabs_ok) (G_enters G_ok (p := i19) rfl) readRG_ok) (G_enters G_ok (p := i21) rfl) allRG_ok
theorem tabTr9_q19 (a : List D) : tabTr9.q 19 a = readRG a := rfl
theorem tabTr9_q21 (a : List D) : tabTr9.q 21 a = allRG a := rfl
theorem tabTr9_r (f : FuncId) (a : List D) (o : List Ob) : tabTr9.r f a o = none := rfl
theorem tabTr9_k (f : FuncId) (a : List D) (o : List Ob) : tabTr9.k f a o = none := rfl
theorem partsR_c (s : List UInt8) (tags : List Int) (hs : s.length ≤ 9223372036854775807) : PCalls Try.prog 40 [.x (.str s), .x (.sl (rows (rInt .i64) tags))] (.tup [.x (.sl (rows rStr (prtB s tags).1)), .x (.int .i64 (prtB s tags).2)]) := by
  refine PCalls.wf (fun hw => ?_)
  have hb : tags.length ≤ maxLen := by have := (hw _ (List.mem_cons_of_mem _ List.mem_cons_self)).1; rwa [rows_len] at this
  clear hw
  simp only [maxLen] at hb
  have hr := readB_okT s
  have hr2 := readB_ok s
  have ha := allB_okT (readB s).1.2.1
  refine FCalls.pure (fcallsG (fz := true) G_ok (p := i40) rfl _ (Nat.le_of_ble_eq_true rfl) _ (fun C0 E0 => ?_)) rfl
  dsimp only [i40, argsφ]
  have uu := And.intro @readRG.eq_1 (And.intro @readRG.eq_2 (And.intro @readD.eq_1 (And.intro @allRG.eq_1 (And.intro @allRG.eq_2 (And.intro @tabTr9_r (And.intro @tabTr9_k (And.intro @tabTr9_q19 (@tabTr9_q21))))))))
  refine WI.seq ?_
  refine WI.regB tabTr9_ok [0, 1] ?_
  iterate 2 refine oS ?_
  refine oN ?_
  refine thenQ_normal ?_
  refine WI.seq ?_
  refine WI.regB tabTr9_ok [0, 1, 6, 7, 8] ?_
  refine oS ?_
  refine oC ?_
  refine oS ?_
  iterate 5 refine oG ?_
  iterate 2 refine oS ?_
  refine oN ?_
  refine thenQ_normal ?_
  refine WI.seq ?_
  refine WI.block ?_
  refine WI.seq ?_
  refine WI.regB tabTr9_ok [0, 1, 6, 7, 8, 18] ?_
  refine oS ?_
  refine oG ?_
  refine oS ?_
  refine oN ?_
  refine thenQ_normal ?_
  refine WI.cond (b := _) rfl rfl (fun h0 => ?_) (fun h0 => ?_)
  · try simp only [zB] at h0
    refine WI.seq ?_
    refine WI.regB tabTr9_ok [4, 5] ?_
    iterate 3 refine oS ?_
    refine oN ?_
    refine thenQ_normal ?_
    refine WI.nnA ?_
    refine WI.ret ?_
    refine blockQ_ret ?_
    refine thenQ_ret ?_
    first | refine lfR ?_ | refine lfR2 ?_
    simp [prtB, h0, rows] -- leaf 0
  · try simp only [zB] at h0
    refine WI.seq ?_
    refine WI.regB tabTr9_ok [0, 1, 6, 7, 22] ?_
    refine oS ?_
    iterate 2 refine oG ?_
    refine oS ?_
    refine oN ?_
    refine thenQ_normal ?_
    refine WI.cond (b := _) rfl rfl (fun h1 => ?_) (fun h1 => ?_)
    · try simp only [zB] at h1
      refine WI.seq ?_
      refine WI.regB tabTr9_ok [4, 5] ?_
      iterate 2 refine oS ?_
      refine oN ?_
      refine thenQ_normal ?_
      refine WI.nnA ?_
      refine WI.ret ?_
      refine blockQ_ret ?_
      refine thenQ_ret ?_
      first | refine lfR ?_ | refine lfR2 ?_
      simp [prtB, h0, h1, rows] -- leaf 1
    · try simp only [zB] at h1
      refine WI.seq ?_
      refine WI.regB tabTr9_ok [1, 6, 26] ?_
      iterate 2 refine oS ?_
      iterate 2 refine oG ?_
      refine oS ?_
      refine oN ?_
      refine thenQ_normal ?_
      refine WI.cond (b := _) rfl rfl (fun h2 => ?_) (fun h2 => ?_)
      · try simp only [zB] at h2
        refine WI.seq ?_
        refine WI.regB tabTr9_ok [4, 5] ?_
        iterate 2 refine oS ?_
        refine oN ?_
        refine thenQ_normal ?_
        refine WI.nnA ?_
        refine WI.ret ?_
        refine blockQ_ret ?_
        refine thenQ_ret ?_
        first | refine lfR ?_ | refine lfR2 ?_
        simp [prtB, h0, h1, rows, show (readB s).2.1 < s.length by omega] -- leaf 2
      · try simp only [zB] at h2
        refine WI.skip ?_
        refine blockQ_normal ?_
        refine thenQ_normal ?_
        refine WI.seq ?_
        refine WI.regB tabTr9_ok [1, 8, 9] ?_
        refine oS ?_
        refine oG ?_
        refine oC ?_
        refine oS ?_
        iterate 2 refine oG ?_
        iterate 2 refine oS ?_
        refine oN ?_
        refine thenQ_normal ?_
        refine WI.seq ?_
        refine WI.seq ?_
        refine WI.regB tabTr9_ok [1, 8, 9, 38] ?_
        refine oS ?_
        refine oG ?_
        refine oN ?_
        refine thenQ_normal ?_
        refine WI.cond (b := _) rfl rfl (fun h3 => ?_) (fun h3 => ?_)
        · try simp only [zB] at h3
          refine WI.seq ?_
          refine WI.regB tabTr9_ok [4, 5] ?_
          iterate 3 refine oS ?_
          refine oN ?_
          refine thenQ_normal ?_
          refine WI.nnA ?_
          refine WI.ret ?_
          refine thenQ_ret ?_
          first | refine lfR ?_ | refine lfR2 ?_
          simp [prtB, h0, h1, h3, rows, show ¬ (readB s).2.1 < s.length by omega] -- leaf 3
        · try simp only [zB] at h3
          refine WI.skip ?_
          refine thenQ_normal ?_
          refine WI.seq ?_
          refine WI.seq ?_
          refine WI.regB tabTr9_ok [1, 9, 44] ?_
          refine oS ?_
          refine oG ?_
          refine oS ?_
          iterate 2 refine oG ?_
          refine oN ?_
          refine thenQ_normal ?_
          refine WI.cond (b := _) rfl rfl (fun h4 => ?_) (fun h4 => ?_)
          · try simp only [zB] at h4
            refine WI.seq ?_
            refine WI.regB tabTr9_ok [4, 5] ?_
            iterate 2 refine oS ?_
            refine oN ?_
            refine thenQ_normal ?_
            refine WI.nnA ?_
            refine WI.ret ?_
            refine thenQ_ret ?_
            first | refine lfR ?_ | refine lfR2 ?_
            simp [prtB, h0, h1, h3, rows, show ¬ (readB s).2.1 < s.length by omega, show ¬ (allB (readB s).1.2.1).1.length = tags.length by omega] -- leaf 4
          · try simp only [zB] at h4
            refine WI.skip ?_
            refine thenQ_normal ?_
            refine WI.seq ?_
            refine WI.regB tabTr9_ok [1, 9, 10] ?_
            refine oS ?_
            refine oN ?_
            refine thenQ_normal ?_
            refine WI.seq ?_
            refine WI.seq ?_
            refine WI.regB tabTr9_ok [1, 9, 10, 11] ?_
            refine oS ?_
            refine oN ?_
            refine thenQ_normal ?_
            refine WI.block ?_
            refine WI.ownA 10 9 1 ?_
            refine WI.loop (fun φ os => ∃ (j : Nat) (out : List (List UInt8)), φ = [(1, .x (.sl (rows (rInt .i64) tags))), (9, .x (.sl (rows rTlv (allB (readB s).1.2.1).1))), (10, .ref 1 out.length 0 out.length), (11, .x (.int .i64 j))] ∧ os = [.box [.x (.int .i64 (readB s).1.1), .x (.str (readB s).1.2.1)], .rows false 9 1 (rows rStr out)] ∧ j ≤ (allB (readB s).1.2.1).1.length ∧ out.length = j ∧ prt ((allB (readB s).1.2.1).1.drop j) (tags.drop j) out = prt (allB (readB s).1.2.1).1 tags []) (down (allB (readB s).1.2.1).1.length 11) ?_ (fun φ os hI => ?_)
            · exact ⟨0, [], rfl, rfl, by omega, rfl, rfl⟩
            · obtain ⟨j, out, rfl, rfl, hj, ho, hp⟩ := hI
              refine WI.seq ?_
              refine WI.seq ?_
              refine WI.regB tabTr9_ok [1, 9, 10, 11, 48] ?_
              iterate 2 refine oS ?_
              iterate 2 refine oG ?_
              refine oN ?_
              refine thenQ_normal ?_
              refine WI.cond (b := _) rfl rfl (fun h5 => ?_) (fun h5 => ?_)
              · try simp only [zB] at h5
                refine WI.skip ?_
                refine thenQ_normal ?_
                refine WI.seq ?_
                refine WI.block ?_
                refine WI.seq ?_
                refine WI.seq ?_
                have hj16 : j < (allB (readB s).1.2.1).1.length := by simpa using h5
                have hj16' : j < tags.length := by omega
                have hb2 : prtB s tags = prt (allB (readB s).1.2.1).1 tags [] := by rw [prtB, if_pos h0, if_pos h1, if_neg (by omega), if_pos h3, if_pos (by omega)]
                refine WI.dregB tabTr9_ok [1, 9, 10, 11, 60] ?_
                iterate 2 refine dFS ?_
                refine dQG ?_
                refine dFS ?_
                refine dQG ?_
                iterate 2 refine dFS ?_
                iterate 2 refine dQG ?_
                refine dFG ?_
                refine dN ?_
                refine thenQ_normal ?_
                refine WI.cond (b := _) rfl rfl (fun h6 => ?_) (fun h6 => ?_)
                · try simp only [zB] at h6
                  refine WI.seq ?_
                  refine WI.regB tabTr9_ok [4, 5] ?_
                  iterate 2 refine oS ?_
                  refine oN ?_
                  refine thenQ_normal ?_
                  refine WI.nnA ?_
                  refine WI.ret ?_
                  refine thenQ_ret ?_
                  refine blockQ_ret ?_
                  refine thenQ_ret ?_
                  refine thenQ_ret ?_
                  refine blockQ_ret ?_
                  refine thenQ_ret ?_
                  first | refine lfR ?_ | refine lfR2 ?_
                  rw [hb2, ← hp, prt_step _ _ _ _ hj16 hj16', if_neg (by simpa using h6)]; rfl -- leaf 5
                · try simp only [zB] at h6
                  refine WI.skip ?_
                  refine thenQ_normal ?_
                  refine WI.regB tabTr9_ok [1, 9, 10, 11] ?_
                  iterate 3 refine oS ?_
                  refine oG ?_
                  refine oS ?_
                  iterate 3 refine oG ?_
                  refine oS ?_
                  refine oN ?_
                  refine blockQ_normal ?_
                  refine thenQ_normal ?_
                  refine WI.post ?_
                  refine WI.regB tabTr9_ok [1, 9, 10, 11] ?_
                  refine oS ?_
                  refine oG ?_
                  refine oS ?_
                  refine oP ?_
                  refine pPick [0, 1] ?_
                  refine pEnd ?_
                  refine thenQ_normal ?_
                  exact ⟨⟨j + 1, out ++ [_], by simp, by rw [← rows_str], hj16, by simp; omega, by rw [← hp, prt_step _ _ _ _ hj16 hj16', if_pos (by simpa using h6)]⟩, by simp [down, Ab.get, D.val, intOf?]; omega⟩
              · try simp only [zB] at h5
                refine WI.exit ?_
                refine thenQ_exit ?_
                refine thenQ_exit ?_
                refine blockQ_hit ?_
                refine thenQ_normal ?_
                refine WI.seq ?_
                refine WI.regB tabTr9_ok [4, 5] ?_
                iterate 3 refine oS ?_
                refine oN ?_
                refine thenQ_normal ?_
                refine WI.nnA ?_
                refine WI.ret ?_
                first | refine lfR ?_ | refine lfR2 ?_
                have hb2 : prtB s tags = prt (allB (readB s).1.2.1).1 tags [] := by rw [prtB, if_pos h0, if_pos h1, if_neg (by omega), if_pos h3, if_pos (by omega)]
                rw [hb2, ← hp, List.drop_of_length_le (by omega), List.drop_of_length_le (by omega)]; rfl -- leaf 6
abbrev rI64 : RC Int := rInt .i64
theorem good_rI64 : rI64.Good := good_rInt .i64
def tpartsG : List D → Option (Bool × D)
  | [.x (.str s), .x (.sl T)] => (unrows rI64 T).bind fun t => some (decide (s.length ≤ 9223372036854775807), .tup [.x (.sl (rows rStr (prtB s t).1)), .x (.int .i64 (prtB s t).2)])
  | _ => none
theorem tpartsG_ok : ∀ args r, tpartsG args = some (true, r) → PCalls Try.prog 39 args r := by
  intro args r h
  unfold tpartsG at h
  split at h
  · rename_i s T
    obtain ⟨t, hr0, h⟩ := Option.bind_eq_some_iff.1 h
    simp only [Option.some.injEq, Prod.mk.injEq, Bool.and_eq_true, decide_eq_true_eq, true_and] at h
    obtain ⟨h1, rfl⟩ := h
    rw [← rows_unrows good_rI64 hr0]
    exact parts_c s t h1
  · cases h
def rpartsG : List D → Option (Bool × D)
  | [.x (.str s), .x (.sl T)] => (unrows rI64 T).bind fun t => some (decide (s.length ≤ 9223372036854775807), .tup [.x (.sl (rows rStr (prtB s t).1)), .x (.int .i64 (prtB s t).2)])
  | _ => none
theorem rpartsG_ok : ∀ args r, rpartsG args = some (true, r) → PCalls Try.prog 40 args r := by
  intro args r h
  unfold rpartsG at h
  split at h
  · rename_i s T
    obtain ⟨t, hr0, h⟩ := Option.bind_eq_some_iff.1 h
    simp only [Option.some.injEq, Prod.mk.injEq, Bool.and_eq_true, decide_eq_true_eq, true_and] at h
    obtain ⟨h1, rfl⟩ := h
    rw [← rows_unrows good_rI64 hr0]
    exact partsR_c s t h1
  · cases h
def tabTr10 : Tabs := addQ (addQ (addQ (addQ (addQ (addQ (addQ (addT (addQ (addT (addQ (noTabs) 37 (viaNN tseqG)) 37 (frzT (viaNN tseqG))) 39 (viaNN tpartsG)) 39 (frzT (viaNN tpartsG))) 33 tCheckG) 35 depthG) 41 (viaNN textsG)) 38 rseqG) 40 rpartsG) 34 rcheckG) 36 depthRG
theorem tabTr10_ok : SsOk Try.prog tabTr10 := addQ_ok (addQ_ok (addQ_ok (addQ_ok (addQ_ok (addQ_ok (addQ_ok (addT_ok (addQ_ok (addT_ok (addQ_ok (noTabs_ok) (G_enters G_ok (p := i37) rfl) (viaNN_ok tseqG_ok)) (G_enters G_ok (p := i37) rfl) (frzT_ok (viaNN_ok tseqG_ok))) (G_enters G_ok (p := i39) rfl) (viaNN_ok tpartsG_ok)) (G_enters G_ok (p := i39) rfl) (frzT_ok (viaNN_ok tpartsG_ok))) (G_enters G_ok (p := i33) rfl) tCheckG_ok) (G_enters G_ok (p := i35) rfl) depthG_ok) (G_enters G_ok (p := i41) rfl) (viaNN_ok textsG_ok)) (G_enters G_ok (p := i38) rfl) rseqG_ok) (G_enters G_ok (p := i40) rfl) rpartsG_ok) (G_enters G_ok (p := i34) rfl) rcheckG_ok) (G_enters G_ok (p := i36) rfl) depthRG_ok
theorem tabTr10_q37 (a : List D) : tabTr10.q 37 a = viaNN tseqG a := rfl
theorem tabTr10_t37 (a : List D) (o : List Ob) : tabTr10.t 37 a o = liftT (frzT (viaNN tseqG)) a o := rfl
theorem tabTr10_q39 (a : List D) : tabTr10.q 39 a = viaNN tpartsG a := rfl
theorem tabTr10_t39 (a : List D) (o : List Ob) : tabTr10.t 39 a o = liftT (frzT (viaNN tpartsG)) a o := rfl
theorem tabTr10_q33 (a : List D) : tabTr10.q 33 a = tCheckG a := rfl
theorem tabTr10_q35 (a : List D) : tabTr10.q 35 a = depthG a := rfl
theorem tabTr10_q41 (a : List D) : tabTr10.q 41 a = viaNN textsG a := rfl
theorem tabTr10_q38 (a : List D) : tabTr10.q 38 a = rseqG a := rfl
theorem tabTr10_q40 (a : List D) : tabTr10.q 40 a = rpartsG a := rfl
theorem tabTr10_q34 (a : List D) : tabTr10.q 34 a = rcheckG a := rfl
theorem tabTr10_q36 (a : List D) : tabTr10.q 36 a = depthRG a := rfl
theorem tabTr10_r (f : FuncId) (a : List D) (o : List Ob) : tabTr10.r f a o = none := rfl
theorem tabTr10_k (f : FuncId) (a : List D) (o : List Ob) : tabTr10.k f a o = none := rfl
/-- The parts of chapter 3's example. -/
theorem s3a : seqB [[4, 1, 97], [2, 1, 5]] = ([48, 6, 4, 1, 97, 2, 1, 5], 0) := by kernel_rfl
theorem s3b : prtB [48, 6, 4, 1, 97, 2, 1, 5] [4, 2] = ([[97], [5]], 0) := by kernel_rfl
theorem s3c : prtB [48, 6, 4, 1, 97, 2, 1, 5] [4] = ([], 5) := by kernel_rfl
theorem s3d : prtB [48, 6, 4, 1, 97, 2, 1, 5] [4, 4] = ([], 6) := by kernel_rfl
theorem s3e : seqB [] = ([48, 0], 0) := by kernel_rfl
theorem s3f : depB [48, 0] = 1 := by kernel_rfl
theorem s3g : depB [48, 6, 4, 1, 97, 2, 1, 5] = 2 := by kernel_rfl
theorem s3h : chkS 1 [48, 6, 4, 1, 97, 2, 1, 5] = 7 := by kernel_rfl
theorem s3i : chkS 2 [48, 6, 4, 1, 97, 2, 1, 5] = 0 := by kernel_rfl
theorem s3u : unrows rStr [[.str [4, 1, 97]], [.str [2, 1, 5]]] = some [[4, 1, 97], [2, 1, 5]] := rfl
theorem s3v : unrows rStr [] = some [] := rfl
theorem s3w : unrows rI64 [[.int .i64 4], [.int .i64 2]] = some [4, 2] := rfl
theorem s3x : unrows rI64 [[.int .i64 4]] = some [4] := rfl
theorem s3y : unrows rI64 [[.int .i64 4], [.int .i64 4]] = some [4, 4] := rfl
theorem s3z : unrows rStr [[.str [97]], [.str [5]]] = some [[97], [5]] := rfl
theorem awake03_c : PCalls Try.prog 32 [] (.x (.bool true)) := by
  refine FCalls.pure (fcallsG (fz := true) G_ok (p := i32) rfl _ (Nat.le_of_ble_eq_true rfl) _ (fun C0 E0 => ?_)) rfl
  dsimp only [i32, argsφ]
  have uu := And.intro @tseqG.eq_1 (And.intro @tseqG.eq_2 (And.intro @un_str (And.intro @tpartsG.eq_1 (And.intro @tpartsG.eq_2 (And.intro @un_i64 (And.intro @depthG.eq_1 (And.intro @depthG.eq_2 (And.intro @tCheckG.eq_1 (And.intro @tCheckG.eq_2 (And.intro @textsG.eq_1 (And.intro @textsG.eq_2 (And.intro @s3a (And.intro @s3b (And.intro @s3c (And.intro @s3d (And.intro @s3e (And.intro @s3f (And.intro @s3g (And.intro @s3h (And.intro @s3i (And.intro @s3u (And.intro @s3v (And.intro @s3w (And.intro @s3x (And.intro @s3y (And.intro @s3z (And.intro @tabTr10_r (And.intro @tabTr10_k (And.intro @tabTr10_q33 (And.intro @tabTr10_q34 (And.intro @tabTr10_q35 (And.intro @tabTr10_q36 (And.intro @tabTr10_q37 (And.intro @tabTr10_q38 (And.intro @tabTr10_q39 (And.intro @tabTr10_q40 (And.intro @tabTr10_q41 (And.intro @tabTr10_t37 (And.intro @tabTr10_t39 (And.intro @depthRG.eq_1 (And.intro @depthRG.eq_2 (And.intro @frzT.eq_1 (And.intro @rcheckG.eq_1 (And.intro @rcheckG.eq_2 (And.intro @rpartsG.eq_1 (And.intro @rpartsG.eq_2 (And.intro @rseqG.eq_1 (@rseqG.eq_2))))))))))))))))))))))))))))))))))))))))))))))))
  refine WI.seq ?_
  refine WI.regB tabTr10_ok [] ?_
  refine oS ?_
  refine oN ?_
  refine thenQ_normal ?_
  refine WI.seq ?_
  refine WI.regB tabTr10_ok [1, 2] ?_
  refine oG ?_
  refine oC ?_
  refine oS ?_
  iterate 2 refine oG ?_
  iterate 2 refine oS ?_
  refine oN ?_
  refine thenQ_normal ?_
  refine WI.seq ?_
  refine WI.regB tabTr10_ok [1, 2, 3, 4] ?_
  refine oS ?_
  refine oG ?_
  refine oC ?_
  refine oS ?_
  iterate 2 refine oG ?_
  iterate 2 refine oS ?_
  refine oN ?_
  refine thenQ_normal ?_
  refine WI.seq ?_
  refine WI.regB tabTr10_ok [1, 2, 3, 4, 6] ?_
  refine oS ?_
  refine oG ?_
  refine oC ?_
  refine oS ?_
  iterate 2 refine oG ?_
  iterate 2 refine oS ?_
  refine oN ?_
  refine thenQ_normal ?_
  refine WI.seq ?_
  refine WI.regB tabTr10_ok [1, 2, 3, 4, 6, 8] ?_
  refine oS ?_
  refine oG ?_
  refine oC ?_
  refine oS ?_
  iterate 2 refine oG ?_
  iterate 2 refine oS ?_
  refine oN ?_
  refine thenQ_normal ?_
  refine WI.seq ?_
  refine WI.regB tabTr10_ok [1, 2, 3, 4, 6, 8, 9] ?_
  refine oC ?_
  refine oS ?_
  iterate 2 refine oG ?_
  iterate 2 refine oS ?_
  refine oN ?_
  refine thenQ_normal ?_
  refine WI.seq ?_
  refine WI.regB tabTr10_ok [0] ?_
  refine oS ?_
  refine oG ?_
  refine oS ?_
  iterate 3 refine oG ?_
  refine oS ?_
  iterate 2 refine oG ?_
  refine oC ?_
  refine oG ?_
  refine oS ?_
  iterate 3 refine oG ?_
  refine oS ?_
  iterate 3 refine oG ?_
  refine oS ?_
  iterate 3 refine oG ?_
  refine oS ?_
  refine oG ?_
  refine oC ?_
  iterate 2 refine oG ?_
  refine oS ?_
  refine oG ?_
  refine oC ?_
  iterate 2 refine oG ?_
  refine oS ?_
  refine oG ?_
  refine oC ?_
  iterate 2 refine oG ?_
  refine oS ?_
  refine oG ?_
  refine oC ?_
  iterate 2 refine oG ?_
  refine oS ?_
  refine oN ?_
  refine thenQ_normal ?_
  refine WI.ret ?_
  first | refine lfR ?_ | refine lfR2 ?_
  first | rfl | exact ⟨rfl, rfl⟩ | trivial -- leaf 0
end Go.Proofs.Ytogmbfaijmhamaa
