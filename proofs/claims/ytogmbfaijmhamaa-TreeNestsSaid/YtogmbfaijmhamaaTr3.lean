/- Tree: Seq, Parts. -/
import Derived.Test.YtogmbfaijmhamaaTr2
import Derived.Test.YtogmbfaijmhamaaJoin
import Derived.Test.YtogmbfaijmhamaaTexts
set_option linter.unusedSimpArgs false
set_option linter.unusedVariables false
namespace Go.Proofs.Ytogmbfaijmhamaa
open Go.RowKit Go.Bo Go.Ab

theorem un_str (l : List (List UInt8)) : unrows rStr (rows rStr l) = some l := unrows_rows good_rStr l
theorem un_i64 (l : List Int) : unrows (rInt .i64) (rows (rInt .i64) l) = some l := unrows_rows (good_rInt .i64) l
def joinG : List D → Option (Bool × D)
  | [.x (.sl L), .x (.str sep)] => (unrows rStr L).bind fun l => some (decide ((Lib.join l sep).length ≤ 140737488355328) && (decide (l.length ≤ 140737488355328)), .x (.str (Lib.join l sep)))
  | _ => none
theorem joinG_ok : ∀ args r, joinG args = some (true, r) → PCalls Try.prog 51 args r := by
  intro args r h
  unfold joinG at h
  split at h
  · rename_i L sep
    obtain ⟨l, hr0, h⟩ := Option.bind_eq_some_iff.1 h
    simp only [Option.some.injEq, Prod.mk.injEq, Bool.and_eq_true, decide_eq_true_eq, true_and] at h
    obtain ⟨⟨h1, h2⟩, rfl⟩ := h
    rw [← rows_unrows good_rStr hr0]
    exact join_c l sep h1 h2
  · cases h
def seqB (l : List (List UInt8)) : List UInt8 × Int := putB 48 l.flatten
def tabTr6 : Tabs := addQ (addQ (noTabs) 51 joinG) 14 putG
theorem tabTr6_ok : SsOk Try.prog tabTr6 := addQ_ok (addQ_ok (noTabs_ok) join_enters joinG_ok) (G_enters G_ok (p := i14) rfl) putG_ok
theorem tabTr6_q51 (a : List D) : tabTr6.q 51 a = joinG a := rfl
theorem tabTr6_q14 (a : List D) : tabTr6.q 14 a = putG a := rfl
theorem tabTr6_r (f : FuncId) (a : List D) (o : List Ob) : tabTr6.r f a o = none := rfl
theorem tabTr6_k (f : FuncId) (a : List D) (o : List Ob) : tabTr6.k f a o = none := rfl
theorem seq_c (l : List (List UInt8)) (h : l.flatten.length ≤ 140737488355328) (hl : l.length ≤ 140737488355328) : PCalls Try.prog 37 [.x (.sl (rows rStr l))] (.tup [.x (.str (seqB l).1), .x (.int .i64 (seqB l).2)]) := by
  have hj := join_flat l
  refine FCalls.pure (fcallsG (fz := true) G_ok (p := i37) rfl _ (Nat.le_of_ble_eq_true rfl) _ (fun C0 E0 => ?_)) rfl
  dsimp only [i37, argsφ]
  have uu := And.intro @joinG.eq_1 (And.intro @joinG.eq_2 (And.intro @un_str (And.intro @putG.eq_1 (And.intro @putG.eq_2 (And.intro hj (And.intro @tabTr6_r (And.intro @tabTr6_k (And.intro @tabTr6_q14 (@tabTr6_q51)))))))))
  refine WI.seq ?_
  refine WI.regB tabTr6_ok [0] ?_
  iterate 2 refine oS ?_
  refine oN ?_
  refine thenQ_normal ?_
  refine WI.seq ?_
  refine WI.regB tabTr6_ok [2, 3] ?_
  refine oS ?_
  iterate 2 refine oC (hok := by first | with_reducible rfl | omega | (simp only [Bool.and_eq_true, decide_eq_true_eq]; omega) | (simp; done) | (simp; omega) | rfl) ?_
  iterate 2 refine oG (hok := by first | with_reducible rfl | omega | (simp only [Bool.and_eq_true, decide_eq_true_eq]; omega) | (simp; done) | (simp; omega) | rfl) ?_
  iterate 2 refine oS ?_
  refine oN ?_
  refine thenQ_normal ?_
  refine WI.ret ?_
  first | refine lfR ?_ | refine lfR2 ?_
  rfl -- leaf 0
def tseqG : List D → Option (Bool × D)
  | [.x (.sl L)] => (unrows rStr L).bind fun l => some (decide (l.flatten.length ≤ 140737488355328) && (decide (l.length ≤ 140737488355328)), .tup [.x (.str (seqB l).1), .x (.int .i64 (seqB l).2)])
  | _ => none
theorem tseqG_ok : ∀ args r, tseqG args = some (true, r) → PCalls Try.prog 37 args r := by
  intro args r h
  unfold tseqG at h
  split at h
  · rename_i L
    obtain ⟨l, hr0, h⟩ := Option.bind_eq_some_iff.1 h
    simp only [Option.some.injEq, Prod.mk.injEq, Bool.and_eq_true, decide_eq_true_eq, true_and] at h
    obtain ⟨⟨h1, h2⟩, rfl⟩ := h
    rw [← rows_unrows good_rStr hr0]
    exact seq_c l h1 h2
  · cases h
def tabTr7 : Tabs := addQ (noTabs) 15 putRG
theorem tabTr7_ok : SsOk Try.prog tabTr7 := addQ_ok (noTabs_ok) (G_enters G_ok (p := i15) rfl) putRG_ok
theorem tabTr7_q15 (a : List D) : tabTr7.q 15 a = putRG a := rfl
theorem tabTr7_r (f : FuncId) (a : List D) (o : List Ob) : tabTr7.r f a o = none := rfl
theorem tabTr7_k (f : FuncId) (a : List D) (o : List Ob) : tabTr7.k f a o = none := rfl
theorem flat_take (l : List (List UInt8)) (j : Nat) (h : j < l.length) : (l.take j).flatten ++ l[j] = (l.take (j + 1)).flatten := by
  rw [← List.take_append_getElem h, List.flatten_append]; simp
theorem flat_le (l : List (List UInt8)) (j : Nat) : (l.take j).flatten.length ≤ l.flatten.length := by
  conv => rhs; rw [← List.take_append_drop j l, List.flatten_append, List.length_append]
  omega
theorem seqR_c (l : List (List UInt8)) (h : l.flatten.length ≤ 140737488355328) (hl : l.length ≤ 140737488355328) : PCalls Try.prog 38 [.x (.sl (rows rStr l))] (.tup [.x (.str (seqB l).1), .x (.int .i64 (seqB l).2)]) := by
  refine FCalls.pure (fcallsG (fz := true) G_ok (p := i38) rfl _ (Nat.le_of_ble_eq_true rfl) _ (fun C0 E0 => ?_)) rfl
  dsimp only [i38, argsφ]
  have uu := And.intro @putRG.eq_1 (And.intro @putRG.eq_2 (And.intro @tabTr7_r (And.intro @tabTr7_k (@tabTr7_q15))))
  refine WI.seq ?_
  refine WI.regB tabTr7_ok [0] ?_
  iterate 2 refine oS ?_
  refine oN ?_
  refine thenQ_normal ?_
  refine WI.seq ?_
  refine WI.regB tabTr7_ok [0, 4] ?_
  refine oS ?_
  refine oN ?_
  refine thenQ_normal ?_
  refine WI.seq ?_
  refine WI.seq ?_
  refine WI.regB tabTr7_ok [0, 4, 5] ?_
  refine oS ?_
  refine oN ?_
  refine thenQ_normal ?_
  refine WI.block ?_
  refine WI.loop (fun φ os => ∃ (j : Nat), φ = [(0, .x (.sl (rows rStr l))), (4, .x (.str (l.take j).flatten)), (5, .x (.int .i64 j))] ∧ os = [] ∧ j ≤ l.length) (down l.length 5) ?_ (fun φ os hI => ?_)
  · exact ⟨0, rfl, rfl, by omega⟩
  · obtain ⟨j, rfl, rfl, hj⟩ := hI
    refine WI.seq ?_
    refine WI.seq ?_
    refine WI.regB tabTr7_ok [0, 4, 5, 9] ?_
    iterate 2 refine oS ?_
    iterate 2 refine oG (hok := by first | with_reducible rfl | omega | (simp only [Bool.and_eq_true, decide_eq_true_eq]; omega) | (simp; done) | (simp; omega) | rfl) ?_
    refine oN ?_
    refine thenQ_normal ?_
    refine WI.cond (b := _) rfl rfl (fun h0 => ?_) (fun h0 => ?_)
    · try simp only [zB] at h0
      refine WI.skip ?_
      refine thenQ_normal ?_
      refine WI.seq ?_
      refine WI.block ?_
      have hj4 : j < l.length := by simpa using h0
      have hf := flat_le l (j + 1)
      rw [← flat_take l j hj4, List.length_append] at hf
      refine WI.regB tabTr7_ok [0, 4, 5] ?_
      iterate 3 refine oS ?_
      iterate 3 refine oG (hok := by first | with_reducible rfl | omega | (simp only [Bool.and_eq_true, decide_eq_true_eq]; omega) | (simp; done) | (simp; omega) | rfl) ?_
      refine oS ?_
      refine oN ?_
      refine blockQ_normal ?_
      refine thenQ_normal ?_
      refine WI.regB tabTr7_ok [0, 4, 5] ?_
      refine oS ?_
      refine oG (hok := by first | with_reducible rfl | omega | (simp only [Bool.and_eq_true, decide_eq_true_eq]; omega) | (simp; done) | (simp; omega) | rfl) ?_
      refine oS ?_
      refine oN ?_
      refine thenQ_normal ?_
      exact ⟨⟨j + 1, by rw [← flat_take l j hj4]; simp, rfl, hj4⟩, by simp [down, Ab.get, D.val, intOf?]; omega⟩
    · try simp only [zB] at h0
      refine WI.exit ?_
      refine thenQ_exit ?_
      refine thenQ_exit ?_
      refine blockQ_hit ?_
      refine thenQ_normal ?_
      refine WI.seq ?_
      refine WI.regB tabTr7_ok [2, 3] ?_
      refine oS ?_
      refine oC (hok := by first | with_reducible rfl | omega | (simp only [Bool.and_eq_true, decide_eq_true_eq]; omega) | (simp; done) | (simp; omega) | rfl) ?_
      iterate 2 refine oG (hok := by first | with_reducible rfl | omega | (simp only [Bool.and_eq_true, decide_eq_true_eq]; omega) | (simp; done) | (simp; omega) | rfl) ?_
      iterate 2 refine oS ?_
      refine oN ?_
      refine thenQ_normal ?_
      refine WI.ret ?_
      first | refine lfR ?_ | refine lfR2 ?_
      rw [List.take_of_length_le (by omega)]; rfl -- leaf 0
def rseqG : List D → Option (Bool × D)
  | [.x (.sl L)] => (unrows rStr L).bind fun l => some (decide (l.flatten.length ≤ 140737488355328) && (decide (l.length ≤ 140737488355328)), .tup [.x (.str (seqB l).1), .x (.int .i64 (seqB l).2)])
  | _ => none
theorem rseqG_ok : ∀ args r, rseqG args = some (true, r) → PCalls Try.prog 38 args r := by
  intro args r h
  unfold rseqG at h
  split at h
  · rename_i L
    obtain ⟨l, hr0, h⟩ := Option.bind_eq_some_iff.1 h
    simp only [Option.some.injEq, Prod.mk.injEq, Bool.and_eq_true, decide_eq_true_eq, true_and] at h
    obtain ⟨⟨h1, h2⟩, rfl⟩ := h
    rw [← rows_unrows good_rStr hr0]
    exact seqR_c l h1 h2
  · cases h
/-- The bodies, by the tags. -/
def prt : List Tlv → List Int → List (List UInt8) → List (List UInt8) × Int
  | x :: r, t :: ts, out => if x.1 = t then prt r ts (out ++ [x.2.1]) else ([], 6)
  | _, _, out => (out, 0)
theorem prt_step (L : List Tlv) (ts : List Int) (out : List (List UInt8)) (j : Nat) (hj : j < L.length) (ht : j < ts.length) : prt (L.drop j) (ts.drop j) out = if L[j].1 = ts[j] then prt (L.drop (j + 1)) (ts.drop (j + 1)) (out ++ [L[j].2.1]) else ([], 6) := by
  rw [List.drop_eq_getElem_cons hj, List.drop_eq_getElem_cons ht, prt]
def prtB (s : List UInt8) (tags : List Int) : List (List UInt8) × Int :=
  if (readB s).2.2 = 0 then if (readB s).1.1 = 48 then if (readB s).2.1 < s.length then ([], 5) else if (allB (readB s).1.2.1).2 = 0 then if (allB (readB s).1.2.1).1.length = tags.length then prt (allB (readB s).1.2.1).1 tags [] else ([], 5) else ([], (allB (readB s).1.2.1).2) else ([], 6) else ([], (readB s).2.2)
def tabTr8 : Tabs := addQ (addQ (noTabs) 18 readG) 20 allG
theorem tabTr8_ok : SsOk Try.prog tabTr8 := addQ_ok (addQ_ok (noTabs_ok) (G_enters G_ok (p := i18) rfl) readG_ok) (G_enters G_ok (p := i20) rfl) allG_ok
theorem tabTr8_q18 (a : List D) : tabTr8.q 18 a = readG a := rfl
theorem tabTr8_q20 (a : List D) : tabTr8.q 20 a = allG a := rfl
theorem tabTr8_r (f : FuncId) (a : List D) (o : List Ob) : tabTr8.r f a o = none := rfl
theorem tabTr8_k (f : FuncId) (a : List D) (o : List Ob) : tabTr8.k f a o = none := rfl
theorem parts_c (s : List UInt8) (tags : List Int) (hs : s.length ≤ 9223372036854775807) : PCalls Try.prog 39 [.x (.str s), .x (.sl (rows (rInt .i64) tags))] (.tup [.x (.sl (rows rStr (prtB s tags).1)), .x (.int .i64 (prtB s tags).2)]) := by
  refine PCalls.wf (fun hw => ?_)
  have hb : tags.length ≤ maxLen := by have := (hw _ (List.mem_cons_of_mem _ List.mem_cons_self)).1; rwa [rows_len] at this
  clear hw
  simp only [maxLen] at hb
  have hr := readB_okT s
  have hr2 := readB_ok s
  have ha := allB_okT (readB s).1.2.1
  refine FCalls.pure (fcallsG (fz := true) G_ok (p := i39) rfl _ (Nat.le_of_ble_eq_true rfl) _ (fun C0 E0 => ?_)) rfl
  dsimp only [i39, argsφ]
  have uu := And.intro @readG.eq_1 (And.intro @readG.eq_2 (And.intro @readD.eq_1 (And.intro @allG.eq_1 (And.intro @allG.eq_2 (And.intro @tabTr8_r (And.intro @tabTr8_k (And.intro @tabTr8_q18 (@tabTr8_q20))))))))
  refine WI.seq ?_
  refine WI.regB tabTr8_ok [0, 1] ?_
  iterate 2 refine oS ?_
  refine oN ?_
  refine thenQ_normal ?_
  refine WI.seq ?_
  refine WI.regB tabTr8_ok [0, 1, 6, 7, 8] ?_
  refine oS ?_
  refine oC ?_
  refine oS ?_
  iterate 5 refine oG ?_
  iterate 2 refine oS ?_
  refine oN ?_
  refine thenQ_normal ?_
  refine WI.seq ?_
  refine WI.block ?_
  refine WI.seq ?_
  refine WI.regB tabTr8_ok [0, 1, 6, 7, 8, 19] ?_
  refine oS ?_
  refine oG ?_
  refine oS ?_
  refine oN ?_
  refine thenQ_normal ?_
  refine WI.cond (b := _) rfl rfl (fun h0 => ?_) (fun h0 => ?_)
  · try simp only [zB] at h0
    refine WI.seq ?_
    refine WI.regB tabTr8_ok [4, 5] ?_
    iterate 3 refine oS ?_
    refine oN ?_
    refine thenQ_normal ?_
    refine WI.nnA ?_
    refine WI.ret ?_
    refine blockQ_ret ?_
    refine thenQ_ret ?_
    first | refine lfR ?_ | refine lfR2 ?_
    simp [prtB, h0, rows] -- leaf 0
  · try simp only [zB] at h0
    refine WI.seq ?_
    refine WI.regB tabTr8_ok [0, 1, 6, 7, 23] ?_
    refine oS ?_
    iterate 2 refine oG ?_
    refine oS ?_
    refine oN ?_
    refine thenQ_normal ?_
    refine WI.cond (b := _) rfl rfl (fun h1 => ?_) (fun h1 => ?_)
    · try simp only [zB] at h1
      refine WI.seq ?_
      refine WI.regB tabTr8_ok [4, 5] ?_
      iterate 2 refine oS ?_
      refine oN ?_
      refine thenQ_normal ?_
      refine WI.nnA ?_
      refine WI.ret ?_
      refine blockQ_ret ?_
      refine thenQ_ret ?_
      first | refine lfR ?_ | refine lfR2 ?_
      simp [prtB, h0, h1, rows] -- leaf 1
    · try simp only [zB] at h1
      refine WI.seq ?_
      refine WI.regB tabTr8_ok [1, 6, 27] ?_
      iterate 2 refine oS ?_
      iterate 2 refine oG ?_
      refine oS ?_
      refine oN ?_
      refine thenQ_normal ?_
      refine WI.cond (b := _) rfl rfl (fun h2 => ?_) (fun h2 => ?_)
      · try simp only [zB] at h2
        refine WI.seq ?_
        refine WI.regB tabTr8_ok [4, 5] ?_
        iterate 2 refine oS ?_
        refine oN ?_
        refine thenQ_normal ?_
        refine WI.nnA ?_
        refine WI.ret ?_
        refine blockQ_ret ?_
        refine thenQ_ret ?_
        first | refine lfR ?_ | refine lfR2 ?_
        simp [prtB, h0, h1, rows, show (readB s).2.1 < s.length by omega] -- leaf 2
      · try simp only [zB] at h2
        refine WI.skip ?_
        refine blockQ_normal ?_
        refine thenQ_normal ?_
        refine WI.seq ?_
        refine WI.regB tabTr8_ok [1, 8, 9] ?_
        refine oS ?_
        refine oG ?_
        refine oC ?_
        refine oS ?_
        iterate 2 refine oG ?_
        iterate 2 refine oS ?_
        refine oN ?_
        refine thenQ_normal ?_
        refine WI.seq ?_
        refine WI.block ?_
        refine WI.seq ?_
        refine WI.regB tabTr8_ok [1, 8, 9, 38] ?_
        refine oS ?_
        refine oG ?_
        refine oS ?_
        refine oN ?_
        refine thenQ_normal ?_
        refine WI.cond (b := _) rfl rfl (fun h3 => ?_) (fun h3 => ?_)
        · try simp only [zB] at h3
          refine WI.seq ?_
          refine WI.regB tabTr8_ok [4, 5] ?_
          iterate 3 refine oS ?_
          refine oN ?_
          refine thenQ_normal ?_
          refine WI.nnA ?_
          refine WI.ret ?_
          refine blockQ_ret ?_
          refine thenQ_ret ?_
          first | refine lfR ?_ | refine lfR2 ?_
          simp [prtB, h0, h1, h3, rows, show ¬ (readB s).2.1 < s.length by omega] -- leaf 3
        · try simp only [zB] at h3
          refine WI.seq ?_
          refine WI.regB tabTr8_ok [1, 9, 42] ?_
          refine oS ?_
          refine oG ?_
          refine oS ?_
          iterate 2 refine oG ?_
          refine oS ?_
          refine oN ?_
          refine thenQ_normal ?_
          refine WI.cond (b := _) rfl rfl (fun h4 => ?_) (fun h4 => ?_)
          · try simp only [zB] at h4
            refine WI.seq ?_
            refine WI.regB tabTr8_ok [4, 5] ?_
            iterate 2 refine oS ?_
            refine oN ?_
            refine thenQ_normal ?_
            refine WI.nnA ?_
            refine WI.ret ?_
            refine blockQ_ret ?_
            refine thenQ_ret ?_
            first | refine lfR ?_ | refine lfR2 ?_
            simp [prtB, h0, h1, h3, rows, show ¬ (readB s).2.1 < s.length by omega, show ¬ (allB (readB s).1.2.1).1.length = tags.length by omega] -- leaf 4
          · try simp only [zB] at h4
            refine WI.skip ?_
            refine blockQ_normal ?_
            refine thenQ_normal ?_
            refine WI.seq ?_
            refine WI.regB tabTr8_ok [1, 9, 10] ?_
            refine oS ?_
            refine oN ?_
            refine thenQ_normal ?_
            refine WI.seq ?_
            refine WI.seq ?_
            refine WI.regB tabTr8_ok [1, 10, 48, 49, 50] ?_
            refine oS ?_
            refine oG ?_
            refine oS ?_
            refine oN ?_
            refine thenQ_normal ?_
            refine WI.block ?_
            refine WI.ownA 10 9 1 ?_
            refine WI.loop (fun φ os => ∃ (j : Nat) (out : List (List UInt8)), φ = [(1, .x (.sl (rows (rInt .i64) tags))), (10, .ref 1 out.length 0 out.length), (48, .x (.sl (rows rTlv (allB (readB s).1.2.1).1))), (49, .x (.int .i64 (allB (readB s).1.2.1).1.length)), (50, .x (.int .i64 j))] ∧ os = [.box [.x (.int .i64 (readB s).1.1), .x (.str (readB s).1.2.1)], .rows false 9 1 (rows rStr out)] ∧ j ≤ (allB (readB s).1.2.1).1.length ∧ out.length = j ∧ prt ((allB (readB s).1.2.1).1.drop j) (tags.drop j) out = prt (allB (readB s).1.2.1).1 tags []) (down (allB (readB s).1.2.1).1.length 50) ?_ (fun φ os hI => ?_)
            · exact ⟨0, [], rfl, rfl, by omega, rfl, rfl⟩
            · obtain ⟨j, out, rfl, rfl, hj, ho, hp⟩ := hI
              refine WI.seq ?_
              refine WI.regB tabTr8_ok [1, 10, 48, 49, 50, 51] ?_
              refine oG ?_
              refine oN ?_
              refine thenQ_normal ?_
              refine WI.seq ?_
              refine WI.cond (b := _) rfl rfl (fun h5 => ?_) (fun h5 => ?_)
              · try simp only [zB] at h5
                refine WI.skip ?_
                refine thenQ_normal ?_
                refine WI.seq ?_
                refine WI.block ?_
                refine WI.seq ?_
                have hj16 : j < (allB (readB s).1.2.1).1.length := by simpa using h5
                have hj16' : j < tags.length := by omega
                have hb2 : prtB s tags = prt (allB (readB s).1.2.1).1 tags [] := by rw [prtB, if_pos h0, if_pos h1, if_neg (by omega), if_pos h3, if_pos (by omega)]
                refine WI.regB tabTr8_ok [1, 10, 11, 12, 48, 49, 50] ?_
                refine oS ?_
                iterate 3 refine oG ?_
                refine oS ?_
                refine oG ?_
                refine oN ?_
                refine thenQ_normal ?_
                refine WI.seq ?_
                refine WI.seq ?_
                refine WI.dregB tabTr8_ok [1, 10, 12, 48, 49, 50, 61] ?_
                refine dFS ?_
                refine dQG ?_
                iterate 2 refine dFS ?_
                iterate 2 refine dQG ?_
                refine dFG ?_
                refine dN ?_
                refine thenQ_normal ?_
                refine WI.cond (b := _) rfl rfl (fun h6 => ?_) (fun h6 => ?_)
                · try simp only [zB] at h6
                  refine WI.seq ?_
                  refine WI.regB tabTr8_ok [4, 5] ?_
                  iterate 2 refine oS ?_
                  refine oN ?_
                  refine thenQ_normal ?_
                  refine WI.nnA ?_
                  refine WI.ret ?_
                  refine thenQ_ret ?_
                  refine blockQ_ret ?_
                  refine thenQ_ret ?_
                  refine thenQ_ret ?_
                  refine blockQ_ret ?_
                  refine thenQ_ret ?_
                  first | refine lfR ?_ | refine lfR2 ?_
                  rw [hb2, ← hp, prt_step _ _ _ _ hj16 hj16', if_neg (by simpa using h6)]; rfl -- leaf 5
                · try simp only [zB] at h6
                  refine WI.skip ?_
                  refine thenQ_normal ?_
                  refine WI.regB tabTr8_ok [1, 10, 48, 49, 50] ?_
                  iterate 2 refine oS ?_
                  iterate 3 refine oG ?_
                  refine oS ?_
                  refine oN ?_
                  refine blockQ_normal ?_
                  refine thenQ_normal ?_
                  refine WI.post ?_
                  refine WI.regB tabTr8_ok [1, 10, 48, 49, 50] ?_
                  refine oG ?_
                  refine oS ?_
                  refine oP ?_
                  refine pPick [0, 1] ?_
                  refine pEnd ?_
                  refine thenQ_normal ?_
                  exact ⟨⟨j + 1, out ++ [_], by simp, by rw [← rows_str], hj16, by simp; omega, by rw [← hp, prt_step _ _ _ _ hj16 hj16', if_pos (by simpa using h6)]⟩, by simp [down, Ab.get, D.val, intOf?]; omega⟩
              · try simp only [zB] at h5
                refine WI.exit ?_
                refine thenQ_exit ?_
                refine thenQ_exit ?_
                refine blockQ_hit ?_
                refine thenQ_normal ?_
                refine WI.seq ?_
                refine WI.regB tabTr8_ok [4, 5] ?_
                iterate 3 refine oS ?_
                refine oN ?_
                refine thenQ_normal ?_
                refine WI.nnA ?_
                refine WI.ret ?_
                first | refine lfR ?_ | refine lfR2 ?_
                have hb2 : prtB s tags = prt (allB (readB s).1.2.1).1 tags [] := by rw [prtB, if_pos h0, if_pos h1, if_neg (by omega), if_pos h3, if_pos (by omega)]
                rw [hb2, ← hp, List.drop_of_length_le (by omega), List.drop_of_length_le (by omega)]; rfl -- leaf 6
end Go.Proofs.Ytogmbfaijmhamaa
