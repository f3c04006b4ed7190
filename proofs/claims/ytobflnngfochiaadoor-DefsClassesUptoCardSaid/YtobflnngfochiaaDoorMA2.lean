/- MA2: Df4, Df5, Df6, Df7, Df8, Df9. -/
import Derived.Test.YtobflnngfochiaaDoorMA1
section
/- Defs: classes. -/
set_option linter.unusedSimpArgs false
set_option linter.unusedVariables false
namespace Go.Proofs.YtobflnngfochiaaDoor
open Go.RowKit Go.Bo Go.Ab

def jd (l : List (List UInt8)) : List UInt8 := Lib.join l [32, 36, 32]
def listW (w : List UInt8) (l : List (List UInt8)) : List (List UInt8) := if l = [] then [] else [w, [40], jd l, [41]]
theorem jd_cons (x y : List UInt8) (r : List (List UInt8)) : jd (x :: y :: r) = x ++ ([32, 36, 32] ++ jd (y :: r)) := by
  simp only [jd, Lib.join, List.intercalate, List.intersperse_cons_cons, List.flatten_cons]
theorem jd_len : ∀ (l : List (List UInt8)), (∀ x ∈ l, x.length ≤ 1000) → (jd l).length ≤ l.length * 1003
  | [], _ => by simp [jd, Lib.join]
  | [x], h => by rw [jd, Lib.join_one]; have := h x List.mem_cons_self; simp; omega
  | x :: y :: r, h => by
    have h1 := h x List.mem_cons_self
    have ih := jd_len (y :: r) (fun z hz => h z (List.mem_cons_of_mem _ hz))
    rw [jd_cons]
    simp only [List.length_append, List.length_cons, List.length_nil] at ih ⊢
    omega
/-- How long lists and their texts may be here. -/
def shrt (l : List (List UInt8)) : Prop := l.length ≤ 1000 ∧ ∀ x ∈ l, x.length ≤ 1000
instance (l : List (List UInt8)) : Decidable (shrt l) := inferInstanceAs (Decidable (_ ∧ _))
theorem shrt_len {l : List (List UInt8)} (h : shrt l) : (jd l).length ≤ 1003000 := by have := jd_len l h.2; have := h.1; omega
def tabDf6 : Tabs := addQ (addQ (noTabs) 29 joinG) 27 typedG
theorem tabDf6_ok : SsOk Tryd.prog tabDf6 := addQ_ok (addQ_ok (noTabs_ok) join_enters joinG_ok) (G_enters G_ok (p := i27) rfl) typedG_ok
theorem tabDf6_q29 (a : List D) : tabDf6.q 29 a = joinG a := rfl
theorem tabDf6_q27 (a : List D) : tabDf6.q 27 a = typedG a := rfl
theorem tabDf6_r (f : FuncId) (a : List D) (o : List Ob) : tabDf6.r f a o = none := rfl
theorem tabDf6_k (f : FuncId) (a : List D) (o : List Ob) : tabDf6.k f a o = none := rfl
theorem list_c (w : List UInt8) (l : List (List UInt8)) (h : shrt l) : PCalls Tryd.prog 33 [.x (.str w), .x (.sl (rows rStr l))] (.x (.sl (rows rStr (listW w l)))) := by
  have hj := shrt_len h
  have hl := h.1
  unfold jd at hj
  refine FCalls.pure (fcallsG (fz := true) G_ok (p := i33) rfl _ (Nat.le_of_ble_eq_true rfl) _ (fun C0 E0 => ?_)) rfl
  dsimp only [i33, argsφ]
  have uu := And.intro @joinG.eq_1 (And.intro @joinG.eq_2 (And.intro @un_s (And.intro @tabDf6_r (And.intro @tabDf6_k (And.intro @tabDf6_q27 (And.intro @tabDf6_q29 (And.intro @typedG.eq_1 (@typedG.eq_2))))))))
  refine WI.seq ?_
  refine WI.regB tabDf6_ok [0, 1] ?_
  refine oS ?_
  refine oN ?_
  refine thenQ_normal ?_
  refine WI.seq ?_
  refine WI.seq ?_
  refine WI.regB tabDf6_ok [0, 1, 7] ?_
  refine oS ?_
  iterate 2 refine oG (hok := by first | with_reducible rfl | omega | (exact decide_eq_true (by omega)) | (simp only [Bool.and_eq_true, decide_eq_true_eq]; omega) | (simp; done) | (simp; omega) | rfl) ?_
  refine oN ?_
  refine thenQ_normal ?_
  refine WI.cond (b := _) rfl rfl (fun h0 => ?_) (fun h0 => ?_)
  · try simp only [zB] at h0
    refine WI.seq ?_
    refine WI.regB tabDf6_ok [4] ?_
    refine oS ?_
    refine oN ?_
    refine thenQ_normal ?_
    refine WI.nnA ?_
    refine WI.ret ?_
    refine thenQ_ret ?_
    first | refine lfR ?_ | refine lfR2 ?_
    have hnil : l = [] := by first | exact h0 | exact List.length_eq_zero_iff.1 (by simpa using h0) | simpa using h0
    subst hnil; rfl -- leaf 0
  · try simp only [zB] at h0
    refine WI.skip ?_
    refine thenQ_normal ?_
    refine WI.seq ?_
    refine WI.regB tabDf6_ok [4] ?_
    iterate 2 refine oS ?_
    refine oC (hok := by first | with_reducible rfl | omega | (exact decide_eq_true (by omega)) | (simp only [Bool.and_eq_true, decide_eq_true_eq]; omega) | (simp; done) | (simp; omega) | rfl) ?_
    refine oG (hok := by first | with_reducible rfl | omega | (exact decide_eq_true (by omega)) | (simp only [Bool.and_eq_true, decide_eq_true_eq]; omega) | (simp; done) | (simp; omega) | rfl) ?_
    refine oS ?_
    refine oN ?_
    refine thenQ_normal ?_
    refine WI.freezeA [0] ?_
    refine WI.pickA [] ?_
    refine WI.ret ?_
    first | refine lfR ?_ | refine lfR2 ?_
    have hnil : l ≠ [] := by rintro rfl; simp at h0
    unfold listW; rw [if_neg hnil]; rfl -- leaf 1
theorem all_c (l : List (List UInt8)) (h : shrt l) : PCalls Tryd.prog 32 [.x (.sl (rows rStr l))] (.x (.bool (l.all typB))) := by
  have hl := h.1
  refine FCalls.pure (fcallsG (fz := true) G_ok (p := i32) rfl _ (Nat.le_of_ble_eq_true rfl) _ (fun C0 E0 => ?_)) rfl
  dsimp only [i32, argsφ]
  have uu := And.intro @typedG.eq_1 (And.intro @typedG.eq_2 (And.intro @tabDf6_r (And.intro @tabDf6_k (And.intro @tabDf6_q27 (And.intro @tabDf6_q29 (And.intro @joinG.eq_1 (@joinG.eq_2)))))))
  refine WI.seq ?_
  refine WI.regB tabDf6_ok [0] ?_
  refine oS ?_
  refine oN ?_
  refine thenQ_normal ?_
  refine WI.seq ?_
  refine WI.seq ?_
  refine WI.regB tabDf6_ok [5, 6, 7] ?_
  refine oS ?_
  refine oG ?_
  refine oS ?_
  refine oN ?_
  refine thenQ_normal ?_
  refine WI.block ?_
  refine WI.loop (fun φ os => ∃ (j : Nat), φ = [(5, .x (.sl (rows rStr l))), (6, .x (.int .i64 l.length)), (7, .x (.int .i64 j))] ∧ os = [] ∧ j ≤ l.length ∧ (l.take j).all typB = true) (down l.length 7) ?_ (fun φ os hI => ?_)
  · exact ⟨0, rfl, rfl, by omega, rfl⟩
  · obtain ⟨j, rfl, rfl, hj, ha⟩ := hI
    refine WI.seq ?_
    refine WI.regB tabDf6_ok [5, 6, 7, 8] ?_
    refine oG ?_
    refine oN ?_
    refine thenQ_normal ?_
    refine WI.seq ?_
    refine WI.cond (b := _) rfl rfl (fun h0 => ?_) (fun h0 => ?_)
    · try simp only [zB] at h0
      refine WI.skip ?_
      refine thenQ_normal ?_
      refine WI.seq ?_
      refine WI.block ?_
      refine WI.seq ?_
      have hj4 : j < l.length := by omega
      have hx := h.2 l[j] (List.getElem_mem _)
      refine WI.regB tabDf6_ok [4, 5, 6, 7] ?_
      iterate 2 refine oG ?_
      refine oS ?_
      refine oN ?_
      refine thenQ_normal ?_
      refine WI.seq ?_
      refine WI.regB tabDf6_ok [5, 6, 7, 13] ?_
      refine oS ?_
      refine oC ?_
      refine oG ?_
      refine oN ?_
      refine thenQ_normal ?_
      refine WI.cond (b := _) rfl rfl (fun h1 => ?_) (fun h1 => ?_)
      · try simp only [zB] at h1
        have hn : l.all typB = false := by rw [List.all_eq_false]; exact ⟨l[j], List.getElem_mem _, by simpa using h1⟩
        refine WI.seq ?_
        refine WI.regB tabDf6_ok [2] ?_
        refine oS ?_
        refine oN ?_
        refine thenQ_normal ?_
        refine WI.ret ?_
        refine blockQ_ret ?_
        refine thenQ_ret ?_
        refine thenQ_ret ?_
        refine blockQ_ret ?_
        refine thenQ_ret ?_
        first | refine lfR ?_ | refine lfR2 ?_
        rw [hn] -- leaf 0
      · try simp only [zB] at h1
        have ha2 : (l.take (j + 1)).all typB = true := by rw [List.take_succ_eq_append_getElem hj4, List.all_append, ha]; simpa using h1
        refine WI.skip ?_
        refine blockQ_normal ?_
        refine thenQ_normal ?_
        refine WI.regB tabDf6_ok [5, 6, 7] ?_
        refine oG ?_
        refine oS ?_
        refine oN ?_
        refine thenQ_normal ?_
        exact ⟨⟨j + 1, rfl, rfl, by omega, ha2⟩, by simp [down, Ab.get, D.val, intOf?]; omega⟩
    · try simp only [zB] at h0
      refine WI.exit ?_
      refine thenQ_exit ?_
      refine thenQ_exit ?_
      refine blockQ_hit ?_
      refine thenQ_normal ?_
      refine WI.seq ?_
      refine WI.regB tabDf6_ok [2] ?_
      refine oS ?_
      refine oN ?_
      refine thenQ_normal ?_
      refine WI.ret ?_
      first | refine lfR ?_ | refine lfR2 ?_
      rw [List.take_of_length_le (by omega)] at ha; rw [ha] -- leaf 1
def listG : List D → Option (Bool × D)
  | [.x (.str w), .x (.sl R)] => (unrows rStr R).bind fun l => some (decide (shrt l), .x (.sl (rows rStr (listW w l))))
  | _ => none
theorem listG_ok : ∀ args r, listG args = some (true, r) → PCalls Tryd.prog 33 args r := by
  intro args r h
  unfold listG at h
  split at h
  · rename_i w R
    obtain ⟨l, hr0, h⟩ := Option.bind_eq_some_iff.1 h
    simp only [Option.some.injEq, Prod.mk.injEq, Bool.and_eq_true, decide_eq_true_eq, true_and] at h
    obtain ⟨h1, rfl⟩ := h
    rw [← rows_unrows good_rStr hr0]
    exact (list_c w l h1)
  · cases h
def allG : List D → Option (Bool × D)
  | [.x (.sl R)] => (unrows rStr R).bind fun l => some (decide (shrt l), .x (.bool (l.all typB)))
  | _ => none
theorem allG_ok : ∀ args r, allG args = some (true, r) → PCalls Tryd.prog 32 args r := by
  intro args r h
  unfold allG at h
  split at h
  · rename_i R
    obtain ⟨l, hr0, h⟩ := Option.bind_eq_some_iff.1 h
    simp only [Option.some.injEq, Prod.mk.injEq, Bool.and_eq_true, decide_eq_true_eq, true_and] at h
    obtain ⟨h1, rfl⟩ := h
    rw [← rows_unrows good_rStr hr0]
    exact (all_c l h1)
  · cases h
def tabDf7 : Tabs := addT (addQ (addQ (addQ (addQ (noTabs) 27 typedG) 32 allG) 33 listG) 29 joinG) 29 (frzT joinG)
theorem tabDf7_ok : SsOk Tryd.prog tabDf7 := addT_ok (addQ_ok (addQ_ok (addQ_ok (addQ_ok (noTabs_ok) (G_enters G_ok (p := i27) rfl) typedG_ok) (G_enters G_ok (p := i32) rfl) allG_ok) (G_enters G_ok (p := i33) rfl) listG_ok) join_enters joinG_ok) join_enters (frzT_ok joinG_ok)
theorem tabDf7_q27 (a : List D) : tabDf7.q 27 a = typedG a := rfl
theorem tabDf7_q32 (a : List D) : tabDf7.q 32 a = allG a := rfl
theorem tabDf7_q33 (a : List D) : tabDf7.q 33 a = listG a := rfl
theorem tabDf7_q29 (a : List D) : tabDf7.q 29 a = joinG a := rfl
theorem tabDf7_t29 (a : List D) (o : List Ob) : tabDf7.t 29 a o = liftT (frzT joinG) a o := rfl
theorem tabDf7_r (f : FuncId) (a : List D) (o : List Ob) : tabDf7.r f a o = none := rfl
theorem tabDf7_k (f : FuncId) (a : List D) (o : List Ob) : tabDf7.k f a o = none := rfl
theorem rows_4 (a b c d : List UInt8) : rows rStr [a, b, c, d] = [[.str a], [.str b], [.str c], [.str d]] := rfl
theorem un_s4 (a b c d : List UInt8) : unrows rStr [[.str a], [.str b], [.str c], [.str d]] = some [a, b, c, d] := rfl
theorem un_s8 (a b c d e f g h : List UInt8) : unrows rStr [[.str a], [.str b], [.str c], [.str d], [.str e], [.str f], [.str g], [.str h]] = some [a, b, c, d, e, f, g, h] := rfl
theorem un_s12 (a b c d e f g h i j k l : List UInt8) : unrows rStr [[.str a], [.str b], [.str c], [.str d], [.str e], [.str f], [.str g], [.str h], [.str i], [.str j], [.str k], [.str l]] = some [a, b, c, d, e, f, g, h, i, j, k, l] := rfl
def wordsC (n : List UInt8) (m y : List (List UInt8)) : List (List UInt8) := [[40], wNAME, 39 :: n ++ [39]] ++ listW wMUST m ++ listW wMAY y ++ [[41]]
def putC (n : List UInt8) (m y : List (List UInt8)) : List UInt8 × Int :=
  if typB n = true ∧ m.all typB = true ∧ y.all typB = true then if m.length ≤ 64 ∧ y.length ≤ 64 then (jn (wordsC n m y), 0) else ([], 3) else ([], 13)
theorem listW_len (w : List UInt8) (l : List (List UInt8)) : (listW w l).length ≤ 4 := by unfold listW; split <;> simp
theorem wt_app (a b : List (List UInt8)) : wt (a ++ b) = wt a + wt b := by simp [wt]
theorem jn_le : ∀ l, (jn l).length ≤ wt l := by
  intro l
  by_cases h : l = []
  · subst h; simp [jn]
  · have := wt_jn l h; omega
theorem listW_wt (w : List UInt8) (l : List (List UInt8)) (h : shrt l) : wt (listW w l) ≤ w.length + 1003006 := by
  have := shrt_len h
  unfold listW; split
  · simp [wt]
  · simp [wt]; omega
theorem wordsC_wt (n : List UInt8) (m y : List (List UInt8)) (hn : n.length ≤ 1000) (hm : shrt m) (hy : shrt y) : wt (wordsC n m y) ≤ 2010000 := by
  have h1 := listW_wt wMUST m hm
  have h2 := listW_wt wMAY y hy
  have e1 : wMUST.length = 4 := rfl
  have e2 : wMAY.length = 3 := rfl
  unfold wordsC
  rw [wt_app, wt_app, wt_app]
  have e3 : wt [[41]] = 2 := rfl
  have e4 : wt [[40], wNAME, 39 :: n ++ [39]] = n.length + 10 := by simp [wt, wNAME]; omega
  omega
theorem putClass_c (n : List UInt8) (m y : List (List UInt8)) (hn : n.length ≤ 1000) (hm : shrt m) (hy : shrt y) : PCalls Tryd.prog 16 [.agg [.x (.str n), .x (.sl (rows rStr m)), .x (.sl (rows rStr y))]] (.tup [.x (.str (putC n m y).1), .x (.int .i64 (putC n m y).2)]) := by
  have hw := wordsC_wt n m y hn hm hy
  have hj := jn_le (wordsC n m y)
  have l1 := listW_len wMUST m
  have l2 := listW_len wMAY y
  have hm1 := hm.1
  have hy1 := hy.1
  have hsm := decide_eq_true hm
  have hsy := decide_eq_true hy
  by_cases em : m = [] <;> by_cases ey : y = []
  · have hLM : listW wMUST m = [] := if_pos em
    have hLY : listW wMAY y = [] := if_pos ey
    have hW : wordsC n m y = [[40], wNAME, 39 :: n ++ [39], [41]] := by unfold wordsC; rw [hLM, hLY]; rfl
    have hJ : Lib.join [[40], [78, 65, 77, 69], 39 :: (n ++ [39]), [41]] [32] = jn (wordsC n m y) := by rw [hW, join_jn]; rfl
    refine FCalls.pure (fcallsG (fz := true) G_ok (p := i16) rfl _ (Nat.le_of_ble_eq_true rfl) _ (fun C0 E0 => ?_)) rfl
    dsimp only [i16, argsφ]
    have uu := And.intro @typedG.eq_1 (And.intro @typedG.eq_2 (And.intro @allG.eq_1 (And.intro @allG.eq_2 (And.intro @listG.eq_1 (And.intro @listG.eq_2 (And.intro @joinG.eq_1 (And.intro @joinG.eq_2 (And.intro @un_s4 (And.intro @un_s8 (And.intro @un_s12 (And.intro @rows_0 (And.intro @rows_4 (And.intro hLM (And.intro hLY (And.intro hsm (And.intro hsy (And.intro @tabDf7_r (And.intro @tabDf7_k (And.intro @tabDf7_q27 (And.intro @tabDf7_q29 (And.intro @tabDf7_q32 (And.intro @tabDf7_q33 (And.intro @tabDf7_t29 (@frzT.eq_1))))))))))))))))))))))))
    refine WI.seq ?_
    refine WI.regB tabDf7_ok [1] ?_
    refine oG (hok := by first | with_reducible rfl | omega | (cases typB n <;> cases m.all typB <;> cases y.all typB <;> rfl) | (rw [hJ]; exact decide_eq_true (by omega)) | (simp; done) | (simp; omega) | rfl) ?_
    iterate 2 refine oS ?_
    refine oN ?_
    refine thenQ_normal ?_
    refine WI.seq ?_
    refine WI.block ?_
    refine WI.seq ?_
    refine WI.regB tabDf7_ok [1, 5] ?_
    refine oS ?_
    refine oG (hok := by first | with_reducible rfl | omega | (cases typB n <;> cases m.all typB <;> cases y.all typB <;> rfl) | (rw [hJ]; exact decide_eq_true (by omega)) | (simp; done) | (simp; omega) | rfl) ?_
    refine oC (hok := by first | with_reducible rfl | omega | (cases typB n <;> cases m.all typB <;> cases y.all typB <;> rfl) | (rw [hJ]; exact decide_eq_true (by omega)) | (simp; done) | (simp; omega) | rfl) ?_
    refine oG (hok := by first | with_reducible rfl | omega | (cases typB n <;> cases m.all typB <;> cases y.all typB <;> rfl) | (rw [hJ]; exact decide_eq_true (by omega)) | (simp; done) | (simp; omega) | rfl) ?_
    refine oS ?_
    iterate 2 refine oG (hok := by first | with_reducible rfl | omega | (cases typB n <;> cases m.all typB <;> cases y.all typB <;> rfl) | (rw [hJ]; exact decide_eq_true (by omega)) | (simp; done) | (simp; omega) | rfl) ?_
    refine oC (hok := by first | with_reducible rfl | omega | (cases typB n <;> cases m.all typB <;> cases y.all typB <;> rfl) | (rw [hJ]; exact decide_eq_true (by omega)) | (simp; done) | (simp; omega) | rfl) ?_
    iterate 2 refine oG (hok := by first | with_reducible rfl | omega | (cases typB n <;> cases m.all typB <;> cases y.all typB <;> rfl) | (rw [hJ]; exact decide_eq_true (by omega)) | (simp; done) | (simp; omega) | rfl) ?_
    refine oS ?_
    iterate 2 refine oG (hok := by first | with_reducible rfl | omega | (cases typB n <;> cases m.all typB <;> cases y.all typB <;> rfl) | (rw [hJ]; exact decide_eq_true (by omega)) | (simp; done) | (simp; omega) | rfl) ?_
    refine oC (hok := by first | with_reducible rfl | omega | (cases typB n <;> cases m.all typB <;> cases y.all typB <;> rfl) | (rw [hJ]; exact decide_eq_true (by omega)) | (simp; done) | (simp; omega) | rfl) ?_
    iterate 2 refine oG (hok := by first | with_reducible rfl | omega | (cases typB n <;> cases m.all typB <;> cases y.all typB <;> rfl) | (rw [hJ]; exact decide_eq_true (by omega)) | (simp; done) | (simp; omega) | rfl) ?_
    refine oS ?_
    refine oN ?_
    refine thenQ_normal ?_
    refine WI.cond (b := _) rfl rfl (fun h0 => ?_) (fun h0 => ?_)
    · try simp only [zB] at h0
      have hp : putC n m y = ([], 13) := by unfold putC; exact if_neg (by rintro ⟨k1, k2, k3⟩; simp [k1, k2, k3] at h0)
      refine WI.seq ?_
      refine WI.regB tabDf7_ok [2, 3] ?_
      iterate 2 refine oS ?_
      refine oN ?_
      refine thenQ_normal ?_
      refine WI.ret ?_
      refine blockQ_ret ?_
      refine thenQ_ret ?_
      first | refine lfR ?_ | refine lfR2 ?_
      first | (rw [hp]; done) | (rw [hp, hJ]; done) | (rw [hp, hJ]; rfl) -- leaf 0
    · try simp only [zB] at h0
      refine WI.seq ?_
      refine WI.regB tabDf7_ok [1, 22] ?_
      refine oS ?_
      iterate 3 refine oG (hok := by first | with_reducible rfl | omega | (cases typB n <;> cases m.all typB <;> cases y.all typB <;> rfl) | (rw [hJ]; exact decide_eq_true (by omega)) | (simp; done) | (simp; omega) | rfl) ?_
      refine oS ?_
      iterate 5 refine oG (hok := by first | with_reducible rfl | omega | (cases typB n <;> cases m.all typB <;> cases y.all typB <;> rfl) | (rw [hJ]; exact decide_eq_true (by omega)) | (simp; done) | (simp; omega) | rfl) ?_
      refine oS ?_
      refine oN ?_
      refine thenQ_normal ?_
      refine WI.cond (b := _) rfl rfl (fun h1 => ?_) (fun h1 => ?_)
      · try simp only [zB] at h1
        have hp : putC n m y = ([], 3) := by unfold putC; rw [if_pos (by simpa [and_assoc] using h0), if_neg (by omega)]
        refine WI.seq ?_
        refine WI.regB tabDf7_ok [2, 3] ?_
        iterate 2 refine oS ?_
        refine oN ?_
        refine thenQ_normal ?_
        refine WI.ret ?_
        refine blockQ_ret ?_
        refine thenQ_ret ?_
        first | refine lfR ?_ | refine lfR2 ?_
        first | (rw [hp]; done) | (rw [hp, hJ]; done) | (rw [hp, hJ]; rfl) -- leaf 1
      · try simp only [zB] at h1
        have hp : putC n m y = (jn (wordsC n m y), 0) := by unfold putC; rw [if_pos (by simpa [and_assoc] using h0), if_pos (by omega)]
        refine WI.skip ?_
        refine blockQ_normal ?_
        refine thenQ_normal ?_
        refine WI.seq ?_
        refine WI.regB tabDf7_ok [1, 4] ?_
        refine oS ?_
        iterate 4 refine oG (hok := by first | with_reducible rfl | omega | (cases typB n <;> cases m.all typB <;> cases y.all typB <;> rfl) | (rw [hJ]; exact decide_eq_true (by omega)) | (simp; done) | (simp; omega) | rfl) ?_
        refine oS ?_
        refine oN ?_
        refine thenQ_normal ?_
        refine WI.seq ?_
        refine WI.regB tabDf7_ok [1, 4] ?_
        iterate 2 refine oS ?_
        refine oG (hok := by first | with_reducible rfl | omega | (cases typB n <;> cases m.all typB <;> cases y.all typB <;> rfl) | (rw [hJ]; exact decide_eq_true (by omega)) | (simp; done) | (simp; omega) | rfl) ?_
        refine oC (hok := by first | with_reducible rfl | omega | (cases typB n <;> cases m.all typB <;> cases y.all typB <;> rfl) | (rw [hJ]; exact decide_eq_true (by omega)) | (simp; done) | (simp; omega) | rfl) ?_
        refine oG (hok := by first | with_reducible rfl | omega | (cases typB n <;> cases m.all typB <;> cases y.all typB <;> rfl) | (rw [hJ]; exact decide_eq_true (by omega)) | (simp; done) | (simp; omega) | rfl) ?_
        refine oS ?_
        refine oN ?_
        refine thenQ_normal ?_
        refine WI.seq ?_
        refine WI.regB tabDf7_ok [4] ?_
        iterate 2 refine oS ?_
        refine oG (hok := by first | with_reducible rfl | omega | (cases typB n <;> cases m.all typB <;> cases y.all typB <;> rfl) | (rw [hJ]; exact decide_eq_true (by omega)) | (simp; done) | (simp; omega) | rfl) ?_
        refine oC (hok := by first | with_reducible rfl | omega | (cases typB n <;> cases m.all typB <;> cases y.all typB <;> rfl) | (rw [hJ]; exact decide_eq_true (by omega)) | (simp; done) | (simp; omega) | rfl) ?_
        refine oG (hok := by first | with_reducible rfl | omega | (cases typB n <;> cases m.all typB <;> cases y.all typB <;> rfl) | (rw [hJ]; exact decide_eq_true (by omega)) | (simp; done) | (simp; omega) | rfl) ?_
        refine oS ?_
        refine oN ?_
        refine thenQ_normal ?_
        refine WI.seq ?_
        refine WI.regB tabDf7_ok [2, 3] ?_
        refine oS ?_
        iterate 2 refine oG (hok := by first | with_reducible rfl | omega | (cases typB n <;> cases m.all typB <;> cases y.all typB <;> rfl) | (rw [hJ]; exact decide_eq_true (by omega)) | (simp; done) | (simp; omega) | rfl) ?_
        refine oC (hok := by first | with_reducible rfl | omega | (cases typB n <;> cases m.all typB <;> cases y.all typB <;> rfl) | (rw [hJ]; exact decide_eq_true (by omega)) | (simp; done) | (simp; omega) | rfl) ?_
        iterate 2 refine oS ?_
        refine oN ?_
        refine thenQ_normal ?_
        refine WI.ret ?_
        first | refine lfR ?_ | refine lfR2 ?_
        first | (rw [hp]; done) | (rw [hp, hJ]; done) | (rw [hp, hJ]; rfl) -- leaf 2
  · have hLM : listW wMUST m = [] := if_pos em
    have hLY : listW wMAY y = [wMAY, [40], jd y, [41]] := if_neg ey
    have hW : wordsC n m y = [[40], wNAME, 39 :: n ++ [39], wMAY, [40], jd y, [41], [41]] := by unfold wordsC; rw [hLM, hLY]; rfl
    have hJ : Lib.join [[40], [78, 65, 77, 69], 39 :: (n ++ [39]), wMAY, [40], jd y, [41], [41]] [32] = jn (wordsC n m y) := by rw [hW, join_jn]; rfl
    refine FCalls.pure (fcallsG (fz := true) G_ok (p := i16) rfl _ (Nat.le_of_ble_eq_true rfl) _ (fun C0 E0 => ?_)) rfl
    dsimp only [i16, argsφ]
    have uu := And.intro @typedG.eq_1 (And.intro @typedG.eq_2 (And.intro @allG.eq_1 (And.intro @allG.eq_2 (And.intro @listG.eq_1 (And.intro @listG.eq_2 (And.intro @joinG.eq_1 (And.intro @joinG.eq_2 (And.intro @un_s4 (And.intro @un_s8 (And.intro @un_s12 (And.intro @rows_0 (And.intro @rows_4 (And.intro hLM (And.intro hLY (And.intro hsm (And.intro hsy (And.intro @tabDf7_r (And.intro @tabDf7_k (And.intro @tabDf7_q27 (And.intro @tabDf7_q29 (And.intro @tabDf7_q32 (And.intro @tabDf7_q33 (And.intro @tabDf7_t29 (@frzT.eq_1))))))))))))))))))))))))
    refine WI.seq ?_
    refine WI.regB tabDf7_ok [1] ?_
    refine oG (hok := by first | with_reducible rfl | omega | (cases typB n <;> cases m.all typB <;> cases y.all typB <;> rfl) | (rw [hJ]; exact decide_eq_true (by omega)) | (simp; done) | (simp; omega) | rfl) ?_
    iterate 2 refine oS ?_
    refine oN ?_
    refine thenQ_normal ?_
    refine WI.seq ?_
    refine WI.block ?_
    refine WI.seq ?_
    refine WI.regB tabDf7_ok [1, 5] ?_
    refine oS ?_
    refine oG (hok := by first | with_reducible rfl | omega | (cases typB n <;> cases m.all typB <;> cases y.all typB <;> rfl) | (rw [hJ]; exact decide_eq_true (by omega)) | (simp; done) | (simp; omega) | rfl) ?_
    refine oC (hok := by first | with_reducible rfl | omega | (cases typB n <;> cases m.all typB <;> cases y.all typB <;> rfl) | (rw [hJ]; exact decide_eq_true (by omega)) | (simp; done) | (simp; omega) | rfl) ?_
    refine oG (hok := by first | with_reducible rfl | omega | (cases typB n <;> cases m.all typB <;> cases y.all typB <;> rfl) | (rw [hJ]; exact decide_eq_true (by omega)) | (simp; done) | (simp; omega) | rfl) ?_
    refine oS ?_
    iterate 2 refine oG (hok := by first | with_reducible rfl | omega | (cases typB n <;> cases m.all typB <;> cases y.all typB <;> rfl) | (rw [hJ]; exact decide_eq_true (by omega)) | (simp; done) | (simp; omega) | rfl) ?_
    refine oC (hok := by first | with_reducible rfl | omega | (cases typB n <;> cases m.all typB <;> cases y.all typB <;> rfl) | (rw [hJ]; exact decide_eq_true (by omega)) | (simp; done) | (simp; omega) | rfl) ?_
    iterate 2 refine oG (hok := by first | with_reducible rfl | omega | (cases typB n <;> cases m.all typB <;> cases y.all typB <;> rfl) | (rw [hJ]; exact decide_eq_true (by omega)) | (simp; done) | (simp; omega) | rfl) ?_
    refine oS ?_
    iterate 2 refine oG (hok := by first | with_reducible rfl | omega | (cases typB n <;> cases m.all typB <;> cases y.all typB <;> rfl) | (rw [hJ]; exact decide_eq_true (by omega)) | (simp; done) | (simp; omega) | rfl) ?_
    refine oC (hok := by first | with_reducible rfl | omega | (cases typB n <;> cases m.all typB <;> cases y.all typB <;> rfl) | (rw [hJ]; exact decide_eq_true (by omega)) | (simp; done) | (simp; omega) | rfl) ?_
    iterate 2 refine oG (hok := by first | with_reducible rfl | omega | (cases typB n <;> cases m.all typB <;> cases y.all typB <;> rfl) | (rw [hJ]; exact decide_eq_true (by omega)) | (simp; done) | (simp; omega) | rfl) ?_
    refine oS ?_
    refine oN ?_
    refine thenQ_normal ?_
    refine WI.cond (b := _) rfl rfl (fun h0 => ?_) (fun h0 => ?_)
    · try simp only [zB] at h0
      have hp : putC n m y = ([], 13) := by unfold putC; exact if_neg (by rintro ⟨k1, k2, k3⟩; simp [k1, k2, k3] at h0)
      refine WI.seq ?_
      refine WI.regB tabDf7_ok [2, 3] ?_
      iterate 2 refine oS ?_
      refine oN ?_
      refine thenQ_normal ?_
      refine WI.ret ?_
      refine blockQ_ret ?_
      refine thenQ_ret ?_
      first | refine lfR ?_ | refine lfR2 ?_
      first | (rw [hp]; done) | (rw [hp, hJ]; done) | (rw [hp, hJ]; rfl) -- leaf 0
    · try simp only [zB] at h0
      refine WI.seq ?_
      refine WI.regB tabDf7_ok [1, 22] ?_
      refine oS ?_
      iterate 3 refine oG (hok := by first | with_reducible rfl | omega | (cases typB n <;> cases m.all typB <;> cases y.all typB <;> rfl) | (rw [hJ]; exact decide_eq_true (by omega)) | (simp; done) | (simp; omega) | rfl) ?_
      refine oS ?_
      iterate 5 refine oG (hok := by first | with_reducible rfl | omega | (cases typB n <;> cases m.all typB <;> cases y.all typB <;> rfl) | (rw [hJ]; exact decide_eq_true (by omega)) | (simp; done) | (simp; omega) | rfl) ?_
      refine oS ?_
      refine oN ?_
      refine thenQ_normal ?_
      refine WI.cond (b := _) rfl rfl (fun h1 => ?_) (fun h1 => ?_)
      · try simp only [zB] at h1
        have hp : putC n m y = ([], 3) := by unfold putC; rw [if_pos (by simpa [and_assoc] using h0), if_neg (by omega)]
        refine WI.seq ?_
        refine WI.regB tabDf7_ok [2, 3] ?_
        iterate 2 refine oS ?_
        refine oN ?_
        refine thenQ_normal ?_
        refine WI.ret ?_
        refine blockQ_ret ?_
        refine thenQ_ret ?_
        first | refine lfR ?_ | refine lfR2 ?_
        first | (rw [hp]; done) | (rw [hp, hJ]; done) | (rw [hp, hJ]; rfl) -- leaf 1
      · try simp only [zB] at h1
        have hp : putC n m y = (jn (wordsC n m y), 0) := by unfold putC; rw [if_pos (by simpa [and_assoc] using h0), if_pos (by omega)]
        refine WI.skip ?_
        refine blockQ_normal ?_
        refine thenQ_normal ?_
        refine WI.seq ?_
        refine WI.regB tabDf7_ok [1, 4] ?_
        refine oS ?_
        iterate 4 refine oG (hok := by first | with_reducible rfl | omega | (cases typB n <;> cases m.all typB <;> cases y.all typB <;> rfl) | (rw [hJ]; exact decide_eq_true (by omega)) | (simp; done) | (simp; omega) | rfl) ?_
        refine oS ?_
        refine oN ?_
        refine thenQ_normal ?_
        refine WI.seq ?_
        refine WI.regB tabDf7_ok [1, 4] ?_
        iterate 2 refine oS ?_
        refine oG (hok := by first | with_reducible rfl | omega | (cases typB n <;> cases m.all typB <;> cases y.all typB <;> rfl) | (rw [hJ]; exact decide_eq_true (by omega)) | (simp; done) | (simp; omega) | rfl) ?_
        refine oC (hok := by first | with_reducible rfl | omega | (cases typB n <;> cases m.all typB <;> cases y.all typB <;> rfl) | (rw [hJ]; exact decide_eq_true (by omega)) | (simp; done) | (simp; omega) | rfl) ?_
        refine oG (hok := by first | with_reducible rfl | omega | (cases typB n <;> cases m.all typB <;> cases y.all typB <;> rfl) | (rw [hJ]; exact decide_eq_true (by omega)) | (simp; done) | (simp; omega) | rfl) ?_
        refine oS ?_
        refine oN ?_
        refine thenQ_normal ?_
        refine WI.seq ?_
        refine WI.regB tabDf7_ok [4] ?_
        iterate 2 refine oS ?_
        refine oG (hok := by first | with_reducible rfl | omega | (cases typB n <;> cases m.all typB <;> cases y.all typB <;> rfl) | (rw [hJ]; exact decide_eq_true (by omega)) | (simp; done) | (simp; omega) | rfl) ?_
        refine oC (hok := by first | with_reducible rfl | omega | (cases typB n <;> cases m.all typB <;> cases y.all typB <;> rfl) | (rw [hJ]; exact decide_eq_true (by omega)) | (simp; done) | (simp; omega) | rfl) ?_
        refine oG (hok := by first | with_reducible rfl | omega | (cases typB n <;> cases m.all typB <;> cases y.all typB <;> rfl) | (rw [hJ]; exact decide_eq_true (by omega)) | (simp; done) | (simp; omega) | rfl) ?_
        refine oS ?_
        refine oN ?_
        refine thenQ_normal ?_
        refine WI.seq ?_
        refine WI.regB tabDf7_ok [2, 3] ?_
        refine oS ?_
        iterate 2 refine oG (hok := by first | with_reducible rfl | omega | (cases typB n <;> cases m.all typB <;> cases y.all typB <;> rfl) | (rw [hJ]; exact decide_eq_true (by omega)) | (simp; done) | (simp; omega) | rfl) ?_
        refine oC (hok := by first | with_reducible rfl | omega | (cases typB n <;> cases m.all typB <;> cases y.all typB <;> rfl) | (rw [hJ]; exact decide_eq_true (by omega)) | (simp; done) | (simp; omega) | rfl) ?_
        iterate 2 refine oS ?_
        refine oN ?_
        refine thenQ_normal ?_
        refine WI.ret ?_
        first | refine lfR ?_ | refine lfR2 ?_
        first | (rw [hp]; done) | (rw [hp, hJ]; done) | (rw [hp, hJ]; rfl) -- leaf 2
  · have hLM : listW wMUST m = [wMUST, [40], jd m, [41]] := if_neg em
    have hLY : listW wMAY y = [] := if_pos ey
    have hW : wordsC n m y = [[40], wNAME, 39 :: n ++ [39], wMUST, [40], jd m, [41], [41]] := by unfold wordsC; rw [hLM, hLY]; rfl
    have hJ : Lib.join [[40], [78, 65, 77, 69], 39 :: (n ++ [39]), wMUST, [40], jd m, [41], [41]] [32] = jn (wordsC n m y) := by rw [hW, join_jn]; rfl
    refine FCalls.pure (fcallsG (fz := true) G_ok (p := i16) rfl _ (Nat.le_of_ble_eq_true rfl) _ (fun C0 E0 => ?_)) rfl
    dsimp only [i16, argsφ]
    have uu := And.intro @typedG.eq_1 (And.intro @typedG.eq_2 (And.intro @allG.eq_1 (And.intro @allG.eq_2 (And.intro @listG.eq_1 (And.intro @listG.eq_2 (And.intro @joinG.eq_1 (And.intro @joinG.eq_2 (And.intro @un_s4 (And.intro @un_s8 (And.intro @un_s12 (And.intro @rows_0 (And.intro @rows_4 (And.intro hLM (And.intro hLY (And.intro hsm (And.intro hsy (And.intro @tabDf7_r (And.intro @tabDf7_k (And.intro @tabDf7_q27 (And.intro @tabDf7_q29 (And.intro @tabDf7_q32 (And.intro @tabDf7_q33 (And.intro @tabDf7_t29 (@frzT.eq_1))))))))))))))))))))))))
    refine WI.seq ?_
    refine WI.regB tabDf7_ok [1] ?_
    refine oG (hok := by first | with_reducible rfl | omega | (cases typB n <;> cases m.all typB <;> cases y.all typB <;> rfl) | (rw [hJ]; exact decide_eq_true (by omega)) | (simp; done) | (simp; omega) | rfl) ?_
    iterate 2 refine oS ?_
    refine oN ?_
    refine thenQ_normal ?_
    refine WI.seq ?_
    refine WI.block ?_
    refine WI.seq ?_
    refine WI.regB tabDf7_ok [1, 5] ?_
    refine oS ?_
    refine oG (hok := by first | with_reducible rfl | omega | (cases typB n <;> cases m.all typB <;> cases y.all typB <;> rfl) | (rw [hJ]; exact decide_eq_true (by omega)) | (simp; done) | (simp; omega) | rfl) ?_
    refine oC (hok := by first | with_reducible rfl | omega | (cases typB n <;> cases m.all typB <;> cases y.all typB <;> rfl) | (rw [hJ]; exact decide_eq_true (by omega)) | (simp; done) | (simp; omega) | rfl) ?_
    refine oG (hok := by first | with_reducible rfl | omega | (cases typB n <;> cases m.all typB <;> cases y.all typB <;> rfl) | (rw [hJ]; exact decide_eq_true (by omega)) | (simp; done) | (simp; omega) | rfl) ?_
    refine oS ?_
    iterate 2 refine oG (hok := by first | with_reducible rfl | omega | (cases typB n <;> cases m.all typB <;> cases y.all typB <;> rfl) | (rw [hJ]; exact decide_eq_true (by omega)) | (simp; done) | (simp; omega) | rfl) ?_
    refine oC (hok := by first | with_reducible rfl | omega | (cases typB n <;> cases m.all typB <;> cases y.all typB <;> rfl) | (rw [hJ]; exact decide_eq_true (by omega)) | (simp; done) | (simp; omega) | rfl) ?_
    iterate 2 refine oG (hok := by first | with_reducible rfl | omega | (cases typB n <;> cases m.all typB <;> cases y.all typB <;> rfl) | (rw [hJ]; exact decide_eq_true (by omega)) | (simp; done) | (simp; omega) | rfl) ?_
    refine oS ?_
    iterate 2 refine oG (hok := by first | with_reducible rfl | omega | (cases typB n <;> cases m.all typB <;> cases y.all typB <;> rfl) | (rw [hJ]; exact decide_eq_true (by omega)) | (simp; done) | (simp; omega) | rfl) ?_
    refine oC (hok := by first | with_reducible rfl | omega | (cases typB n <;> cases m.all typB <;> cases y.all typB <;> rfl) | (rw [hJ]; exact decide_eq_true (by omega)) | (simp; done) | (simp; omega) | rfl) ?_
    iterate 2 refine oG (hok := by first | with_reducible rfl | omega | (cases typB n <;> cases m.all typB <;> cases y.all typB <;> rfl) | (rw [hJ]; exact decide_eq_true (by omega)) | (simp; done) | (simp; omega) | rfl) ?_
    refine oS ?_
    refine oN ?_
    refine thenQ_normal ?_
    refine WI.cond (b := _) rfl rfl (fun h0 => ?_) (fun h0 => ?_)
    · try simp only [zB] at h0
      have hp : putC n m y = ([], 13) := by unfold putC; exact if_neg (by rintro ⟨k1, k2, k3⟩; simp [k1, k2, k3] at h0)
      refine WI.seq ?_
      refine WI.regB tabDf7_ok [2, 3] ?_
      iterate 2 refine oS ?_
      refine oN ?_
      refine thenQ_normal ?_
      refine WI.ret ?_
      refine blockQ_ret ?_
      refine thenQ_ret ?_
      first | refine lfR ?_ | refine lfR2 ?_
      first | (rw [hp]; done) | (rw [hp, hJ]; done) | (rw [hp, hJ]; rfl) -- leaf 0
    · try simp only [zB] at h0
      refine WI.seq ?_
      refine WI.regB tabDf7_ok [1, 22] ?_
      refine oS ?_
      iterate 3 refine oG (hok := by first | with_reducible rfl | omega | (cases typB n <;> cases m.all typB <;> cases y.all typB <;> rfl) | (rw [hJ]; exact decide_eq_true (by omega)) | (simp; done) | (simp; omega) | rfl) ?_
      refine oS ?_
      iterate 5 refine oG (hok := by first | with_reducible rfl | omega | (cases typB n <;> cases m.all typB <;> cases y.all typB <;> rfl) | (rw [hJ]; exact decide_eq_true (by omega)) | (simp; done) | (simp; omega) | rfl) ?_
      refine oS ?_
      refine oN ?_
      refine thenQ_normal ?_
      refine WI.cond (b := _) rfl rfl (fun h1 => ?_) (fun h1 => ?_)
      · try simp only [zB] at h1
        have hp : putC n m y = ([], 3) := by unfold putC; rw [if_pos (by simpa [and_assoc] using h0), if_neg (by omega)]
        refine WI.seq ?_
        refine WI.regB tabDf7_ok [2, 3] ?_
        iterate 2 refine oS ?_
        refine oN ?_
        refine thenQ_normal ?_
        refine WI.ret ?_
        refine blockQ_ret ?_
        refine thenQ_ret ?_
        first | refine lfR ?_ | refine lfR2 ?_
        first | (rw [hp]; done) | (rw [hp, hJ]; done) | (rw [hp, hJ]; rfl) -- leaf 1
      · try simp only [zB] at h1
        have hp : putC n m y = (jn (wordsC n m y), 0) := by unfold putC; rw [if_pos (by simpa [and_assoc] using h0), if_pos (by omega)]
        refine WI.skip ?_
        refine blockQ_normal ?_
        refine thenQ_normal ?_
        refine WI.seq ?_
        refine WI.regB tabDf7_ok [1, 4] ?_
        refine oS ?_
        iterate 4 refine oG (hok := by first | with_reducible rfl | omega | (cases typB n <;> cases m.all typB <;> cases y.all typB <;> rfl) | (rw [hJ]; exact decide_eq_true (by omega)) | (simp; done) | (simp; omega) | rfl) ?_
        refine oS ?_
        refine oN ?_
        refine thenQ_normal ?_
        refine WI.seq ?_
        refine WI.regB tabDf7_ok [1, 4] ?_
        iterate 2 refine oS ?_
        refine oG (hok := by first | with_reducible rfl | omega | (cases typB n <;> cases m.all typB <;> cases y.all typB <;> rfl) | (rw [hJ]; exact decide_eq_true (by omega)) | (simp; done) | (simp; omega) | rfl) ?_
        refine oC (hok := by first | with_reducible rfl | omega | (cases typB n <;> cases m.all typB <;> cases y.all typB <;> rfl) | (rw [hJ]; exact decide_eq_true (by omega)) | (simp; done) | (simp; omega) | rfl) ?_
        refine oG (hok := by first | with_reducible rfl | omega | (cases typB n <;> cases m.all typB <;> cases y.all typB <;> rfl) | (rw [hJ]; exact decide_eq_true (by omega)) | (simp; done) | (simp; omega) | rfl) ?_
        refine oS ?_
        refine oN ?_
        refine thenQ_normal ?_
        refine WI.seq ?_
        refine WI.regB tabDf7_ok [4] ?_
        iterate 2 refine oS ?_
        refine oG (hok := by first | with_reducible rfl | omega | (cases typB n <;> cases m.all typB <;> cases y.all typB <;> rfl) | (rw [hJ]; exact decide_eq_true (by omega)) | (simp; done) | (simp; omega) | rfl) ?_
        refine oC (hok := by first | with_reducible rfl | omega | (cases typB n <;> cases m.all typB <;> cases y.all typB <;> rfl) | (rw [hJ]; exact decide_eq_true (by omega)) | (simp; done) | (simp; omega) | rfl) ?_
        refine oG (hok := by first | with_reducible rfl | omega | (cases typB n <;> cases m.all typB <;> cases y.all typB <;> rfl) | (rw [hJ]; exact decide_eq_true (by omega)) | (simp; done) | (simp; omega) | rfl) ?_
        refine oS ?_
        refine oN ?_
        refine thenQ_normal ?_
        refine WI.seq ?_
        refine WI.regB tabDf7_ok [2, 3] ?_
        refine oS ?_
        iterate 2 refine oG (hok := by first | with_reducible rfl | omega | (cases typB n <;> cases m.all typB <;> cases y.all typB <;> rfl) | (rw [hJ]; exact decide_eq_true (by omega)) | (simp; done) | (simp; omega) | rfl) ?_
        refine oC (hok := by first | with_reducible rfl | omega | (cases typB n <;> cases m.all typB <;> cases y.all typB <;> rfl) | (rw [hJ]; exact decide_eq_true (by omega)) | (simp; done) | (simp; omega) | rfl) ?_
        iterate 2 refine oS ?_
        refine oN ?_
        refine thenQ_normal ?_
        refine WI.ret ?_
        first | refine lfR ?_ | refine lfR2 ?_
        first | (rw [hp]; done) | (rw [hp, hJ]; done) | (rw [hp, hJ]; rfl) -- leaf 2
  · have hLM : listW wMUST m = [wMUST, [40], jd m, [41]] := if_neg em
    have hLY : listW wMAY y = [wMAY, [40], jd y, [41]] := if_neg ey
    have hW : wordsC n m y = [[40], wNAME, 39 :: n ++ [39], wMUST, [40], jd m, [41], wMAY, [40], jd y, [41], [41]] := by unfold wordsC; rw [hLM, hLY]; rfl
    have hJ : Lib.join [[40], [78, 65, 77, 69], 39 :: (n ++ [39]), wMUST, [40], jd m, [41], wMAY, [40], jd y, [41], [41]] [32] = jn (wordsC n m y) := by rw [hW, join_jn]; rfl
    refine FCalls.pure (fcallsG (fz := true) G_ok (p := i16) rfl _ (Nat.le_of_ble_eq_true rfl) _ (fun C0 E0 => ?_)) rfl
    dsimp only [i16, argsφ]
    have uu := And.intro @typedG.eq_1 (And.intro @typedG.eq_2 (And.intro @allG.eq_1 (And.intro @allG.eq_2 (And.intro @listG.eq_1 (And.intro @listG.eq_2 (And.intro @joinG.eq_1 (And.intro @joinG.eq_2 (And.intro @un_s4 (And.intro @un_s8 (And.intro @un_s12 (And.intro @rows_0 (And.intro @rows_4 (And.intro hLM (And.intro hLY (And.intro hsm (And.intro hsy (And.intro @tabDf7_r (And.intro @tabDf7_k (And.intro @tabDf7_q27 (And.intro @tabDf7_q29 (And.intro @tabDf7_q32 (And.intro @tabDf7_q33 (And.intro @tabDf7_t29 (@frzT.eq_1))))))))))))))))))))))))
    refine WI.seq ?_
    refine WI.regB tabDf7_ok [1] ?_
    refine oG (hok := by first | with_reducible rfl | omega | (cases typB n <;> cases m.all typB <;> cases y.all typB <;> rfl) | (rw [hJ]; exact decide_eq_true (by omega)) | (simp; done) | (simp; omega) | rfl) ?_
    iterate 2 refine oS ?_
    refine oN ?_
    refine thenQ_normal ?_
    refine WI.seq ?_
    refine WI.block ?_
    refine WI.seq ?_
    refine WI.regB tabDf7_ok [1, 5] ?_
    refine oS ?_
    refine oG (hok := by first | with_reducible rfl | omega | (cases typB n <;> cases m.all typB <;> cases y.all typB <;> rfl) | (rw [hJ]; exact decide_eq_true (by omega)) | (simp; done) | (simp; omega) | rfl) ?_
    refine oC (hok := by first | with_reducible rfl | omega | (cases typB n <;> cases m.all typB <;> cases y.all typB <;> rfl) | (rw [hJ]; exact decide_eq_true (by omega)) | (simp; done) | (simp; omega) | rfl) ?_
    refine oG (hok := by first | with_reducible rfl | omega | (cases typB n <;> cases m.all typB <;> cases y.all typB <;> rfl) | (rw [hJ]; exact decide_eq_true (by omega)) | (simp; done) | (simp; omega) | rfl) ?_
    refine oS ?_
    iterate 2 refine oG (hok := by first | with_reducible rfl | omega | (cases typB n <;> cases m.all typB <;> cases y.all typB <;> rfl) | (rw [hJ]; exact decide_eq_true (by omega)) | (simp; done) | (simp; omega) | rfl) ?_
    refine oC (hok := by first | with_reducible rfl | omega | (cases typB n <;> cases m.all typB <;> cases y.all typB <;> rfl) | (rw [hJ]; exact decide_eq_true (by omega)) | (simp; done) | (simp; omega) | rfl) ?_
    iterate 2 refine oG (hok := by first | with_reducible rfl | omega | (cases typB n <;> cases m.all typB <;> cases y.all typB <;> rfl) | (rw [hJ]; exact decide_eq_true (by omega)) | (simp; done) | (simp; omega) | rfl) ?_
    refine oS ?_
    iterate 2 refine oG (hok := by first | with_reducible rfl | omega | (cases typB n <;> cases m.all typB <;> cases y.all typB <;> rfl) | (rw [hJ]; exact decide_eq_true (by omega)) | (simp; done) | (simp; omega) | rfl) ?_
    refine oC (hok := by first | with_reducible rfl | omega | (cases typB n <;> cases m.all typB <;> cases y.all typB <;> rfl) | (rw [hJ]; exact decide_eq_true (by omega)) | (simp; done) | (simp; omega) | rfl) ?_
    iterate 2 refine oG (hok := by first | with_reducible rfl | omega | (cases typB n <;> cases m.all typB <;> cases y.all typB <;> rfl) | (rw [hJ]; exact decide_eq_true (by omega)) | (simp; done) | (simp; omega) | rfl) ?_
    refine oS ?_
    refine oN ?_
    refine thenQ_normal ?_
    refine WI.cond (b := _) rfl rfl (fun h0 => ?_) (fun h0 => ?_)
    · try simp only [zB] at h0
      have hp : putC n m y = ([], 13) := by unfold putC; exact if_neg (by rintro ⟨k1, k2, k3⟩; simp [k1, k2, k3] at h0)
      refine WI.seq ?_
      refine WI.regB tabDf7_ok [2, 3] ?_
      iterate 2 refine oS ?_
      refine oN ?_
      refine thenQ_normal ?_
      refine WI.ret ?_
      refine blockQ_ret ?_
      refine thenQ_ret ?_
      first | refine lfR ?_ | refine lfR2 ?_
      first | (rw [hp]; done) | (rw [hp, hJ]; done) | (rw [hp, hJ]; rfl) -- leaf 0
    · try simp only [zB] at h0
      refine WI.seq ?_
      refine WI.regB tabDf7_ok [1, 22] ?_
      refine oS ?_
      iterate 3 refine oG (hok := by first | with_reducible rfl | omega | (cases typB n <;> cases m.all typB <;> cases y.all typB <;> rfl) | (rw [hJ]; exact decide_eq_true (by omega)) | (simp; done) | (simp; omega) | rfl) ?_
      refine oS ?_
      iterate 5 refine oG (hok := by first | with_reducible rfl | omega | (cases typB n <;> cases m.all typB <;> cases y.all typB <;> rfl) | (rw [hJ]; exact decide_eq_true (by omega)) | (simp; done) | (simp; omega) | rfl) ?_
      refine oS ?_
      refine oN ?_
      refine thenQ_normal ?_
      refine WI.cond (b := _) rfl rfl (fun h1 => ?_) (fun h1 => ?_)
      · try simp only [zB] at h1
        have hp : putC n m y = ([], 3) := by unfold putC; rw [if_pos (by simpa [and_assoc] using h0), if_neg (by omega)]
        refine WI.seq ?_
        refine WI.regB tabDf7_ok [2, 3] ?_
        iterate 2 refine oS ?_
        refine oN ?_
        refine thenQ_normal ?_
        refine WI.ret ?_
        refine blockQ_ret ?_
        refine thenQ_ret ?_
        first | refine lfR ?_ | refine lfR2 ?_
        first | (rw [hp]; done) | (rw [hp, hJ]; done) | (rw [hp, hJ]; rfl) -- leaf 1
      · try simp only [zB] at h1
        have hp : putC n m y = (jn (wordsC n m y), 0) := by unfold putC; rw [if_pos (by simpa [and_assoc] using h0), if_pos (by omega)]
        refine WI.skip ?_
        refine blockQ_normal ?_
        refine thenQ_normal ?_
        refine WI.seq ?_
        refine WI.regB tabDf7_ok [1, 4] ?_
        refine oS ?_
        iterate 4 refine oG (hok := by first | with_reducible rfl | omega | (cases typB n <;> cases m.all typB <;> cases y.all typB <;> rfl) | (rw [hJ]; exact decide_eq_true (by omega)) | (simp; done) | (simp; omega) | rfl) ?_
        refine oS ?_
        refine oN ?_
        refine thenQ_normal ?_
        refine WI.seq ?_
        refine WI.regB tabDf7_ok [1, 4] ?_
        iterate 2 refine oS ?_
        refine oG (hok := by first | with_reducible rfl | omega | (cases typB n <;> cases m.all typB <;> cases y.all typB <;> rfl) | (rw [hJ]; exact decide_eq_true (by omega)) | (simp; done) | (simp; omega) | rfl) ?_
        refine oC (hok := by first | with_reducible rfl | omega | (cases typB n <;> cases m.all typB <;> cases y.all typB <;> rfl) | (rw [hJ]; exact decide_eq_true (by omega)) | (simp; done) | (simp; omega) | rfl) ?_
        refine oG (hok := by first | with_reducible rfl | omega | (cases typB n <;> cases m.all typB <;> cases y.all typB <;> rfl) | (rw [hJ]; exact decide_eq_true (by omega)) | (simp; done) | (simp; omega) | rfl) ?_
        refine oS ?_
        refine oN ?_
        refine thenQ_normal ?_
        refine WI.seq ?_
        refine WI.regB tabDf7_ok [4] ?_
        iterate 2 refine oS ?_
        refine oG (hok := by first | with_reducible rfl | omega | (cases typB n <;> cases m.all typB <;> cases y.all typB <;> rfl) | (rw [hJ]; exact decide_eq_true (by omega)) | (simp; done) | (simp; omega) | rfl) ?_
        refine oC (hok := by first | with_reducible rfl | omega | (cases typB n <;> cases m.all typB <;> cases y.all typB <;> rfl) | (rw [hJ]; exact decide_eq_true (by omega)) | (simp; done) | (simp; omega) | rfl) ?_
        refine oG (hok := by first | with_reducible rfl | omega | (cases typB n <;> cases m.all typB <;> cases y.all typB <;> rfl) | (rw [hJ]; exact decide_eq_true (by omega)) | (simp; done) | (simp; omega) | rfl) ?_
        refine oS ?_
        refine oN ?_
        refine thenQ_normal ?_
        refine WI.seq ?_
        refine WI.regB tabDf7_ok [2, 3] ?_
        refine oS ?_
        iterate 2 refine oG (hok := by first | with_reducible rfl | omega | (cases typB n <;> cases m.all typB <;> cases y.all typB <;> rfl) | (rw [hJ]; exact decide_eq_true (by omega)) | (simp; done) | (simp; omega) | rfl) ?_
        refine oC (hok := by first | with_reducible rfl | omega | (cases typB n <;> cases m.all typB <;> cases y.all typB <;> rfl) | (rw [hJ]; exact decide_eq_true (by omega)) | (simp; done) | (simp; omega) | rfl) ?_
        iterate 2 refine oS ?_
        refine oN ?_
        refine thenQ_normal ?_
        refine WI.ret ?_
        first | refine lfR ?_ | refine lfR2 ?_
        first | (rw [hp]; done) | (rw [hp, hJ]; done) | (rw [hp, hJ]; rfl) -- leaf 2
end Go.Proofs.YtobflnngfochiaaDoor
end
section
/- Defs: reading classes. -/
set_option linter.unusedSimpArgs false
set_option linter.unusedVariables false
namespace Go.Proofs.YtobflnngfochiaaDoor
open Go.RowKit Go.Bo Go.Ab

/-- The names behind a word and a bracket, and what stands behind. -/
def tkGo : List (List UInt8) → Option (List (List UInt8) × List (List UInt8))
  | x :: y :: r => if typB x then if y = [41] then some ([x], r) else if y = [36] then (tkGo r).map fun p => (x :: p.1, p.2) else none else none
  | _ => none
abbrev Tk := List (List UInt8) × List (List UInt8) × Bool
def tkW (w : List UInt8) (l : List (List UInt8)) : Tk :=
  match l with
  | a :: b :: c :: d :: r => if a = w then if b = [40] then match tkGo (c :: d :: r) with
      | none => ([], [], false)
      | some p => (p.1, p.2, decide ((p.1.length : Int) ≤ 64)) else ([], [], false) else ([], l, true)
  | a :: _ => if a = w then ([], [], false) else ([], l, true)
  | [] => ([], [], true)
theorem rs_drop (l : List (List UInt8)) (k : Nat) : (rows rStr l).drop k = rows rStr (l.drop k) := by simp [rows]
theorem tkGo_le : ∀ (l : List (List UInt8)) (p), tkGo l = some p → p.1.length ≤ l.length ∧ p.2.length ≤ l.length
  | [], _, h => by simp [tkGo] at h
  | [_], _, h => by simp [tkGo] at h
  | x :: y :: r, p, h => by
    unfold tkGo at h
    split at h
    · split at h
      · cases h; simp; omega
      · split at h
        · obtain ⟨q, hq, rfl⟩ := Option.map_eq_some_iff.1 h
          have := tkGo_le r q hq
          simp; omega
        · cases h
    · cases h
def tabDf8 : Tabs := addQ (noTabs) 27 typedG
theorem tabDf8_ok : SsOk Tryd.prog tabDf8 := addQ_ok (noTabs_ok) (G_enters G_ok (p := i27) rfl) typedG_ok
theorem tabDf8_q27 (a : List D) : tabDf8.q 27 a = typedG a := rfl
theorem tabDf8_r (f : FuncId) (a : List D) (o : List Ob) : tabDf8.r f a o = none := rfl
theorem tabDf8_k (f : FuncId) (a : List D) (o : List Ob) : tabDf8.k f a o = none := rfl
theorem take_c (w : List UInt8) (l : List (List UInt8)) (h : shrt l) : PCalls Tryd.prog 35 [.x (.str w), .x (.sl (rows rStr l))] (.tup [.x (.sl (rows rStr (tkW w l).1)), .x (.sl (rows rStr (tkW w l).2.1)), .x (.bool (tkW w l).2.2)]) := by
  rcases l with _ | ⟨a, _ | ⟨b, _ | ⟨c, _ | ⟨d, r⟩⟩⟩⟩
  · have c1 : ((0 : Nat) : Int) = 0 := rfl
    have c2 : decide ((0 : Int) < 4) = true := rfl
    refine FCalls.pure (fcallsG (fz := true) G_ok (p := i35) rfl _ (Nat.le_of_ble_eq_true rfl) _ (fun C0 E0 => ?_)) rfl
    dsimp only [i35, argsφ]
    have uu := And.intro @typedG.eq_1 (And.intro @typedG.eq_2 (And.intro @rows_0 (And.intro @rows_1 (And.intro @rows_2 (And.intro @rows_3 (And.intro @List.getElem?_nil.{0} (And.intro @c1 (And.intro @c2 (And.intro @tabDf8_r (And.intro @tabDf8_k (@tabDf8_q27)))))))))))
    refine WI.seq ?_
    refine WI.regB tabDf8_ok [0, 1] ?_
    iterate 3 refine oS ?_
    refine oN ?_
    refine thenQ_normal ?_
    refine WI.seq ?_
    refine WI.seq ?_
    refine WI.regB tabDf8_ok [1, 17] ?_
    refine oS ?_
    iterate 2 refine oG ?_
    refine oS ?_
    iterate 6 refine oG ?_
    refine oN ?_
    refine thenQ_normal ?_
    refine WI.cond (b := _) rfl rfl (fun h0 => ?_) (fun h0 => ?_)
    · try simp only [zB] at h0
      refine WI.seq ?_
      refine WI.regB tabDf8_ok [4, 5, 6] ?_
      iterate 4 refine oS ?_
      refine oN ?_
      refine thenQ_normal ?_
      refine WI.nnA ?_
      refine WI.ret ?_
      refine thenQ_ret ?_
      first | refine lfR ?_ | refine lfR2 ?_
      rfl -- leaf 0
    · exfalso
      simp at h0
  · have c1 : ((1 : Nat) : Int) = 1 := rfl
    have c2 : decide ((1 : Int) < 4) = true := rfl
    refine FCalls.pure (fcallsG (fz := true) G_ok (p := i35) rfl _ (Nat.le_of_ble_eq_true rfl) _ (fun C0 E0 => ?_)) rfl
    dsimp only [i35, argsφ]
    have uu := And.intro @typedG.eq_1 (And.intro @typedG.eq_2 (And.intro @rows_0 (And.intro @rows_1 (And.intro @rows_2 (And.intro @rows_3 (And.intro @List.getElem?_nil.{0} (And.intro @c1 (And.intro @c2 (And.intro @tabDf8_r (And.intro @tabDf8_k (@tabDf8_q27)))))))))))
    refine WI.seq ?_
    refine WI.regB tabDf8_ok [0, 1] ?_
    iterate 3 refine oS ?_
    refine oN ?_
    refine thenQ_normal ?_
    refine WI.seq ?_
    refine WI.seq ?_
    refine WI.regB tabDf8_ok [1, 17] ?_
    refine oS ?_
    iterate 2 refine oG ?_
    refine oS ?_
    iterate 6 refine oG ?_
    refine oN ?_
    refine thenQ_normal ?_
    refine WI.cond (b := _) rfl rfl (fun h0 => ?_) (fun h0 => ?_)
    · try simp only [zB] at h0
      refine WI.seq ?_
      refine WI.regB tabDf8_ok [4, 5, 6] ?_
      iterate 4 refine oS ?_
      refine oN ?_
      refine thenQ_normal ?_
      refine WI.nnA ?_
      refine WI.ret ?_
      refine thenQ_ret ?_
      first | refine lfR ?_ | refine lfR2 ?_
      rw [show tkW w [a] = ([], [a], true) from if_neg (by simpa using h0)]; rfl -- leaf 0
    · try simp only [zB] at h0
      refine WI.skip ?_
      refine thenQ_normal ?_
      refine WI.seq ?_
      refine WI.seq ?_
      refine WI.regB tabDf8_ok [1, 27] ?_
      refine oS ?_
      iterate 2 refine oG ?_
      refine oS ?_
      iterate 5 refine oG ?_
      refine oN ?_
      refine thenQ_normal ?_
      refine WI.cond (b := _) rfl rfl (fun h1 => ?_) (fun h1 => ?_)
      · try simp only [zB] at h1
        refine WI.seq ?_
        refine WI.regB tabDf8_ok [4, 5, 6] ?_
        iterate 3 refine oS ?_
        refine oN ?_
        refine thenQ_normal ?_
        refine WI.nnA ?_
        refine WI.ret ?_
        refine thenQ_ret ?_
        first | refine lfR ?_ | refine lfR2 ?_
        rw [show tkW w [a] = ([], [], false) from if_pos (by simpa using h0)]; rfl -- leaf 1
      · exfalso
        simp at h1
  · have c1 : ((2 : Nat) : Int) = 2 := rfl
    have c2 : decide ((2 : Int) < 4) = true := rfl
    refine FCalls.pure (fcallsG (fz := true) G_ok (p := i35) rfl _ (Nat.le_of_ble_eq_true rfl) _ (fun C0 E0 => ?_)) rfl
    dsimp only [i35, argsφ]
    have uu := And.intro @typedG.eq_1 (And.intro @typedG.eq_2 (And.intro @rows_0 (And.intro @rows_1 (And.intro @rows_2 (And.intro @rows_3 (And.intro @List.getElem?_nil.{0} (And.intro @c1 (And.intro @c2 (And.intro @tabDf8_r (And.intro @tabDf8_k (@tabDf8_q27)))))))))))
    refine WI.seq ?_
    refine WI.regB tabDf8_ok [0, 1] ?_
    iterate 3 refine oS ?_
    refine oN ?_
    refine thenQ_normal ?_
    refine WI.seq ?_
    refine WI.seq ?_
    refine WI.regB tabDf8_ok [1, 17] ?_
    refine oS ?_
    iterate 2 refine oG ?_
    refine oS ?_
    iterate 6 refine oG ?_
    refine oN ?_
    refine thenQ_normal ?_
    refine WI.cond (b := _) rfl rfl (fun h0 => ?_) (fun h0 => ?_)
    · try simp only [zB] at h0
      refine WI.seq ?_
      refine WI.regB tabDf8_ok [4, 5, 6] ?_
      iterate 4 refine oS ?_
      refine oN ?_
      refine thenQ_normal ?_
      refine WI.nnA ?_
      refine WI.ret ?_
      refine thenQ_ret ?_
      first | refine lfR ?_ | refine lfR2 ?_
      rw [show tkW w [a, b] = ([], [a, b], true) from if_neg (by simpa using h0)]; rfl -- leaf 0
    · try simp only [zB] at h0
      refine WI.skip ?_
      refine thenQ_normal ?_
      refine WI.seq ?_
      refine WI.seq ?_
      refine WI.regB tabDf8_ok [1, 27] ?_
      refine oS ?_
      iterate 2 refine oG ?_
      refine oS ?_
      iterate 5 refine oG ?_
      refine oN ?_
      refine thenQ_normal ?_
      refine WI.cond (b := _) rfl rfl (fun h1 => ?_) (fun h1 => ?_)
      · try simp only [zB] at h1
        refine WI.seq ?_
        refine WI.regB tabDf8_ok [4, 5, 6] ?_
        iterate 3 refine oS ?_
        refine oN ?_
        refine thenQ_normal ?_
        refine WI.nnA ?_
        refine WI.ret ?_
        refine thenQ_ret ?_
        first | refine lfR ?_ | refine lfR2 ?_
        rw [show tkW w [a, b] = ([], [], false) from if_pos (by simpa using h0)]; rfl -- leaf 1
      · exfalso
        simp at h1
  · have c1 : ((3 : Nat) : Int) = 3 := rfl
    have c2 : decide ((3 : Int) < 4) = true := rfl
    refine FCalls.pure (fcallsG (fz := true) G_ok (p := i35) rfl _ (Nat.le_of_ble_eq_true rfl) _ (fun C0 E0 => ?_)) rfl
    dsimp only [i35, argsφ]
    have uu := And.intro @typedG.eq_1 (And.intro @typedG.eq_2 (And.intro @rows_0 (And.intro @rows_1 (And.intro @rows_2 (And.intro @rows_3 (And.intro @List.getElem?_nil.{0} (And.intro @c1 (And.intro @c2 (And.intro @tabDf8_r (And.intro @tabDf8_k (@tabDf8_q27)))))))))))
    refine WI.seq ?_
    refine WI.regB tabDf8_ok [0, 1] ?_
    iterate 3 refine oS ?_
    refine oN ?_
    refine thenQ_normal ?_
    refine WI.seq ?_
    refine WI.seq ?_
    refine WI.regB tabDf8_ok [1, 17] ?_
    refine oS ?_
    iterate 2 refine oG ?_
    refine oS ?_
    iterate 6 refine oG ?_
    refine oN ?_
    refine thenQ_normal ?_
    refine WI.cond (b := _) rfl rfl (fun h0 => ?_) (fun h0 => ?_)
    · try simp only [zB] at h0
      refine WI.seq ?_
      refine WI.regB tabDf8_ok [4, 5, 6] ?_
      iterate 4 refine oS ?_
      refine oN ?_
      refine thenQ_normal ?_
      refine WI.nnA ?_
      refine WI.ret ?_
      refine thenQ_ret ?_
      first | refine lfR ?_ | refine lfR2 ?_
      rw [show tkW w [a, b, c] = ([], [a, b, c], true) from if_neg (by simpa using h0)]; rfl -- leaf 0
    · try simp only [zB] at h0
      refine WI.skip ?_
      refine thenQ_normal ?_
      refine WI.seq ?_
      refine WI.seq ?_
      refine WI.regB tabDf8_ok [1, 27] ?_
      refine oS ?_
      iterate 2 refine oG ?_
      refine oS ?_
      iterate 5 refine oG ?_
      refine oN ?_
      refine thenQ_normal ?_
      refine WI.cond (b := _) rfl rfl (fun h1 => ?_) (fun h1 => ?_)
      · try simp only [zB] at h1
        refine WI.seq ?_
        refine WI.regB tabDf8_ok [4, 5, 6] ?_
        iterate 3 refine oS ?_
        refine oN ?_
        refine thenQ_normal ?_
        refine WI.nnA ?_
        refine WI.ret ?_
        refine thenQ_ret ?_
        first | refine lfR ?_ | refine lfR2 ?_
        rw [show tkW w [a, b, c] = ([], [], false) from if_pos (by simpa using h0)]; rfl -- leaf 1
      · exfalso
        simp at h1
  · have hl := h.1
    have hE : ∀ x ∈ c :: d :: r, x.length ≤ 1000 := fun x hx => h.2 x (List.mem_cons_of_mem _ (List.mem_cons_of_mem _ hx))
    simp only [List.length_cons] at hl
    by_cases ha : a = w
    · by_cases hb : b = [40]
      · have hp : tkW w (a :: b :: c :: d :: r) = match tkGo (c :: d :: r) with | none => ([], [], false) | some p => (p.1, p.2, decide ((p.1.length : Int) ≤ 64)) := by
          show (if a = w then _ else _) = _
          rw [if_pos ha, if_pos hb]
        rw [hp]
        subst ha hb
        have hc : (c :: d :: r).length ≤ 1000 := by simp only [List.length_cons]; omega
        have hm2 : 2 ≤ (c :: d :: r).length := by simp
        generalize c :: d :: r = M0 at hE hc hm2
        have c2 : rows rStr (a :: [40] :: M0) = [.str a] :: [.str [40]] :: rows rStr M0 := rfl
        have c3 : decide (((M0.length + 1 + 1 : Nat) : Int) < 4) = false := decide_eq_false (by omega)
        have c4 : ([X.str a] :: [X.str [40]] :: rows rStr M0).drop 2 = rows rStr M0 := rfl
        refine FCalls.pure (fcallsG (fz := true) G_ok (p := i35) rfl _ (Nat.le_of_ble_eq_true rfl) _ (fun C0 E0 => ?_)) rfl
        dsimp only [i35, argsφ]
        have uu := And.intro @typedG.eq_1 (And.intro @typedG.eq_2 (And.intro @c2 (And.intro @c3 (And.intro @c4 (And.intro @tabDf8_r (And.intro @tabDf8_k (@tabDf8_q27)))))))
        refine WI.seq ?_
        refine WI.regB tabDf8_ok [0, 1] ?_
        iterate 3 refine oS ?_
        refine oN ?_
        refine thenQ_normal ?_
        refine WI.seq ?_
        refine WI.seq ?_
        refine WI.regB tabDf8_ok [1, 17] ?_
        refine oS ?_
        iterate 2 refine oG (hok := by first | with_reducible rfl | omega | (exact decide_eq_true (by simp only [List.length_append, rows_len, List.length_cons, List.length_nil])) | (simp; done) | (simp; omega) | rfl) ?_
        refine oS ?_
        iterate 6 refine oG (hok := by first | with_reducible rfl | omega | (exact decide_eq_true (by simp only [List.length_append, rows_len, List.length_cons, List.length_nil])) | (simp; done) | (simp; omega) | rfl) ?_
        refine oN ?_
        refine thenQ_normal ?_
        refine WI.cond (b := _) rfl rfl (fun h0 => ?_) (fun h0 => ?_)
        · exfalso
          first | omega | (simp at h0; done) | (simp at h0; omega)
        · try simp only [zB] at h0
          refine WI.skip ?_
          refine thenQ_normal ?_
          refine WI.seq ?_
          refine WI.seq ?_
          refine WI.regB tabDf8_ok [1, 27] ?_
          refine oS ?_
          iterate 2 refine oG (hok := by first | with_reducible rfl | omega | (exact decide_eq_true (by simp only [List.length_append, rows_len, List.length_cons, List.length_nil])) | (simp; done) | (simp; omega) | rfl) ?_
          refine oS ?_
          iterate 5 refine oG (hok := by first | with_reducible rfl | omega | (exact decide_eq_true (by simp only [List.length_append, rows_len, List.length_cons, List.length_nil])) | (simp; done) | (simp; omega) | rfl) ?_
          refine oN ?_
          refine thenQ_normal ?_
          refine WI.cond (b := _) rfl rfl (fun h1 => ?_) (fun h1 => ?_)
          · exfalso
            first | omega | (simp at h1; done) | (simp at h1; omega)
          · try simp only [zB] at h1
            refine WI.skip ?_
            refine thenQ_normal ?_
            refine WI.seq ?_
            refine WI.regB tabDf8_ok [1, 7] ?_
            refine oS ?_
            refine oN ?_
            refine thenQ_normal ?_
            refine WI.seq ?_
            refine WI.regB tabDf8_ok [1, 7] ?_
            refine oS ?_
            refine oG (hok := by first | with_reducible rfl | omega | (exact decide_eq_true (by simp only [List.length_append, rows_len, List.length_cons, List.length_nil])) | (simp; done) | (simp; omega) | rfl) ?_
            refine oS ?_
            refine oN ?_
            refine thenQ_normal ?_
            refine WI.block ?_
            refine WI.ownA 7 9 1 ?_
            refine WI.loop (fun φ os => ∃ (o M : List (List UInt8)), φ = [(1, .x (.sl (rows rStr M))), (7, .ref 0 o.length 0 o.length)] ∧ os = [.rows false 9 1 (rows rStr o)] ∧ (tkGo M0 = (tkGo M).map fun p => (o ++ p.1, p.2)) ∧ (∀ x ∈ M, x.length ≤ 1000) ∧ M.length + o.length ≤ 1000) (fun φ _ => match φ with | (_, .x (.sl R)) :: _ => R.length | _ => 0) ?_ (fun φ os hI => ?_)
            · exact ⟨[], _, rfl, rfl, by simp, hE, by simp only [List.length_nil]; omega⟩
            · obtain ⟨o, M, rfl, rfl, hM, hME, hMl⟩ := hI
              refine WI.block ?_
              refine WI.seq ?_
              refine WI.seq ?_
              rcases M with _ | ⟨x, _ | ⟨y, M⟩⟩
              · have c1 : ((0 : Nat) : Int) = 0 := rfl
                have c5 : decide ((0 : Int) < 2) = true := rfl
                have hN : tkGo M0 = none := by rw [hM]; rfl
                rw [hN]
                have uu := And.intro uu (And.intro c1 (And.intro c5 (And.intro rows_0 (@List.getElem?_nil.{0}))))
                refine WI.regB tabDf8_ok [1, 4, 5, 6, 7, 39] ?_
                refine oS ?_
                iterate 2 refine oG (hok := by first | with_reducible rfl | omega | (exact decide_eq_true (by simp only [List.length_append, rows_len, List.length_cons, List.length_nil])) | (simp; done) | (simp; omega) | rfl) ?_
                refine oS ?_
                iterate 3 refine oG (hok := by first | with_reducible rfl | omega | (exact decide_eq_true (by simp only [List.length_append, rows_len, List.length_cons, List.length_nil])) | (simp; done) | (simp; omega) | rfl) ?_
                refine oC (hok := by first | with_reducible rfl | omega | (exact decide_eq_true (by simp only [List.length_append, rows_len, List.length_cons, List.length_nil])) | (simp; done) | (simp; omega) | rfl) ?_
                iterate 2 refine oG (hok := by first | with_reducible rfl | omega | (exact decide_eq_true (by simp only [List.length_append, rows_len, List.length_cons, List.length_nil])) | (simp; done) | (simp; omega) | rfl) ?_
                refine oN ?_
                refine thenQ_normal ?_
                refine WI.cond (b := _) rfl rfl (fun h2 => ?_) (fun h2 => ?_)
                · try simp only [zB] at h2
                  refine WI.seq ?_
                  refine WI.regB tabDf8_ok [4, 5, 6] ?_
                  iterate 3 refine oS ?_
                  refine oN ?_
                  refine thenQ_normal ?_
                  refine WI.nnA ?_
                  refine WI.ret ?_
                  refine thenQ_ret ?_
                  refine blockQ_ret ?_
                  refine thenQ_ret ?_
                  refine blockQ_ret ?_
                  first | refine lfR ?_ | refine lfR2 ?_
                  (try rw [List.take_of_length_le (by simp only [List.length_append, rows_len, List.length_cons, List.length_nil]; omega), ← rows_str]); first | rfl | (simp; done) | (simp; rfl) -- leaf 0
                · exfalso
                  simp at h2
              · have c1 : ((1 : Nat) : Int) = 1 := rfl
                have c5 : decide ((1 : Int) < 2) = true := rfl
                have hN : tkGo M0 = none := by rw [hM]; rfl
                rw [hN]
                have uu := And.intro uu (And.intro c1 (And.intro c5 (rows_1 x)))
                refine WI.regB tabDf8_ok [1, 4, 5, 6, 7, 39] ?_
                refine oS ?_
                iterate 2 refine oG (hok := by first | with_reducible rfl | omega | (exact decide_eq_true (by simp only [List.length_append, rows_len, List.length_cons, List.length_nil])) | (simp; done) | (simp; omega) | rfl) ?_
                refine oS ?_
                iterate 3 refine oG (hok := by first | with_reducible rfl | omega | (exact decide_eq_true (by simp only [List.length_append, rows_len, List.length_cons, List.length_nil])) | (simp; done) | (simp; omega) | rfl) ?_
                refine oC (hok := by first | with_reducible rfl | omega | (exact decide_eq_true (by simp only [List.length_append, rows_len, List.length_cons, List.length_nil])) | (simp; done) | (simp; omega) | rfl) ?_
                iterate 2 refine oG (hok := by first | with_reducible rfl | omega | (exact decide_eq_true (by simp only [List.length_append, rows_len, List.length_cons, List.length_nil])) | (simp; done) | (simp; omega) | rfl) ?_
                refine oN ?_
                refine thenQ_normal ?_
                refine WI.cond (b := _) rfl rfl (fun h2 => ?_) (fun h2 => ?_)
                · try simp only [zB] at h2
                  refine WI.seq ?_
                  refine WI.regB tabDf8_ok [4, 5, 6] ?_
                  iterate 3 refine oS ?_
                  refine oN ?_
                  refine thenQ_normal ?_
                  refine WI.nnA ?_
                  refine WI.ret ?_
                  refine thenQ_ret ?_
                  refine blockQ_ret ?_
                  refine thenQ_ret ?_
                  refine blockQ_ret ?_
                  first | refine lfR ?_ | refine lfR2 ?_
                  (try rw [List.take_of_length_le (by simp only [List.length_append, rows_len, List.length_cons, List.length_nil]; omega), ← rows_str]); first | rfl | (simp; done) | (simp; rfl) -- leaf 1
                · exfalso
                  simp at h2
              · have c5 : decide (((x :: y :: M).length : Int) < 2) = false := decide_eq_false (by simp; omega)
                have c6 : rows rStr (x :: y :: M) = [.str x] :: [.str y] :: rows rStr M := rfl
                have c7 : ([X.str x] :: [X.str y] :: rows rStr M).drop 2 = rows rStr M := rfl
                have hx1 := hME x List.mem_cons_self
                have hME2 : ∀ z ∈ M, z.length ≤ 1000 := fun z hz => hME z (List.mem_cons_of_mem _ (List.mem_cons_of_mem _ hz))
                simp only [List.length_cons] at hMl
                have uu := And.intro uu (And.intro c5 (And.intro c6 c7))
                refine WI.regB tabDf8_ok [1, 4, 5, 6, 7, 39] ?_
                refine oS ?_
                iterate 2 refine oG (hok := by first | with_reducible rfl | omega | (exact decide_eq_true (by simp only [List.length_append, rows_len, List.length_cons, List.length_nil])) | (simp; done) | (simp; omega) | rfl) ?_
                refine oS ?_
                iterate 3 refine oG (hok := by first | with_reducible rfl | omega | (exact decide_eq_true (by simp only [List.length_append, rows_len, List.length_cons, List.length_nil])) | (simp; done) | (simp; omega) | rfl) ?_
                refine oC (hok := by first | with_reducible rfl | omega | (exact decide_eq_true (by simp only [List.length_append, rows_len, List.length_cons, List.length_nil])) | (simp; done) | (simp; omega) | rfl) ?_
                iterate 2 refine oG (hok := by first | with_reducible rfl | omega | (exact decide_eq_true (by simp only [List.length_append, rows_len, List.length_cons, List.length_nil])) | (simp; done) | (simp; omega) | rfl) ?_
                refine oN ?_
                refine thenQ_normal ?_
                refine WI.cond (b := _) rfl rfl (fun h2 => ?_) (fun h2 => ?_)
                · try simp only [zB] at h2
                  have hN : tkGo M0 = none := by rw [hM, tkGo, if_neg (by rcases h2 with h2 | h2; exact absurd h2 (by omega); simpa using h2)]; rfl
                  rw [hN]
                  refine WI.seq ?_
                  refine WI.regB tabDf8_ok [4, 5, 6] ?_
                  iterate 3 refine oS ?_
                  refine oN ?_
                  refine thenQ_normal ?_
                  refine WI.nnA ?_
                  refine WI.ret ?_
                  refine thenQ_ret ?_
                  refine blockQ_ret ?_
                  refine thenQ_ret ?_
                  refine blockQ_ret ?_
                  first | refine lfR ?_ | refine lfR2 ?_
                  (try rw [List.take_of_length_le (by simp only [List.length_append, rows_len, List.length_cons, List.length_nil]; omega), ← rows_str]); first | rfl | (simp; done) | (simp; rfl) -- leaf 2
                · try simp only [zB] at h2
                  have hty : typB x = true := h2.2
                  refine WI.skip ?_
                  refine thenQ_normal ?_
                  refine WI.seq ?_
                  refine WI.post ?_
                  refine WI.regB tabDf8_ok [1, 4, 5, 6, 7] ?_
                  iterate 2 refine oS ?_
                  iterate 4 refine oG (hok := by first | with_reducible rfl | omega | (exact decide_eq_true (by simp only [List.length_append, rows_len, List.length_cons, List.length_nil])) | (simp; done) | (simp; omega) | rfl) ?_
                  refine oS ?_
                  refine oP ?_
                  refine pPick [0] ?_
                  refine pEnd ?_
                  refine thenQ_normal ?_
                  refine WI.seq ?_
                  refine WI.regB tabDf8_ok [1, 4, 5, 6, 7, 48] ?_
                  refine oS ?_
                  iterate 2 refine oG (hok := by first | with_reducible rfl | omega | (exact decide_eq_true (by simp only [List.length_append, rows_len, List.length_cons, List.length_nil])) | (simp; done) | (simp; omega) | rfl) ?_
                  refine oN ?_
                  refine thenQ_normal ?_
                  refine WI.block ?_
                  refine WI.seq ?_
                  refine WI.regB tabDf8_ok [1, 4, 5, 6, 7, 48, 49] ?_
                  refine oG (hok := by first | with_reducible rfl | omega | (exact decide_eq_true (by simp only [List.length_append, rows_len, List.length_cons, List.length_nil])) | (simp; done) | (simp; omega) | rfl) ?_
                  refine oS ?_
                  refine oN ?_
                  refine thenQ_normal ?_
                  refine WI.cond (b := _) rfl rfl (fun h3 => ?_) (fun h3 => ?_)
                  · try simp only [zB] at h3
                    have hN : tkGo M0 = some (o ++ [x], M) := by rw [hM, tkGo, if_pos hty, if_pos (by simpa using h3)]; rfl
                    rw [hN]
                    refine WI.seq ?_
                    refine WI.dregB tabDf8_ok [4, 5, 6] ?_
                    iterate 2 refine dFS ?_
                    refine dQG (hok := by first | with_reducible rfl | omega | (exact decide_eq_true (by simp only [List.length_append, rows_len, List.length_cons, List.length_nil])) | (simp; done) | (simp; omega) | rfl) ?_
                    refine dFS ?_
                    refine dQG (hok := by first | with_reducible rfl | omega | (exact decide_eq_true (by simp only [List.length_append, rows_len, List.length_cons, List.length_nil])) | (simp; done) | (simp; omega) | rfl) ?_
                    refine dFG (hok := by first | with_reducible rfl | omega | (exact decide_eq_true (by simp only [List.length_append, rows_len, List.length_cons, List.length_nil])) | (simp; done) | (simp; omega) | rfl) ?_
                    iterate 3 refine dFS ?_
                    refine dN ?_
                    refine thenQ_normal ?_
                    refine WI.nnA ?_
                    refine WI.ret ?_
                    refine blockQ_ret ?_
                    refine blockQ_ret ?_
                    refine thenQ_ret ?_
                    refine blockQ_ret ?_
                    first | refine lfR ?_ | refine lfR2 ?_
                    (try rw [List.take_of_length_le (by simp only [List.length_append, rows_len, List.length_cons, List.length_nil]; omega), ← rows_str]); first | rfl | (simp; done) | (simp; rfl) -- leaf 3
                  · try simp only [zB] at h3
                    refine WI.seq ?_
                    refine WI.regB tabDf8_ok [1, 4, 5, 6, 7, 57] ?_
                    refine oG (hok := by first | with_reducible rfl | omega | (exact decide_eq_true (by simp only [List.length_append, rows_len, List.length_cons, List.length_nil])) | (simp; done) | (simp; omega) | rfl) ?_
                    refine oS ?_
                    refine oN ?_
                    refine thenQ_normal ?_
                    refine WI.cond (b := _) rfl rfl (fun h4 => ?_) (fun h4 => ?_)
                    · try simp only [zB] at h4
                      have hM2 : tkGo M0 = (tkGo M).map fun p => ((o ++ [x]) ++ p.1, p.2) := by
                        rw [hM, tkGo, if_pos hty, if_neg (by simpa using h3), if_pos (by simpa using h4), Option.map_map]
                        congr 1; funext p; simp
                      refine WI.regB tabDf8_ok [1, 4, 5, 6, 7] ?_
                      refine oS ?_
                      refine oG (hok := by first | with_reducible rfl | omega | (exact decide_eq_true (by simp only [List.length_append, rows_len, List.length_cons, List.length_nil])) | (simp; done) | (simp; omega) | rfl) ?_
                      refine oS ?_
                      refine oN ?_
                      refine blockQ_normal ?_
                      refine blockQ_normal ?_
                      refine thenQ_normal ?_
                      exact ⟨⟨o ++ [x], M, by first | rfl | simp, by rw [← rows_str], hM2, hME2, by simp; omega⟩, by simp [rows_len]; omega⟩
                    · try simp only [zB] at h4
                      have hN : tkGo M0 = none := by rw [hM, tkGo, if_pos hty, if_neg (by simpa using h3), if_neg (by simpa using h4)]; rfl
                      rw [hN]
                      refine WI.seq ?_
                      refine WI.regB tabDf8_ok [4, 5, 6] ?_
                      iterate 3 refine oS ?_
                      refine oN ?_
                      refine thenQ_normal ?_
                      refine WI.nnA ?_
                      refine WI.ret ?_
                      refine blockQ_ret ?_
                      refine blockQ_ret ?_
                      refine thenQ_ret ?_
                      refine blockQ_ret ?_
                      first | refine lfR ?_ | refine lfR2 ?_
                      (try rw [List.take_of_length_le (by simp only [List.length_append, rows_len, List.length_cons, List.length_nil]; omega), ← rows_str]); first | rfl | (simp; done) | (simp; rfl) -- leaf 4
      · have hp : tkW w (a :: b :: c :: d :: r) = ([], [], false) := by
          show (if a = w then _ else _) = _
          rw [if_pos ha, if_neg hb]
        rw [hp]
        have c2 : rows rStr (a :: b :: c :: d :: r) = [.str a] :: [.str b] :: [.str c] :: [.str d] :: rows rStr r := rfl
        refine FCalls.pure (fcallsG (fz := true) G_ok (p := i35) rfl _ (Nat.le_of_ble_eq_true rfl) _ (fun C0 E0 => ?_)) rfl
        dsimp only [i35, argsφ]
        have uu := And.intro @typedG.eq_1 (And.intro @typedG.eq_2 (And.intro @c2 (And.intro @tabDf8_r (And.intro @tabDf8_k (@tabDf8_q27)))))
        refine WI.seq ?_
        refine WI.regB tabDf8_ok [0, 1] ?_
        iterate 3 refine oS ?_
        refine oN ?_
        refine thenQ_normal ?_
        refine WI.seq ?_
        refine WI.seq ?_
        refine WI.regB tabDf8_ok [1, 17] ?_
        refine oS ?_
        iterate 2 refine oG ?_
        refine oS ?_
        iterate 6 refine oG ?_
        refine oN ?_
        refine thenQ_normal ?_
        refine WI.cond (b := _) rfl rfl (fun h0 => ?_) (fun h0 => ?_)
        · exfalso
          first | omega | (simp at h0; done) | (simp [ha] at h0; done) | (simp [ha] at h0; omega)
        · try simp only [zB] at h0
          refine WI.skip ?_
          refine thenQ_normal ?_
          refine WI.seq ?_
          refine WI.seq ?_
          refine WI.regB tabDf8_ok [1, 27] ?_
          refine oS ?_
          iterate 2 refine oG ?_
          refine oS ?_
          iterate 5 refine oG ?_
          refine oN ?_
          refine thenQ_normal ?_
          refine WI.cond (b := _) rfl rfl (fun h1 => ?_) (fun h1 => ?_)
          · try simp only [zB] at h1
            refine WI.seq ?_
            refine WI.regB tabDf8_ok [4, 5, 6] ?_
            iterate 3 refine oS ?_
            refine oN ?_
            refine thenQ_normal ?_
            refine WI.nnA ?_
            refine WI.ret ?_
            refine thenQ_ret ?_
            first | refine lfR ?_ | refine lfR2 ?_
            first | rfl | exact ⟨rfl, rfl⟩ | trivial -- leaf 0
          · exfalso
            simp at h1; first | exact hb h1.2 | exact hb h1
    · have hp : tkW w (a :: b :: c :: d :: r) = ([], a :: b :: c :: d :: r, true) := if_neg ha
      rw [hp]
      have c2 : rows rStr (a :: b :: c :: d :: r) = [.str a] :: [.str b] :: [.str c] :: [.str d] :: rows rStr r := rfl
      refine FCalls.pure (fcallsG (fz := true) G_ok (p := i35) rfl _ (Nat.le_of_ble_eq_true rfl) _ (fun C0 E0 => ?_)) rfl
      dsimp only [i35, argsφ]
      have uu := And.intro @typedG.eq_1 (And.intro @typedG.eq_2 (And.intro @c2 (And.intro @tabDf8_r (And.intro @tabDf8_k (@tabDf8_q27)))))
      refine WI.seq ?_
      refine WI.regB tabDf8_ok [0, 1] ?_
      iterate 3 refine oS ?_
      refine oN ?_
      refine thenQ_normal ?_
      refine WI.seq ?_
      refine WI.seq ?_
      refine WI.regB tabDf8_ok [1, 17] ?_
      refine oS ?_
      iterate 2 refine oG ?_
      refine oS ?_
      iterate 6 refine oG ?_
      refine oN ?_
      refine thenQ_normal ?_
      refine WI.cond (b := _) rfl rfl (fun h0 => ?_) (fun h0 => ?_)
      · try simp only [zB] at h0
        refine WI.seq ?_
        refine WI.regB tabDf8_ok [4, 5, 6] ?_
        iterate 4 refine oS ?_
        refine oN ?_
        refine thenQ_normal ?_
        refine WI.nnA ?_
        refine WI.ret ?_
        refine thenQ_ret ?_
        first | refine lfR ?_ | refine lfR2 ?_
        first | rfl | exact ⟨rfl, rfl⟩ | trivial -- leaf 0
      · exfalso
        simp at h0; first | exact ha h0.2 | exact ha h0
end Go.Proofs.YtobflnngfochiaaDoor
end
section
/- Defs: classes read; the law's own functions. -/
set_option linter.unusedSimpArgs false
set_option linter.unusedVariables false
namespace Go.Proofs.YtobflnngfochiaaDoor
open Go.RowKit Go.Bo Go.Ab

def takeG : List D → Option (Bool × D)
  | [.x (.str w), .x (.sl R)] => (unrows rStr R).bind fun l => some (decide (shrt l), .tup [.x (.sl (rows rStr (tkW w l).1)), .x (.sl (rows rStr (tkW w l).2.1)), .x (.bool (tkW w l).2.2)])
  | _ => none
theorem takeG_ok : ∀ args r, takeG args = some (true, r) → PCalls Tryd.prog 35 args r := by
  intro args r h
  unfold takeG at h
  split at h
  · rename_i w R
    obtain ⟨l, hr0, h⟩ := Option.bind_eq_some_iff.1 h
    simp only [Option.some.injEq, Prod.mk.injEq, Bool.and_eq_true, decide_eq_true_eq, true_and] at h
    obtain ⟨h1, rfl⟩ := h
    rw [← rows_unrows good_rStr hr0]
    exact (take_c w l h1)
  · cases h
def tabDf9 : Tabs := addQ (addQ (noTabs) 31 beginG) 35 takeG
theorem tabDf9_ok : SsOk Tryd.prog tabDf9 := addQ_ok (addQ_ok (noTabs_ok) (G_enters G_ok (p := i31) rfl) beginG_ok) (G_enters G_ok (p := i35) rfl) takeG_ok
theorem tabDf9_q31 (a : List D) : tabDf9.q 31 a = beginG a := rfl
theorem tabDf9_q35 (a : List D) : tabDf9.q 35 a = takeG a := rfl
theorem tabDf9_r (f : FuncId) (a : List D) (o : List Ob) : tabDf9.r f a o = none := rfl
theorem tabDf9_k (f : FuncId) (a : List D) (o : List Ob) : tabDf9.k f a o = none := rfl
theorem tkGo_sub : ∀ (l : List (List UInt8)) (p), tkGo l = some p → (∀ x ∈ p.1, x ∈ l) ∧ (∀ x ∈ p.2, x ∈ l)
  | [], _, h => by simp [tkGo] at h
  | [_], _, h => by simp [tkGo] at h
  | x :: y :: r, p, h => by
    unfold tkGo at h
    split at h
    · split at h
      · cases h; exact ⟨fun z hz => by simp at hz; subst hz; simp, fun z hz => by simp [hz]⟩
      · split at h
        · obtain ⟨q, hq, rfl⟩ := Option.map_eq_some_iff.1 h
          have := tkGo_sub r q hq
          refine ⟨fun z hz => ?_, fun z hz => by simp [this.2 z hz]⟩
          rcases List.mem_cons.1 hz with rfl | hz
          · simp
          · simp [this.1 z hz]
        · cases h
    · cases h
theorem tkW_sub (w : List UInt8) (l : List (List UInt8)) : (∀ x ∈ (tkW w l).1, x ∈ l) ∧ (∀ x ∈ (tkW w l).2.1, x ∈ l) ∧ (tkW w l).1.length ≤ l.length ∧ (tkW w l).2.1.length ≤ l.length := by
  unfold tkW
  split
  · split
    · split
      · split
        · simp
        · rename_i p hp
          have h1 := tkGo_sub _ _ hp
          have h2 := tkGo_le _ _ hp
          refine ⟨fun x hx => ?_, fun x hx => ?_, ?_, ?_⟩
          · exact List.mem_cons_of_mem _ (List.mem_cons_of_mem _ (h1.1 x hx))
          · exact List.mem_cons_of_mem _ (List.mem_cons_of_mem _ (h1.2 x hx))
          · simp at h2 ⊢; omega
          · simp at h2 ⊢; omega
      · simp
    · exact ⟨by simp, fun x hx => hx, by simp, Nat.le_refl _⟩
  · split
    · simp
    · exact ⟨by simp, fun x hx => hx, by simp, Nat.le_refl _⟩
  · simp
theorem shrt_sub {l m : List (List UInt8)} (h : shrt l) (hs : ∀ x ∈ m, x ∈ l) (hl : m.length ≤ l.length) : shrt m := ⟨Nat.le_trans hl h.1, fun x hx => h.2 x (hs x hx)⟩
theorem bgn_shrt (s : List UInt8) (h : shrt (spl 32 s)) : shrt (bgn s).2.1 := by
  unfold bgn bgnW
  split
  · have := h.1
    exact ⟨by simp; omega, fun x hx => h.2 x (List.mem_of_mem_take (List.mem_of_mem_drop hx))⟩
  · exact ⟨by simp, by simp⟩
theorem spl_shrt (s : List UInt8) (h : s.length ≤ 900) : shrt (spl 32 s) := by
  have h1 := spl_len 32 s
  exact ⟨by omega, fun x hx => by have := spl_mem 32 s x hx; omega⟩
abbrev ClX := List UInt8 × List (List UInt8) × List (List UInt8)
def rdC (s : List UInt8) : ClX × Int :=
  if (((bgn s).2.2 = true ∧ (tkW wMUST (bgn s).2.1).2.2 = true) ∧ (tkW wMAY (tkW wMUST (bgn s).2.1).2.1).2.2 = true) ∧ (tkW wMAY (tkW wMUST (bgn s).2.1).2.1).2.1 = [] then
    (((bgn s).1, (tkW wMUST (bgn s).2.1).1, (tkW wMAY (tkW wMUST (bgn s).2.1).2.1).1), 0) else (([], [], []), 5)
abbrev clD (t : ClX × Int) : D := .tup [.agg [.x (.str t.1.1), .x (.sl (rows rStr t.1.2.1)), .x (.sl (rows rStr t.1.2.2))], .x (.int .i64 t.2)]
theorem readClass_c (s : List UInt8) (hs : s.length ≤ 100000) (hw : shrt (spl 32 s)) : PCalls Tryd.prog 18 [.x (.str s)] (clD (rdC s)) := by
  have hb := bgn_shrt s hw
  have hb1 := tkW_sub wMUST (bgn s).2.1
  have hb2 := shrt_sub hb hb1.2.1 hb1.2.2.2
  have hb := decide_eq_true hb
  have hb2 := decide_eq_true hb2
  have hrd := rdC.eq_1 s
  unfold wMUST wMAY at *
  refine FCalls.pure (fcallsG (fz := true) G_ok (p := i18) rfl _ (Nat.le_of_ble_eq_true rfl) _ (fun C0 E0 => ?_)) rfl
  dsimp only [i18, argsφ]
  have uu := And.intro @beginG.eq_1 (And.intro @beginG.eq_2 (And.intro @takeG.eq_1 (And.intro @takeG.eq_2 (And.intro @un_s (And.intro hb (And.intro hb2 (And.intro @tabDf9_r (And.intro @tabDf9_k (And.intro @tabDf9_q31 (@tabDf9_q35))))))))))
  refine WI.seq ?_
  refine WI.regB tabDf9_ok [0, 2] ?_
  refine oG ?_
  refine oS ?_
  refine oN ?_
  refine thenQ_normal ?_
  refine WI.seq ?_
  refine WI.regB tabDf9_ok [2, 4, 5, 6] ?_
  refine oS ?_
  refine oC ?_
  refine oS ?_
  iterate 3 refine oG ?_
  iterate 3 refine oS ?_
  refine oN ?_
  refine thenQ_normal ?_
  refine WI.seq ?_
  refine WI.regB tabDf9_ok [2, 4, 5, 6, 7, 8] ?_
  refine oS ?_
  refine oC ?_
  refine oS ?_
  iterate 3 refine oG ?_
  iterate 3 refine oS ?_
  refine oN ?_
  refine thenQ_normal ?_
  refine WI.seq ?_
  refine WI.regB tabDf9_ok [2, 4, 5, 6, 7, 8, 9, 10] ?_
  refine oS ?_
  refine oC ?_
  refine oS ?_
  iterate 3 refine oG ?_
  iterate 3 refine oS ?_
  refine oN ?_
  refine thenQ_normal ?_
  refine WI.seq ?_
  refine WI.seq ?_
  refine WI.regB tabDf9_ok [2, 4, 7, 9, 43] ?_
  refine oS ?_
  refine oG ?_
  refine oS ?_
  iterate 3 refine oG ?_
  refine oS ?_
  iterate 3 refine oG ?_
  refine oS ?_
  iterate 4 refine oG ?_
  refine oN ?_
  refine thenQ_normal ?_
  refine WI.cond (b := _) rfl rfl (fun h0 => ?_) (fun h0 => ?_)
  · try simp only [zB] at h0
    refine WI.seq ?_
    refine WI.regB tabDf9_ok [2, 3] ?_
    iterate 2 refine oG ?_
    refine oS ?_
    refine oN ?_
    refine thenQ_normal ?_
    refine WI.nnA ?_
    refine WI.ret ?_
    refine thenQ_ret ?_
    first | refine lfR ?_ | refine lfR2 ?_
    have hn : rdC s = (([], [], []), 5) := by
      rw [rdC]; refine if_neg ?_
      rintro ⟨⟨⟨k1, k2⟩, k3⟩, k4⟩
      rcases h0 with ((h | h) | h) | h
      · exact absurd (k1.symm.trans h) (by simp)
      · exact absurd (k2.symm.trans h) (by simp)
      · exact absurd (k3.symm.trans h) (by simp)
      · have k5 := congrArg List.length k4
        simp only [List.length_nil] at k5; unfold wMUST wMAY at k5; omega
    rw [hn]; rfl -- leaf 0
  · try simp only [zB] at h0
    refine WI.skip ?_
    refine thenQ_normal ?_
    refine WI.seq ?_
    refine WI.regB tabDf9_ok [2, 3] ?_
    iterate 3 refine oS ?_
    iterate 2 refine oG ?_
    refine oS ?_
    refine oN ?_
    refine thenQ_normal ?_
    refine WI.nnA ?_
    refine WI.ret ?_
    first | refine lfR ?_ | refine lfR2 ?_
    rw [show rdC s = (((bgn s).1, (tkW wMUST (bgn s).2.1).1, (tkW wMAY (tkW wMUST (bgn s).2.1).2.1).1), 0) from if_pos ⟨h0.1, List.length_eq_zero_iff.1 (by have := h0.2; unfold wMUST wMAY; omega)⟩] -- leaf 1
def lstS (w : List UInt8) (l : List (List UInt8)) : List UInt8 := if l = [] then [] else ((([32] ++ w) ++ [32, 40, 32]) ++ jd l) ++ [32, 41]
theorem jd_snoc : ∀ (l : List (List UInt8)) (x : List UInt8), l ≠ [] → jd (l ++ [x]) = (jd l ++ [32, 36, 32]) ++ x
  | [a], x, _ => by
    show jd [a, x] = _
    rw [jd_cons, jd, jd, Lib.join_one, Lib.join_one]; simp
  | a :: b :: r, x, _ => by
    have ih := jd_snoc (b :: r) x (by simp)
    show jd (a :: b :: (r ++ [x])) = _
    rw [jd_cons, jd_cons]
    rw [List.cons_append] at ih
    rw [ih]; simp
theorem jd_nil : jd [] = [] := rfl
theorem jd_one (x : List UInt8) : jd [x] = x := by rw [jd, Lib.join_one]
theorem jd_mono (l : List (List UInt8)) (j : Nat) (h : ∀ x ∈ l, x.length ≤ 1000) (hl : l.length ≤ 1000) : (jd (l.take j)).length ≤ 1003000 := by
  have h1 := jd_len (l.take j) (fun x hx => h x (List.mem_of_mem_take hx))
  have : (l.take j).length ≤ l.length := by rw [List.length_take]; omega
  omega
theorem lst_c (w : List UInt8) (l : List (List UInt8)) (hw : w.length ≤ 1000) (h : shrt l) : PCalls Tryd.prog 34 [.x (.str w), .x (.sl (rows rStr l))] (.x (.str (lstS w l))) := by
  have hl := h.1
  have hjm := fun j => jd_mono l j h.2 h.1
  refine FCalls.pure (fcallsG (fz := true) G_ok (p := i34) rfl _ (Nat.le_of_ble_eq_true rfl) _ (fun C0 E0 => ?_)) rfl
  dsimp only [i34, argsφ]
  have uu := trivial
  refine WI.seq ?_
  refine WI.regB noTabs_ok [0, 1] ?_
  refine oS ?_
  refine oN ?_
  refine thenQ_normal ?_
  refine WI.seq ?_
  refine WI.seq ?_
  refine WI.regB noTabs_ok [0, 1, 9] ?_
  refine oS ?_
  iterate 2 refine oG (hok := by first | with_reducible rfl | omega | (exact decide_eq_true (by simp only [List.length_append, List.length_cons, List.length_nil]; omega)) | (simp; done) | (simp; omega) | rfl) ?_
  refine oN ?_
  refine thenQ_normal ?_
  refine WI.cond (b := _) rfl rfl (fun h0 => ?_) (fun h0 => ?_)
  · try simp only [zB] at h0
    refine WI.seq ?_
    refine WI.regB noTabs_ok [4] ?_
    refine oS ?_
    refine oN ?_
    refine thenQ_normal ?_
    refine WI.ret ?_
    refine thenQ_ret ?_
    first | refine lfR ?_ | refine lfR2 ?_
    have : l = [] := List.length_eq_zero_iff.1 (by omega)
    subst this; rfl -- leaf 0
  · try simp only [zB] at h0
    refine WI.skip ?_
    refine thenQ_normal ?_
    refine WI.seq ?_
    refine WI.regB noTabs_ok [1, 5] ?_
    refine oS ?_
    iterate 2 refine oG (hok := by first | with_reducible rfl | omega | (exact decide_eq_true (by simp only [List.length_append, List.length_cons, List.length_nil]; omega)) | (simp; done) | (simp; omega) | rfl) ?_
    refine oS ?_
    refine oN ?_
    refine thenQ_normal ?_
    refine WI.seq ?_
    refine WI.seq ?_
    refine WI.regB noTabs_ok [1, 5, 6] ?_
    refine oS ?_
    refine oN ?_
    refine thenQ_normal ?_
    refine WI.block ?_
    refine WI.loop (fun φ os => ∃ (j : Nat), φ = [(1, .x (.sl (rows rStr l))), (5, .x (.str (32 :: ((w ++ [32, 40, 32]) ++ jd (l.take j))))), (6, .x (.int .i64 j))] ∧ os = [] ∧ j ≤ l.length) (down l.length 6) ?_ (fun φ os hI => ?_)
    · exact ⟨0, by simp [jd_nil], rfl, by omega⟩
    · obtain ⟨j, rfl, rfl, hj⟩ := hI
      refine WI.seq ?_
      refine WI.seq ?_
      refine WI.regB noTabs_ok [1, 5, 6, 16] ?_
      iterate 2 refine oS ?_
      iterate 2 refine oG (hok := by first | with_reducible rfl | omega | (exact decide_eq_true (by simp only [List.length_append, List.length_cons, List.length_nil]; omega)) | (simp; done) | (simp; omega) | rfl) ?_
      refine oN ?_
      refine thenQ_normal ?_
      refine WI.cond (b := _) rfl rfl (fun h1 => ?_) (fun h1 => ?_)
      · try simp only [zB] at h1
        refine WI.skip ?_
        refine thenQ_normal ?_
        refine WI.seq ?_
        refine WI.block ?_
        refine WI.seq ?_
        refine WI.seq ?_
        have hj4 : j < l.length := by omega
        have hjj := hjm j
        have hlj := h.2 l[j] (List.getElem_mem _)
        refine WI.regB noTabs_ok [1, 5, 6, 20] ?_
        refine oS ?_
        refine oG (hok := by first | with_reducible rfl | omega | (exact decide_eq_true (by simp only [List.length_append, List.length_cons, List.length_nil]; omega)) | (simp; done) | (simp; omega) | rfl) ?_
        refine oN ?_
        refine thenQ_normal ?_
        refine WI.cond (b := _) rfl rfl (fun h2 => ?_) (fun h2 => ?_)
        · try simp only [zB] at h2
          have hjs : jd (l.take (j + 1)) = (jd (l.take j) ++ [32, 36, 32]) ++ l[j] := by rw [List.take_succ_eq_append_getElem hj4, jd_snoc _ _ (by intro e; have := congrArg List.length e; rw [List.length_take, List.length_nil] at this; omega)]
          refine WI.regB noTabs_ok [1, 5, 6] ?_
          refine oS ?_
          refine oG (hok := by first | with_reducible rfl | omega | (exact decide_eq_true (by simp only [List.length_append, List.length_cons, List.length_nil]; omega)) | (simp; done) | (simp; omega) | rfl) ?_
          refine oS ?_
          refine oN ?_
          refine thenQ_normal ?_
          refine WI.regB noTabs_ok [1, 5, 6] ?_
          iterate 3 refine oS ?_
          iterate 3 refine oG (hok := by first | with_reducible rfl | omega | (exact decide_eq_true (by simp only [List.length_append, List.length_cons, List.length_nil]; omega)) | (simp; done) | (simp; omega) | rfl) ?_
          refine oS ?_
          refine oN ?_
          refine blockQ_normal ?_
          refine thenQ_normal ?_
          refine WI.regB noTabs_ok [1, 5, 6] ?_
          refine oS ?_
          refine oG (hok := by first | with_reducible rfl | omega | (exact decide_eq_true (by simp only [List.length_append, List.length_cons, List.length_nil]; omega)) | (simp; done) | (simp; omega) | rfl) ?_
          refine oS ?_
          refine oN ?_
          refine thenQ_normal ?_
          exact ⟨⟨j + 1, by rw [hjs]; simp, rfl, by omega⟩, by simp [down, Ab.get, D.val, intOf?]; omega⟩
        · try simp only [zB] at h2
          have hjs : jd (l.take (j + 1)) = jd (l.take j) ++ l[j] := by
            have e : j = 0 := by omega
            subst e
            rw [List.take_succ_eq_append_getElem hj4]; simp [jd_one, jd_nil]
          refine WI.skip ?_
          refine thenQ_normal ?_
          refine WI.regB noTabs_ok [1, 5, 6] ?_
          iterate 3 refine oS ?_
          iterate 3 refine oG (hok := by first | with_reducible rfl | omega | (exact decide_eq_true (by simp only [List.length_append, List.length_cons, List.length_nil]; omega)) | (simp; done) | (simp; omega) | rfl) ?_
          refine oS ?_
          refine oN ?_
          refine blockQ_normal ?_
          refine thenQ_normal ?_
          refine WI.regB noTabs_ok [1, 5, 6] ?_
          refine oS ?_
          refine oG (hok := by first | with_reducible rfl | omega | (exact decide_eq_true (by simp only [List.length_append, List.length_cons, List.length_nil]; omega)) | (simp; done) | (simp; omega) | rfl) ?_
          refine oS ?_
          refine oN ?_
          refine thenQ_normal ?_
          exact ⟨⟨j + 1, by rw [hjs]; simp, rfl, by omega⟩, by simp [down, Ab.get, D.val, intOf?]; omega⟩
      · try simp only [zB] at h1
        refine WI.exit ?_
        refine thenQ_exit ?_
        refine thenQ_exit ?_
        refine blockQ_hit ?_
        refine thenQ_normal ?_
        refine WI.seq ?_
        have hjj := hjm j
        refine WI.regB noTabs_ok [4] ?_
        refine oS ?_
        refine oG (hok := by first | with_reducible rfl | omega | (exact decide_eq_true (by simp only [List.length_append, List.length_cons, List.length_nil]; omega)) | (simp; done) | (simp; omega) | rfl) ?_
        refine oS ?_
        refine oN ?_
        refine thenQ_normal ?_
        refine WI.ret ?_
        first | refine lfR ?_ | refine lfR2 ?_
        have hn : l ≠ [] := by rintro rfl; simp at h0
        rw [lstS, if_neg hn, List.take_of_length_le (by omega)]; simp -- leaf 1
def lstG : List D → Option (Bool × D)
  | [.x (.str w), .x (.sl R)] => (unrows rStr R).bind fun l => some (decide (w.length ≤ 1000 ∧ shrt l), .x (.str (lstS w l)))
  | _ => none
theorem lstG_ok : ∀ args r, lstG args = some (true, r) → PCalls Tryd.prog 34 args r := by
  intro args r h
  unfold lstG at h
  split at h
  · rename_i w R
    obtain ⟨l, hr0, h⟩ := Option.bind_eq_some_iff.1 h
    simp only [Option.some.injEq, Prod.mk.injEq, Bool.and_eq_true, decide_eq_true_eq, true_and] at h
    obtain ⟨h1, rfl⟩ := h
    rw [← rows_unrows good_rStr hr0]
    exact (lst_c w l h1.1 h1.2)
  · cases h
def tabDf10 : Tabs := addQ (addQ (noTabs) 34 lstG) 30 typedRG
theorem tabDf10_ok : SsOk Tryd.prog tabDf10 := addQ_ok (addQ_ok (noTabs_ok) (G_enters G_ok (p := i34) rfl) lstG_ok) (G_enters G_ok (p := i30) rfl) typedRG_ok
theorem tabDf10_q34 (a : List D) : tabDf10.q 34 a = lstG a := rfl
theorem tabDf10_q30 (a : List D) : tabDf10.q 30 a = typedRG a := rfl
theorem tabDf10_r (f : FuncId) (a : List D) (o : List Ob) : tabDf10.r f a o = none := rfl
theorem tabDf10_k (f : FuncId) (a : List D) (o : List Ob) : tabDf10.k f a o = none := rfl
def txtC (n : List UInt8) (m y : List (List UInt8)) : List UInt8 := ((([40, 32, 78, 65, 77, 69, 32, 39] ++ n) ++ [39]) ++ lstS wMUST m ++ lstS wMAY y) ++ [32, 41]
theorem jn_app : ∀ (a b : List (List UInt8)), a ≠ [] → b ≠ [] → jn (a ++ b) = jn a ++ 32 :: jn b
  | [x], b, _, hb => jn_cons hb
  | x :: y :: r, b, _, hb => by
    have ih := jn_app (y :: r) b (by simp) hb
    show x ++ 32 :: jn ((y :: r) ++ b) = (x ++ 32 :: jn (y :: r)) ++ 32 :: jn b
    rw [ih]; simp
theorem jn_listW (w : List UInt8) (l a : List (List UInt8)) (ha : a ≠ []) : jn (a ++ listW w l) = jn a ++ lstS w l := by
  unfold listW lstS
  split
  · simp
  · rw [jn_app _ _ ha (by simp)]; simp [jn]
theorem txtC_eq (n : List UInt8) (m y : List (List UInt8)) : jn (wordsC n m y) = txtC n m y := by
  unfold wordsC txtC
  rw [jn_app _ _ (by simp) (by simp), jn_listW _ _ _ (by simp), jn_listW _ _ _ (by simp)]
  simp [jn, wNAME]
theorem lstS_len (w : List UInt8) (l : List (List UInt8)) (h : shrt l) : (lstS w l).length ≤ w.length + 1003006 := by
  have := shrt_len h
  unfold lstS; split
  · simp
  · simp; omega
theorem putCR_c (n : List UInt8) (m y : List (List UInt8)) (hn : n.length ≤ 1000) (hm : shrt m) (hy : shrt y) : PCalls Tryd.prog 17 [.agg [.x (.str n), .x (.sl (rows rStr m)), .x (.sl (rows rStr y))]] (.tup [.x (.str (putC n m y).1), .x (.int .i64 (putC n m y).2)]) := by
  have hsm := decide_eq_true hm
  have hsy := decide_eq_true hy
  have hm1 := hm.1
  have hy1 := hy.1
  have hlm := lstS_len wMUST m hm
  have hly := lstS_len wMAY y hy
  unfold wMUST at hlm
  unfold wMAY at hly
  simp only [List.length_cons, List.length_nil] at hlm hly
  have hA : ∀ x ∈ n :: m ++ y, x.length ≤ 1000 := by
    intro x hx
    simp only [List.cons_append, List.mem_cons, List.mem_append] at hx
    rcases hx with rfl | hx | hx
    · exact hn
    · exact hm.2 x hx
    · exact hy.2 x hx
  refine FCalls.pure (fcallsG (fz := true) G_ok (p := i17) rfl _ (Nat.le_of_ble_eq_true rfl) _ (fun C0 E0 => ?_)) rfl
  dsimp only [i17, argsφ]
  have uu := And.intro @lstG.eq_1 (And.intro @lstG.eq_2 (And.intro @typedRG.eq_1 (And.intro @typedRG.eq_2 (And.intro hsm (And.intro hsy (And.intro @tabDf10_r (And.intro @tabDf10_k (And.intro @tabDf10_q30 (@tabDf10_q34)))))))))
  refine WI.seq ?_
  refine WI.regB tabDf10_ok [1] ?_
  refine oG (hok := by first | with_reducible rfl | omega | (exact decide_eq_true (by simp only [List.length_append, List.length_cons, List.length_nil]; omega)) | (simp only [Bool.and_eq_true, decide_eq_true_eq, List.length_append, List.length_cons, List.length_nil]; omega) | (simp; done) | (simp; omega) | rfl) ?_
  iterate 2 refine oS ?_
  refine oN ?_
  refine thenQ_normal ?_
  refine WI.seq ?_
  refine WI.regB tabDf10_ok [1, 4] ?_
  refine oS ?_
  refine oN ?_
  refine thenQ_normal ?_
  refine WI.seq ?_
  refine WI.regB tabDf10_ok [1, 4] ?_
  iterate 2 refine oS ?_
  iterate 3 refine oG (hok := by first | with_reducible rfl | omega | (exact decide_eq_true (by simp only [List.length_append, List.length_cons, List.length_nil]; omega)) | (simp only [Bool.and_eq_true, decide_eq_true_eq, List.length_append, List.length_cons, List.length_nil]; omega) | (simp; done) | (simp; omega) | rfl) ?_
  refine oS ?_
  refine oN ?_
  refine thenQ_normal ?_
  refine WI.seq ?_
  refine WI.regB tabDf10_ok [1, 4] ?_
  iterate 2 refine oS ?_
  iterate 2 refine oG (hok := by first | with_reducible rfl | omega | (exact decide_eq_true (by simp only [List.length_append, List.length_cons, List.length_nil]; omega)) | (simp only [Bool.and_eq_true, decide_eq_true_eq, List.length_append, List.length_cons, List.length_nil]; omega) | (simp; done) | (simp; omega) | rfl) ?_
  refine oS ?_
  refine oN ?_
  refine thenQ_normal ?_
  refine WI.seq ?_
  refine WI.regB tabDf10_ok [1, 4] ?_
  iterate 2 refine oS ?_
  iterate 2 refine oG (hok := by first | with_reducible rfl | omega | (exact decide_eq_true (by simp only [List.length_append, List.length_cons, List.length_nil]; omega)) | (simp only [Bool.and_eq_true, decide_eq_true_eq, List.length_append, List.length_cons, List.length_nil]; omega) | (simp; done) | (simp; omega) | rfl) ?_
  refine oS ?_
  refine oN ?_
  refine thenQ_normal ?_
  refine WI.seq ?_
  refine WI.seq ?_
  refine WI.regB tabDf10_ok [1, 4, 5] ?_
  refine oS ?_
  refine oN ?_
  refine thenQ_normal ?_
  refine WI.block ?_
  refine WI.pickA [0, 2] ?_
  obtain ⟨A, hA0⟩ : ∃ A : List (List UInt8), A = n :: (m ++ y) := ⟨_, rfl⟩
  have hAl : A.length = m.length + y.length + 1 := by rw [hA0]; simp
  have hAa : A.all typB = (typB n && (m.all typB && y.all typB)) := by rw [hA0]; simp
  have hA1 : ∀ x ∈ A, x.length ≤ 1000 := by rw [hA0]; exact hA
  refine WI.loop (fun φ os => ∃ (j : Nat), φ = [(1, .ptr 0 0), (4, .ref 1 A.length 0 A.length), (5, .x (.int .i64 j))] ∧ os = [.box [.x (.str n), .x (.sl (rows rStr m)), .x (.sl (rows rStr y))], .rows false 9 1 (rows rStr A)] ∧ j ≤ A.length ∧ (A.take j).all typB = true) (down A.length 5) ?_ (fun φ os hI => ?_)
  · exact ⟨0, by first | rfl | (simp [hAl]; done) | (simp [hAl]; omega), by rw [hA0]; rfl, by omega, rfl⟩
  · obtain ⟨j, rfl, rfl, hj, ha⟩ := hI
    refine WI.seq ?_
    refine WI.seq ?_
    refine WI.regB tabDf10_ok [1, 4, 5, 22] ?_
    iterate 2 refine oS ?_
    iterate 2 refine oG (hok := by first | with_reducible rfl | omega | (exact decide_eq_true (by simp only [List.length_append, List.length_cons, List.length_nil]; omega)) | (simp only [Bool.and_eq_true, decide_eq_true_eq, List.length_append, List.length_cons, List.length_nil]; omega) | (simp; done) | (simp; omega) | rfl) ?_
    refine oN ?_
    refine thenQ_normal ?_
    refine WI.cond (b := _) rfl rfl (fun h0 => ?_) (fun h0 => ?_)
    · try simp only [zB] at h0
      refine WI.skip ?_
      refine thenQ_normal ?_
      refine WI.seq ?_
      refine WI.block ?_
      refine WI.seq ?_
      have hj4 : j < A.length := by omega
      have hx1 := hA1 A[j] (List.getElem_mem _)
      refine WI.regB tabDf10_ok [1, 4, 5, 30] ?_
      iterate 2 refine oS ?_
      iterate 2 refine oG (hok := by first | with_reducible rfl | omega | (exact decide_eq_true (by simp only [List.length_append, List.length_cons, List.length_nil]; omega)) | (simp only [Bool.and_eq_true, decide_eq_true_eq, List.length_append, List.length_cons, List.length_nil]; omega) | (simp; done) | (simp; omega) | rfl) ?_
      refine oC (hok := by first | with_reducible rfl | omega | (exact decide_eq_true (by simp only [List.length_append, List.length_cons, List.length_nil]; omega)) | (simp only [Bool.and_eq_true, decide_eq_true_eq, List.length_append, List.length_cons, List.length_nil]; omega) | (simp; done) | (simp; omega) | rfl) ?_
      refine oG (hok := by first | with_reducible rfl | omega | (exact decide_eq_true (by simp only [List.length_append, List.length_cons, List.length_nil]; omega)) | (simp only [Bool.and_eq_true, decide_eq_true_eq, List.length_append, List.length_cons, List.length_nil]; omega) | (simp; done) | (simp; omega) | rfl) ?_
      refine oN ?_
      refine thenQ_normal ?_
      refine WI.cond (b := _) rfl rfl (fun h1 => ?_) (fun h1 => ?_)
      · try simp only [zB] at h1
        have hn : A.all typB = false := by rw [List.all_eq_false]; exact ⟨A[j], List.getElem_mem _, by simpa using h1⟩
        rw [hAa] at hn
        have hp : putC n m y = ([], 13) := by unfold putC; refine if_neg ?_; rintro ⟨k1, k2, k3⟩; simp [k1, k2, k3] at hn
        refine WI.seq ?_
        refine WI.regB tabDf10_ok [2, 3] ?_
        iterate 2 refine oS ?_
        refine oN ?_
        refine thenQ_normal ?_
        refine WI.ret ?_
        refine blockQ_ret ?_
        refine thenQ_ret ?_
        refine thenQ_ret ?_
        refine blockQ_ret ?_
        refine thenQ_ret ?_
        first | refine lfR ?_ | refine lfR2 ?_
        first | (rw [hp]; done) | (rw [hp, txtC_eq]; unfold txtC; simp [wMUST, wMAY]) -- leaf 0
      · try simp only [zB] at h1
        have ha2 : (A.take (j + 1)).all typB = true := by rw [List.take_succ_eq_append_getElem hj4, List.all_append, ha]; simpa using h1
        refine WI.skip ?_
        refine blockQ_normal ?_
        refine thenQ_normal ?_
        refine WI.regB tabDf10_ok [1, 4, 5] ?_
        refine oS ?_
        refine oG (hok := by first | with_reducible rfl | omega | (exact decide_eq_true (by simp only [List.length_append, List.length_cons, List.length_nil]; omega)) | (simp only [Bool.and_eq_true, decide_eq_true_eq, List.length_append, List.length_cons, List.length_nil]; omega) | (simp; done) | (simp; omega) | rfl) ?_
        refine oS ?_
        refine oN ?_
        refine thenQ_normal ?_
        exact ⟨⟨j + 1, rfl, rfl, by omega, ha2⟩, by simp [down, Ab.get, D.val, intOf?]; omega⟩
    · try simp only [zB] at h0
      refine WI.exit ?_
      refine thenQ_exit ?_
      refine thenQ_exit ?_
      refine blockQ_hit ?_
      refine thenQ_normal ?_
      refine WI.seq ?_
      refine WI.seq ?_
      have hat : A.all typB = true := by rw [← ha, List.take_of_length_le (by omega)]
      rw [hAa] at hat
      simp only [Bool.and_eq_true] at hat
      refine WI.regB tabDf10_ok [1, 40] ?_
      refine oS ?_
      iterate 3 refine oG (hok := by first | with_reducible rfl | omega | (exact decide_eq_true (by simp only [List.length_append, List.length_cons, List.length_nil]; omega)) | (simp only [Bool.and_eq_true, decide_eq_true_eq, List.length_append, List.length_cons, List.length_nil]; omega) | (simp; done) | (simp; omega) | rfl) ?_
      refine oS ?_
      iterate 5 refine oG (hok := by first | with_reducible rfl | omega | (exact decide_eq_true (by simp only [List.length_append, List.length_cons, List.length_nil]; omega)) | (simp only [Bool.and_eq_true, decide_eq_true_eq, List.length_append, List.length_cons, List.length_nil]; omega) | (simp; done) | (simp; omega) | rfl) ?_
      refine oN ?_
      refine thenQ_normal ?_
      refine WI.cond (b := _) rfl rfl (fun h2 => ?_) (fun h2 => ?_)
      · try simp only [zB] at h2
        have hp : putC n m y = ([], 3) := by unfold putC; rw [if_pos hat, if_neg (by omega)]
        refine WI.seq ?_
        refine WI.regB tabDf10_ok [2, 3] ?_
        iterate 2 refine oS ?_
        refine oN ?_
        refine thenQ_normal ?_
        refine WI.ret ?_
        refine thenQ_ret ?_
        first | refine lfR ?_ | refine lfR2 ?_
        first | (rw [hp]; done) | (rw [hp, txtC_eq]; unfold txtC; simp [wMUST, wMAY]) -- leaf 1
      · try simp only [zB] at h2
        have hp : putC n m y = (jn (wordsC n m y), 0) := by unfold putC; rw [if_pos hat, if_pos (by omega)]
        refine WI.skip ?_
        refine thenQ_normal ?_
        refine WI.seq ?_
        refine WI.dregB tabDf10_ok [2, 3] ?_
        refine dFS ?_
        refine dQG (hok := by first | with_reducible rfl | omega | (exact decide_eq_true (by simp only [List.length_append, List.length_cons, List.length_nil]; omega)) | (simp only [Bool.and_eq_true, decide_eq_true_eq, List.length_append, List.length_cons, List.length_nil]; omega) | (simp; done) | (simp; omega) | rfl) ?_
        iterate 2 refine dFG (hok := by first | with_reducible rfl | omega | (exact decide_eq_true (by simp only [List.length_append, List.length_cons, List.length_nil]; omega)) | (simp only [Bool.and_eq_true, decide_eq_true_eq, List.length_append, List.length_cons, List.length_nil]; omega) | (simp; done) | (simp; omega) | rfl) ?_
        refine dFS ?_
        refine dQG (hok := by first | with_reducible rfl | omega | (exact decide_eq_true (by simp only [List.length_append, List.length_cons, List.length_nil]; omega)) | (simp only [Bool.and_eq_true, decide_eq_true_eq, List.length_append, List.length_cons, List.length_nil]; omega) | (simp; done) | (simp; omega) | rfl) ?_
        refine dQC (hok := by first | with_reducible rfl | omega | (exact decide_eq_true (by simp only [List.length_append, List.length_cons, List.length_nil]; omega)) | (simp only [Bool.and_eq_true, decide_eq_true_eq, List.length_append, List.length_cons, List.length_nil]; omega) | (simp; done) | (simp; omega) | rfl) ?_
        refine dFG (hok := by first | with_reducible rfl | omega | (exact decide_eq_true (by simp only [List.length_append, List.length_cons, List.length_nil]; omega)) | (simp only [Bool.and_eq_true, decide_eq_true_eq, List.length_append, List.length_cons, List.length_nil]; omega) | (simp; done) | (simp; omega) | rfl) ?_
        refine dFS ?_
        refine dQG (hok := by first | with_reducible rfl | omega | (exact decide_eq_true (by simp only [List.length_append, List.length_cons, List.length_nil]; omega)) | (simp only [Bool.and_eq_true, decide_eq_true_eq, List.length_append, List.length_cons, List.length_nil]; omega) | (simp; done) | (simp; omega) | rfl) ?_
        refine dQC (hok := by first | with_reducible rfl | omega | (exact decide_eq_true (by simp only [List.length_append, List.length_cons, List.length_nil]; omega)) | (simp only [Bool.and_eq_true, decide_eq_true_eq, List.length_append, List.length_cons, List.length_nil]; omega) | (simp; done) | (simp; omega) | rfl) ?_
        iterate 2 refine dFG (hok := by first | with_reducible rfl | omega | (exact decide_eq_true (by simp only [List.length_append, List.length_cons, List.length_nil]; omega)) | (simp only [Bool.and_eq_true, decide_eq_true_eq, List.length_append, List.length_cons, List.length_nil]; omega) | (simp; done) | (simp; omega) | rfl) ?_
        iterate 2 refine dFS ?_
        refine dN ?_
        refine thenQ_normal ?_
        refine WI.ret ?_
        first | refine lfR ?_ | refine lfR2 ?_
        first | (rw [hp]; done) | (rw [hp, txtC_eq]; unfold txtC; simp [wMUST, wMAY]) -- leaf 2
/-- Is a class not too great? -/
def fewB (n : List UInt8) (m y : List (List UInt8)) : Bool := decide ((∀ x ∈ n :: (m ++ y), x.length ≤ 80) ∧ m.length + y.length + 1 ≤ 150)
theorem few_c (n : List UInt8) (m y : List (List UInt8)) (hm : m.length ≤ 1000000000) (hy : y.length ≤ 1000000000) : PCalls Tryd.prog 15 [.agg [.x (.str n), .x (.sl (rows rStr m)), .x (.sl (rows rStr y))]] (.x (.bool (fewB n m y))) := by
  refine FCalls.pure (fcallsG (fz := true) G_ok (p := i15) rfl _ (Nat.le_of_ble_eq_true rfl) _ (fun C0 E0 => ?_)) rfl
  dsimp only [i15, argsφ]
  have uu := trivial
  refine WI.seq ?_
  refine WI.regB noTabs_ok [1] ?_
  refine oG ?_
  refine oS ?_
  refine oN ?_
  refine thenQ_normal ?_
  refine WI.seq ?_
  refine WI.regB noTabs_ok [1, 3] ?_
  refine oS ?_
  refine oN ?_
  refine thenQ_normal ?_
  refine WI.seq ?_
  refine WI.regB noTabs_ok [1, 3] ?_
  iterate 2 refine oS ?_
  iterate 3 refine oG ?_
  refine oS ?_
  refine oN ?_
  refine thenQ_normal ?_
  refine WI.seq ?_
  refine WI.regB noTabs_ok [1, 3] ?_
  iterate 2 refine oS ?_
  iterate 2 refine oG ?_
  refine oS ?_
  refine oN ?_
  refine thenQ_normal ?_
  refine WI.seq ?_
  refine WI.regB noTabs_ok [3] ?_
  iterate 2 refine oS ?_
  iterate 2 refine oG ?_
  refine oS ?_
  refine oN ?_
  refine thenQ_normal ?_
  refine WI.seq ?_
  refine WI.seq ?_
  refine WI.regB noTabs_ok [3, 4] ?_
  refine oS ?_
  refine oN ?_
  refine thenQ_normal ?_
  refine WI.block ?_
  refine WI.pickA [0, 2] ?_
  obtain ⟨A, hA0⟩ : ∃ A : List (List UInt8), A = n :: (m ++ y) := ⟨_, rfl⟩
  have hAl : A.length = m.length + y.length + 1 := by rw [hA0]; simp
  have hF : fewB n m y = decide ((∀ x ∈ A, x.length ≤ 80) ∧ m.length + y.length + 1 ≤ 150) := by rw [hA0]; rfl
  refine WI.orderA [3, 4] ?_
  refine WI.pickA [1] ?_
  refine WI.loop (fun φ os => ∃ (j : Nat), φ = [(3, .ref 0 A.length 0 A.length), (4, .x (.int .i64 j))] ∧ os = [.rows false 9 1 (rows rStr A)] ∧ j ≤ A.length ∧ (∀ x ∈ A.take j, x.length ≤ 80)) (down A.length 4) ?_ (fun φ os hI => ?_)
  · exact ⟨0, by first | rfl | (simp [hAl]; done) | (simp [hAl]; omega), by rw [hA0]; rfl, by omega, by simp⟩
  · obtain ⟨j, rfl, rfl, hj, ha⟩ := hI
    refine WI.seq ?_
    refine WI.seq ?_
    refine WI.regB noTabs_ok [3, 4, 21] ?_
    iterate 2 refine oS ?_
    iterate 2 refine oG ?_
    refine oN ?_
    refine thenQ_normal ?_
    refine WI.cond (b := _) rfl rfl (fun h0 => ?_) (fun h0 => ?_)
    · try simp only [zB] at h0
      refine WI.skip ?_
      refine thenQ_normal ?_
      refine WI.seq ?_
      refine WI.block ?_
      refine WI.seq ?_
      have hj4 : j < A.length := by omega
      refine WI.regB noTabs_ok [3, 4, 29] ?_
      iterate 2 refine oS ?_
      iterate 4 refine oG ?_
      refine oN ?_
      refine thenQ_normal ?_
      refine WI.cond (b := _) rfl rfl (fun h1 => ?_) (fun h1 => ?_)
      · try simp only [zB] at h1
        have hp : fewB n m y = false := by rw [hF]; exact decide_eq_false (fun k => by have := k.1 A[j] (List.getElem_mem _); omega)
        refine WI.seq ?_
        refine WI.regB noTabs_ok [2] ?_
        refine oS ?_
        refine oN ?_
        refine thenQ_normal ?_
        refine WI.ret ?_
        refine blockQ_ret ?_
        refine thenQ_ret ?_
        refine thenQ_ret ?_
        refine blockQ_ret ?_
        refine thenQ_ret ?_
        first | refine lfR ?_ | refine lfR2 ?_
        rw [hp] -- leaf 0
      · try simp only [zB] at h1
        have ha2 : ∀ x ∈ A.take (j + 1), x.length ≤ 80 := by
          intro x hx
          rw [List.take_succ_eq_append_getElem hj4, List.mem_append, List.mem_singleton] at hx
          rcases hx with hx | rfl
          · exact ha x hx
          · omega
        refine WI.skip ?_
        refine blockQ_normal ?_
        refine thenQ_normal ?_
        refine WI.regB noTabs_ok [3, 4] ?_
        refine oS ?_
        refine oG ?_
        refine oS ?_
        refine oN ?_
        refine thenQ_normal ?_
        exact ⟨⟨j + 1, rfl, rfl, by omega, ha2⟩, by simp [down, Ab.get, D.val, intOf?]; omega⟩
    · try simp only [zB] at h0
      refine WI.exit ?_
      refine thenQ_exit ?_
      refine thenQ_exit ?_
      refine blockQ_hit ?_
      refine thenQ_normal ?_
      refine WI.seq ?_
      refine WI.regB noTabs_ok [2] ?_
      refine oS ?_
      iterate 2 refine oG ?_
      refine oS ?_
      refine oN ?_
      refine thenQ_normal ?_
      refine WI.ret ?_
      first | refine lfR ?_ | refine lfR2 ?_
      rw [List.take_of_length_le (by omega)] at ha
      have hp : fewB n m y = decide ((A.length : Int) ≤ 150) := by
        rw [hF]; by_cases h : A.length ≤ 150
        · rw [decide_eq_true ⟨ha, by omega⟩, decide_eq_true (by omega)]
        · rw [decide_eq_false (fun k => h (by have := k.2; omega)), decide_eq_false (by omega)]
      rw [hp] -- leaf 1
def tabDf11 : Tabs := addQ (noTabs) 26 (viaNN textsG)
theorem tabDf11_ok : SsOk Tryd.prog tabDf11 := addQ_ok (noTabs_ok) (G_enters G_ok (p := i26) rfl) (viaNN_ok textsG_ok)
theorem tabDf11_q26 (a : List D) : tabDf11.q 26 a = viaNN textsG a := rfl
theorem tabDf11_r (f : FuncId) (a : List D) (o : List Ob) : tabDf11.r f a o = none := rfl
theorem tabDf11_k (f : FuncId) (a : List D) (o : List Ob) : tabDf11.k f a o = none := rfl
theorem sameC_c (n1 n2 : List UInt8) (m1 y1 m2 y2 : List (List UInt8)) : PCalls Tryd.prog 19 [.agg [.x (.str n1), .x (.sl (rows rStr m1)), .x (.sl (rows rStr y1))], .agg [.x (.str n2), .x (.sl (rows rStr m2)), .x (.sl (rows rStr y2))]] (.x (.bool (decide (n1 = n2 ∧ m1 = m2 ∧ y1 = y2)))) := by
  refine FCalls.pure (fcallsG (fz := true) G_ok (p := i19) rfl _ (Nat.le_of_ble_eq_true rfl) _ (fun C0 E0 => ?_)) rfl
  dsimp only [i19, argsφ]
  have uu := And.intro @textsG.eq_1 (And.intro @textsG.eq_2 (And.intro @un_s (And.intro @tabDf11_r (And.intro @tabDf11_k (@tabDf11_q26)))))
  refine WI.seq ?_
  refine WI.regB tabDf11_ok [2, 3] ?_
  iterate 2 refine oG ?_
  refine oS ?_
  refine oN ?_
  refine thenQ_normal ?_
  refine WI.seq ?_
  refine WI.regB tabDf11_ok [4] ?_
  refine oS ?_
  refine oG ?_
  refine oS ?_
  iterate 2 refine oG ?_
  refine oS ?_
  iterate 4 refine oG ?_
  refine oC ?_
  refine oG ?_
  refine oS ?_
  iterate 4 refine oG ?_
  refine oC ?_
  refine oG ?_
  refine oS ?_
  refine oN ?_
  refine thenQ_normal ?_
  refine WI.ret ?_
  first | refine lfR ?_ | refine lfR2 ?_
  by_cases k1 : n1 = n2 <;> by_cases k2 : m1 = m2 <;> by_cases k3 : y1 = y2 <;> simp [k1, k2, k3] -- leaf 0
end Go.Proofs.YtobflnngfochiaaDoor
end
section
/- Defs: the plain laws. -/
set_option linter.unusedSimpArgs false
set_option linter.unusedVariables false
namespace Go.Proofs.YtobflnngfochiaaDoor
open Go.RowKit Go.Bo Go.Ab

theorem gdTo_all {s : List UInt8} : ∀ k, gdTo s k = true → ∀ i (h : i < s.length), i < k → (isAl s[i] || isDD s[i]) = true
  | 0, _, i, _, hi => by omega
  | k + 1, h, i, hs, hi => by
    rw [gdTo, Bool.and_eq_true] at h
    rcases Nat.lt_succ_iff_lt_or_eq.1 hi with h1 | rfl
    · exact gdTo_all k h.1 i hs h1
    · have h2 := h.2
      rw [List.getElem?_eq_getElem hs] at h2
      simp only [gdAt, Bool.or_eq_true, Bool.and_eq_true] at h2 ⊢
      rcases h2 with h2 | h2
      · exact .inl h2
      · exact .inr h2.2
theorem typ_chr {s : List UInt8} (h : typB s = true) : s ≠ [] ∧ s.length ≤ 64 ∧ ∀ b ∈ s, (isAl b || isDD b) = true := by
  unfold typB at h
  simp only [Bool.and_eq_true, decide_eq_true_eq, Bool.not_eq_true', beq_eq_false_iff_ne] at h
  refine ⟨h.1.1, by omega, fun b hb => ?_⟩
  obtain ⟨i, hi, rfl⟩ := List.mem_iff_getElem.1 hb
  exact gdTo_all s.length h.2 i hi hi
theorem typ_no {s : List UInt8} (h : typB s = true) (c : UInt8) (hc : (isAl c || isDD c) = false) : c ∉ s := fun hm => by
  have := (typ_chr h).2.2 c hm
  rw [hc] at this; cases this
theorem typ_32 {s : List UInt8} (h : typB s = true) : (32 : UInt8) ∉ s := typ_no h 32 rfl
theorem quo_put (n : List UInt8) : quo (39 :: n ++ [39]) = (n, typB n) := by
  have h1 : Lib.hasPrefix (39 :: n ++ [39]) [39] = true := by simp [Lib.hasPrefix, List.isPrefixOf]
  have h2 : Lib.trimPrefix (39 :: n ++ [39]) [39] = n ++ [39] := by unfold Lib.trimPrefix; rw [if_pos h1]; rfl
  have h3 : Lib.hasSuffix (n ++ [39]) [39] = true := by
    unfold Lib.hasSuffix; rw [List.isSuffixOf_iff_suffix]; exact List.suffix_append _ _
  have h4 : Lib.trimSuffix (n ++ [39]) [39] = n := by unfold Lib.trimSuffix; rw [if_pos h3]; simp
  unfold quo
  rw [h2, h1, h3, h4]; simp
theorem quo_ok {q : List UInt8} (h : (quo q).2 = true) : q = 39 :: (quo q).1 ++ [39] ∧ typB (quo q).1 = true := by
  unfold quo at h ⊢
  simp only [Bool.and_eq_true] at h ⊢
  obtain ⟨⟨h1, h2⟩, h3⟩ := h
  refine ⟨?_, h3⟩
  cases q with
  | nil => simp [Lib.hasPrefix, List.isPrefixOf] at h1
  | cons b l =>
    have hb : b = 39 := by simp [Lib.hasPrefix, List.isPrefixOf] at h1; exact h1.symm
    subst hb
    have e : Lib.trimPrefix (39 :: l) [39] = l := by unfold Lib.trimPrefix; rw [if_pos h1]; rfl
    rw [e] at h2 ⊢
    have h4 : [39] <:+ l := by unfold Lib.hasSuffix at h2; rw [List.isSuffixOf_iff_suffix] at h2; exact h2
    obtain ⟨u, hu⟩ := h4
    have h5 : Lib.trimSuffix l [39] = u := by unfold Lib.trimSuffix; rw [if_pos h2, ← hu]; simp
    rw [h5, ← hu]; rfl
theorem bgnW_put (n : List UInt8) (l : List (List UInt8)) (h : typB n = true) : bgnW ([40] :: wNAME :: (39 :: n ++ [39]) :: (l ++ [[41]])) = (n, l, true) := by
  have hl4 : ([40] :: wNAME :: (39 :: n ++ [39]) :: (l ++ [[41]])).getD (([40] :: wNAME :: (39 :: n ++ [39]) :: (l ++ [[41]])).length - 1) [] = [41] := by
    have e2 : ([40] :: wNAME :: (39 :: n ++ [39]) :: (l ++ [[41]])).length - 1 = l.length + 3 := by simp
    rw [e2, List.getD_cons_succ, List.getD_cons_succ, List.getD_cons_succ]
    simp
  unfold bgnW
  rw [if_pos ⟨by simp, rfl, rfl, hl4⟩]
  · have e : ([40] :: wNAME :: (39 :: n ++ [39]) :: (l ++ [[41]])).getD 2 [] = 39 :: n ++ [39] := rfl
    rw [e, quo_put, h]
    have e2 : ([40] :: wNAME :: (39 :: n ++ [39]) :: (l ++ [[41]])).length - 1 = l.length + 3 := by simp
    rw [e2, List.take_succ_cons, List.take_succ_cons, List.take_succ_cons, List.drop_succ_cons, List.drop_succ_cons, List.drop_succ_cons, List.drop_zero]
    simp
theorem bgnW_ok {L : List (List UInt8)} (h : (bgnW L).2.2 = true) : ∃ n l, bgnW L = (n, l, true) ∧ L = [40] :: wNAME :: (39 :: n ++ [39]) :: (l ++ [[41]]) ∧ typB n = true := by
  by_cases hc : 4 ≤ L.length ∧ L.getD 0 [] = [40] ∧ L.getD 1 [] = wNAME ∧ L.getD (L.length - 1) [] = [41]
  · have hb : bgnW L = ((quo (L.getD 2 [])).1, (L.take (L.length - 1)).drop 3, (quo (L.getD 2 [])).2) := if_pos hc
    rw [hb] at h
    obtain ⟨h1, h2, h3, h4⟩ := hc
    match L, h1, h2, h3, h4, h, hb with
    | a :: b :: q :: x :: r, h1, h2, h3, h4, h, hb =>
      have h2 : a = [40] := h2
      have h3 : b = wNAME := h3
      have h : (quo q).2 = true := h
      obtain ⟨k1, k2⟩ := quo_ok h
      obtain ⟨l, z, hz⟩ : ∃ l z, x :: r = l ++ [z] := by
        rcases List.eq_nil_or_concat (x :: r) with e | ⟨l, z, e⟩
        · cases e
        · exact ⟨l, z, by simpa using e⟩
      rw [hz] at h4 hb ⊢
      have e2 : (a :: b :: q :: (l ++ [z])).length - 1 = l.length + 3 := by simp
      rw [e2] at h4 hb
      rw [List.getD_cons_succ, List.getD_cons_succ, List.getD_cons_succ] at h4
      have h5 : z = [41] := by simpa using h4
      refine ⟨(quo q).1, l, ?_, ?_, k2⟩
      · rw [hb]
        have e3 : (a :: b :: q :: (l ++ [z])).getD 2 [] = q := rfl
        rw [e3, h, List.take_succ_cons, List.take_succ_cons, List.take_succ_cons, List.drop_succ_cons, List.drop_succ_cons, List.drop_succ_cons, List.drop_zero]
        simp
      · rw [h2, h3, h5, ← k1]
  · have hb : bgnW L = ([], [], false) := if_neg hc
    rw [hb] at h; cases h
theorem jn_spl : ∀ s, jn (spl 32 s) = s
  | [] => rfl
  | b :: l => by
    have ih := jn_spl l
    unfold spl
    split
    · rename_i hb; rw [jn_cons (spl_ne 32 l), ih, hb]; rfl
    · split
      · rename_i x r he
        rw [he] at ih
        cases r with
        | nil => simp only [jn] at ih ⊢; rw [ih]
        | cons y r => simp only [jn] at ih ⊢; rw [List.cons_append, ih]
      · rename_i he; exact absurd he (spl_ne 32 l)
theorem ruleI_N {r : Int} (h : 1 ≤ r ∧ r ≤ 5) : ruleI (ruleN r) = r ∧ (32 : UInt8) ∉ ruleN r := by
  rcases rul5 h with rfl | rfl | rfl | rfl | rfl <;> decide
theorem ruleN_I {m : List UInt8} (h : ruleI m ≠ 0) : (1 ≤ ruleI m ∧ ruleI m ≤ 5) ∧ ruleN (ruleI m) = m := by
  unfold ruleI at h ⊢
  split
  · rename_i e; subst e; decide
  · split
    · rename_i e; subst e; decide
    · split
      · rename_i e; subst e; decide
      · split
        · rename_i e; subst e; decide
        · split
          · rename_i e; subst e; decide
          · rename_i h1 h2 h3 h4 h5; simp [h1, h2, h3, h4, h5] at h
theorem wordsT_no (n : List UInt8) (r : Int) (b : Bool) (hn : typB n = true) (hr : 1 ≤ r ∧ r ≤ 5) : ∀ x ∈ wordsT n r b, (32 : UInt8) ∉ x := by
  have h1 := (ruleI_N hr).2
  have h2 := typ_32 hn
  unfold wordsT
  intro x hx
  cases b <;> simp at hx
  · rcases hx with rfl | rfl | rfl | rfl | rfl | rfl <;> simp [wNAME, wEQ, h1, h2]
  · rcases hx with rfl | rfl | rfl | rfl | rfl | rfl | rfl <;> simp [wNAME, wEQ, wSV, h1, h2]
theorem rdT_put (n : List UInt8) (r : Int) (b : Bool) (hn : typB n = true) (hr : 1 ≤ r ∧ r ≤ 5) : rdT (jn (wordsT n r b)) = ((n, r, b), 0) := by
  have hs := spl_jn (wordsT n r b) (by simp [wordsT]) (wordsT_no n r b hn hr)
  have h1 := (ruleI_N hr).1
  unfold rdT bgn
  rw [hs]
  cases b with
  | false =>
    have e : wordsT n r false = [40] :: wNAME :: (39 :: n ++ [39]) :: ([wEQ, ruleN r] ++ [[41]]) := rfl
    rw [e, bgnW_put _ _ hn]
    show (if wEQ = wEQ ∧ ruleI (ruleN r) ≠ 0 then _ else _) = _
    rw [if_pos ⟨rfl, by omega⟩, h1]
  | true =>
    have e : wordsT n r true = [40] :: wNAME :: (39 :: n ++ [39]) :: ([wEQ, ruleN r, wSV] ++ [[41]]) := rfl
    rw [e, bgnW_put _ _ hn]
    show (if (wEQ = wEQ ∧ wSV = wSV) ∧ ruleI (ruleN r) ≠ 0 then _ else _) = _
    rw [if_pos ⟨⟨rfl, rfl⟩, by omega⟩, h1]
theorem rdT_ok (s : List UInt8) : rdT s = (([], 0, false), 5) ∨ ∃ n r b, rdT s = ((n, r, b), 0) ∧ putT n r b = (s, 0) := by
  unfold rdT bgn
  cases hk : (bgnW (spl 32 s)).2.2 with
  | false => exact .inl rfl
  | true =>
    obtain ⟨n, l, h1, h2, h3⟩ := bgnW_ok hk
    rw [h1]
    have hs := jn_spl s
    rw [h2] at hs
    match l, hs with
    | [], _ => exact .inl rfl
    | [_], _ => exact .inl rfl
    | _ :: _ :: _ :: _ :: _, _ => exact .inl rfl
    | [e, m], hs =>
      by_cases hc : e = wEQ ∧ ruleI m ≠ 0
      · refine .inr ⟨n, ruleI m, false, if_pos hc, ?_⟩
        obtain ⟨k1, k2⟩ := ruleN_I hc.2
        unfold putT
        rw [if_pos h3, if_pos k1]
        conv => rhs; rw [← hs]
        unfold wordsT
        rw [k2, hc.1]; rfl
      · exact .inl (if_neg hc)
    | [e, m, z], hs =>
      by_cases hc : (e = wEQ ∧ z = wSV) ∧ ruleI m ≠ 0
      · refine .inr ⟨n, ruleI m, true, if_pos hc, ?_⟩
        obtain ⟨k1, k2⟩ := ruleN_I hc.2
        unfold putT
        rw [if_pos h3, if_pos k1]
        conv => rhs; rw [← hs]
        unfold wordsT
        rw [k2, hc.1.1, hc.1.2]; rfl
      · exact .inl (if_neg hc)
/-! ### classes -/
def sepW : List (List UInt8) → List (List UInt8)
  | [] => []
  | [x] => [x]
  | x :: y :: r => x :: [36] :: sepW (y :: r)
def expW (w : List UInt8) (l : List (List UInt8)) : List (List UInt8) := if l = [] then [] else w :: [40] :: (sepW l ++ [[41]])
def wordsF (n : List UInt8) (m y : List (List UInt8)) : List (List UInt8) := [40] :: wNAME :: (39 :: n ++ [39]) :: ((expW wMUST m ++ expW wMAY y) ++ [[41]])
theorem sepW_ne {l : List (List UInt8)} (h : l ≠ []) : sepW l ≠ [] := by
  match l, h with
  | [x], _ => simp [sepW]
  | x :: y :: r, _ => simp [sepW]
theorem jn_sep : ∀ l, jn (sepW l) = jd l
  | [] => rfl
  | [x] => by rw [jd_one]; rfl
  | x :: y :: r => by
    have ih := jn_sep (y :: r)
    rw [sepW, jn_cons (by simp), jn_cons (sepW_ne (by simp)), ih, jd_cons]
    simp
theorem jn_exp (w : List UInt8) (l a : List (List UInt8)) (ha : a ≠ []) : jn (a ++ expW w l) = jn a ++ lstS w l := by
  unfold expW lstS
  by_cases h : l = []
  · rw [if_pos h, if_pos h]; simp
  · rw [if_neg h, if_neg h, jn_app _ _ ha (by simp), jn_cons (by simp), jn_cons (by simp [sepW_ne h]), jn_app _ _ (sepW_ne h) (by simp), jn_sep]
    simp [jn]
theorem jn_wordsF (n : List UInt8) (m y : List (List UInt8)) : jn (wordsF n m y) = txtC n m y := by
  have e : wordsF n m y = (([[40], wNAME, 39 :: n ++ [39]] ++ expW wMUST m) ++ expW wMAY y) ++ [[41]] := by simp [wordsF]
  rw [e, jn_app _ _ (by simp) (by simp), jn_exp _ _ _ (by simp), jn_exp _ _ _ (by simp)]
  unfold txtC
  simp [jn, wNAME]
theorem sepW_no : ∀ l : List (List UInt8), l.all typB = true → ∀ x ∈ sepW l, (32 : UInt8) ∉ x
  | [], _, x, hx => by simp [sepW] at hx
  | [y], h, x, hx => by simp [sepW] at hx; subst hx; simp at h; exact typ_32 h
  | y :: z :: r, h, x, hx => by
    rw [List.all_cons, Bool.and_eq_true] at h
    rw [sepW] at hx
    rcases List.mem_cons.1 hx with rfl | hx
    · exact typ_32 h.1
    · rcases List.mem_cons.1 hx with rfl | hx
      · decide
      · exact sepW_no (z :: r) h.2 x hx
theorem expW_no (w : List UInt8) (l : List (List UInt8)) (hw : (32 : UInt8) ∉ w) (h : l.all typB = true) : ∀ x ∈ expW w l, (32 : UInt8) ∉ x := by
  unfold expW
  intro x hx
  split at hx
  · cases hx
  · simp only [List.mem_cons, List.mem_append, List.not_mem_nil, or_false] at hx
    rcases hx with rfl | rfl | hx | rfl
    · exact hw
    · decide
    · exact sepW_no l h x hx
    · decide
theorem wordsF_no (n : List UInt8) (m y : List (List UInt8)) (hn : typB n = true) (hm : m.all typB = true) (hy : y.all typB = true) : ∀ x ∈ wordsF n m y, (32 : UInt8) ∉ x := by
  unfold wordsF
  intro x hx
  simp only [List.mem_cons, List.mem_append, List.not_mem_nil, or_false] at hx
  rcases hx with rfl | rfl | rfl | (hx | hx) | rfl
  · decide
  · decide
  · have := typ_32 hn; simp [this]
  · exact expW_no _ _ (by decide) hm x hx
  · exact expW_no _ _ (by decide) hy x hx
  · decide
theorem tkGo_put : ∀ (l t : List (List UInt8)), l ≠ [] → l.all typB = true → tkGo (sepW l ++ ([41] :: t)) = some (l, t)
  | [x], t, _, h => by
    have hx : typB x = true := by simpa using h
    show (if typB x then if [41] = [41] then some ([x], t) else _ else none) = _
    rw [if_pos hx, if_pos rfl]
  | x :: y :: r, t, _, h => by
    rw [List.all_cons, Bool.and_eq_true] at h
    have ih := tkGo_put (y :: r) t (by simp) h.2
    show (if typB x then if ([36] : List UInt8) = [41] then _ else if ([36] : List UInt8) = [36] then (tkGo (sepW (y :: r) ++ ([41] :: t))).map _ else none else none) = _
    rw [if_pos h.1, if_neg (by decide), if_pos rfl, ih]; rfl
theorem tkGo_ok : ∀ (l : List (List UInt8)) (p), tkGo l = some p → l = sepW p.1 ++ ([41] :: p.2) ∧ p.1 ≠ [] ∧ p.1.all typB = true
  | [], _, h => by simp [tkGo] at h
  | [_], _, h => by simp [tkGo] at h
  | x :: y :: r, p, h => by
    unfold tkGo at h
    split at h
    · rename_i hx
      split at h
      · rename_i hy
        cases h; subst hy
        exact ⟨rfl, by simp, by simpa using hx⟩
      · split at h
        · rename_i hy
          obtain ⟨q, hq, rfl⟩ := Option.map_eq_some_iff.1 h
          obtain ⟨h1, h2, h3⟩ := tkGo_ok r q hq
          subst hy
          obtain ⟨o, t⟩ := q
          cases o with
          | nil => exact absurd rfl h2
          | cons z o =>
            refine ⟨?_, by simp, ?_⟩
            · conv => lhs; rw [h1]
              rfl
            · rw [List.all_cons, Bool.and_eq_true]; exact ⟨hx, h3⟩
        · cases h
    · cases h
theorem tkW_some (w a b : List UInt8) (l : List (List UInt8)) (h : 2 ≤ l.length) : tkW w (w :: [40] :: l) = match tkGo l with | none => ([], [], false) | some p => (p.1, p.2, decide ((p.1.length : Int) ≤ 64)) := by
  match l, h with
  | c :: d :: r, _ =>
    exact (if_pos rfl).trans (if_pos rfl)
theorem tkW_put (w : List UInt8) (l t : List (List UInt8)) (hl : l.all typB = true) (h64 : l.length ≤ 64) (ht : ∀ a r, t = a :: r → a ≠ w) : tkW w (expW w l ++ t) = (l, t, true) := by
  unfold expW
  by_cases h : l = []
  · subst h
    simp only [if_true, List.nil_append]
    match t, ht with
    | [], _ => rfl
    | [a], ht => exact if_neg (ht a [] rfl)
    | [a, b], ht => exact if_neg (ht a _ rfl)
    | [a, b, c], ht => exact if_neg (ht a _ rfl)
    | a :: b :: c :: d :: r, ht => exact if_neg (ht a _ rfl)
  · rw [if_neg h]
    have e : (w :: [40] :: (sepW l ++ [[41]])) ++ t = w :: [40] :: (sepW l ++ ([41] :: t)) := by simp
    have hs : 0 < (sepW l).length := List.length_pos_iff.2 (sepW_ne h)
    rw [e, tkW_some w [] [] _ (by simp; omega), tkGo_put l t h hl]
    simp only
    rw [decide_eq_true (by omega)]
theorem tkW_ok {w : List UInt8} {l : List (List UInt8)} (h : (tkW w l).2.2 = true) : l = expW w (tkW w l).1 ++ (tkW w l).2.1 ∧ (tkW w l).1.all typB = true ∧ (tkW w l).1.length ≤ 64 := by
  unfold tkW at h ⊢
  split
  · rename_i a b c d r
    simp only at h
    split
    · rename_i ha
      rw [if_pos ha] at h
      split
      · rename_i hb
        rw [if_pos hb] at h
        cases hg : tkGo (c :: d :: r) with
        | none => rw [hg] at h; cases h
        | some p =>
          rw [hg] at h
          obtain ⟨h1, h2, h3⟩ := tkGo_ok _ _ hg
          refine ⟨?_, h3, by have h6 : decide ((p.1.length : Int) ≤ 64) = true := h; have h7 := of_decide_eq_true h6; show p.1.length ≤ 64; omega⟩
          simp only
          unfold expW
          rw [if_neg h2, h1, ha, hb]; simp
      · rename_i hb; rw [if_neg hb] at h; cases h
    · exact ⟨rfl, rfl, by simp⟩
  · rename_i a r _
    simp only at h
    split
    · rename_i ha; rw [if_pos ha] at h; cases h
    · exact ⟨rfl, rfl, by simp⟩
  · exact ⟨rfl, rfl, by simp⟩
theorem expW_head (w : List UInt8) (l : List (List UInt8)) (a : List UInt8) (r : List (List UInt8)) (h : expW w l = a :: r) : a = w := by
  unfold expW at h
  split at h
  · cases h
  · cases h; rfl
theorem rdC_put (n : List UInt8) (m y : List (List UInt8)) (hn : typB n = true) (hm : m.all typB = true) (hy : y.all typB = true) (h1 : m.length ≤ 64) (h2 : y.length ≤ 64) : rdC (txtC n m y) = ((n, m, y), 0) := by
  have hb : bgn (txtC n m y) = (n, expW wMUST m ++ expW wMAY y, true) := by
    unfold bgn
    rw [← jn_wordsF, spl_jn _ (by simp [wordsF]) (wordsF_no n m y hn hm hy)]
    exact bgnW_put n _ hn
  have t1 := tkW_put wMUST m (expW wMAY y) hm h1 (fun a r e => by have := expW_head _ _ _ _ e; rw [this]; decide)
  have t2 := tkW_put wMAY y [] hy h2 (fun a r e => by cases e)
  rw [List.append_nil] at t2
  unfold rdC
  rw [hb]
  simp only [t1, t2]
  rfl
theorem rdC_ok (s : List UInt8) : rdC s = (([], [], []), 5) ∨ ∃ n m y, rdC s = ((n, m, y), 0) ∧ putC n m y = (s, 0) := by
  by_cases hc : (((bgn s).2.2 = true ∧ (tkW wMUST (bgn s).2.1).2.2 = true) ∧ (tkW wMAY (tkW wMUST (bgn s).2.1).2.1).2.2 = true) ∧ (tkW wMAY (tkW wMUST (bgn s).2.1).2.1).2.1 = []
  · refine .inr ⟨_, _, _, if_pos hc, ?_⟩
    obtain ⟨⟨⟨k1, k2⟩, k3⟩, k4⟩ := hc
    obtain ⟨n, l, b1, b2, b3⟩ := bgnW_ok k1
    have hb : bgn s = (n, l, true) := b1
    rw [hb] at k2 k3 k4 ⊢
    simp only at k2 k3 k4 ⊢
    obtain ⟨m1, m2, m3⟩ := tkW_ok k2
    obtain ⟨y1, y2, y3⟩ := tkW_ok k3
    rw [k4, List.append_nil] at y1
    unfold putC
    rw [if_pos ⟨b3, m2, y2⟩, if_pos ⟨m3, y3⟩, txtC_eq, ← jn_wordsF]
    have e : wordsF n (tkW wMUST l).1 (tkW wMAY (tkW wMUST l).2.1).1 = spl 32 s := by
      rw [b2]; unfold wordsF
      rw [← y1, ← m1]
    rw [e, jn_spl]
  · exact .inl (if_neg hc)
end Go.Proofs.YtobflnngfochiaaDoor
end
section
/- Defs: the laws. -/
set_option linter.unusedSimpArgs false
set_option linter.unusedVariables false
namespace Go.Proofs.YtobflnngfochiaaDoor
open Go.RowKit Go.Bo Go.Ab

def putTyG : List D → Option (Bool × D)
  | [.agg [.x (.str n), .x (.int .i64 r), .x (.bool b)]] => some (decide (n.length ≤ 1000), .tup [.x (.str (putT n r b).1), .x (.int .i64 (putT n r b).2)])
  | _ => none
theorem putTyG_ok : ∀ args r, putTyG args = some (true, r) → PCalls Tryd.prog 12 args r := by
  intro args r h
  unfold putTyG at h
  split at h
  · rename_i n r b
    simp only [Option.some.injEq, Prod.mk.injEq, Bool.and_eq_true, decide_eq_true_eq, true_and] at h
    obtain ⟨h1, rfl⟩ := h
    exact (putType_c n r b h1)
  · cases h
def putTyRG : List D → Option (Bool × D)
  | [.agg [.x (.str n), .x (.int .i64 r), .x (.bool b)]] => some (decide (n.length ≤ 1000), .tup [.x (.str (putT n r b).1), .x (.int .i64 (putT n r b).2)])
  | _ => none
theorem putTyRG_ok : ∀ args r, putTyRG args = some (true, r) → PCalls Tryd.prog 13 args r := by
  intro args r h
  unfold putTyRG at h
  split at h
  · rename_i n r b
    simp only [Option.some.injEq, Prod.mk.injEq, Bool.and_eq_true, decide_eq_true_eq, true_and] at h
    obtain ⟨h1, rfl⟩ := h
    exact (putTR_c n r b h1)
  · cases h
def rdTyG : List D → Option (Bool × D)
  | [.x (.str s)] => some (decide (s.length ≤ 1000), tyD (rdT s))
  | _ => none
theorem rdTyG_ok : ∀ args r, rdTyG args = some (true, r) → PCalls Tryd.prog 14 args r := by
  intro args r h
  unfold rdTyG at h
  split at h
  · rename_i s
    simp only [Option.some.injEq, Prod.mk.injEq, Bool.and_eq_true, decide_eq_true_eq, true_and] at h
    obtain ⟨h1, rfl⟩ := h
    exact (readType_c s h1)
  · cases h
def rdClG : List D → Option (Bool × D)
  | [.x (.str s)] => some (decide (s.length ≤ 100000 ∧ shrt (spl 32 s)), clD (rdC s))
  | _ => none
theorem rdClG_ok : ∀ args r, rdClG args = some (true, r) → PCalls Tryd.prog 18 args r := by
  intro args r h
  unfold rdClG at h
  split at h
  · rename_i s
    simp only [Option.some.injEq, Prod.mk.injEq, Bool.and_eq_true, decide_eq_true_eq, true_and] at h
    obtain ⟨h1, rfl⟩ := h
    exact (readClass_c s h1.1 h1.2)
  · cases h
def putClG : List D → Option (Bool × D)
  | [.agg [.x (.str n), .x (.sl M), .x (.sl Y)]] => (unrows rStr M).bind fun m => (unrows rStr Y).bind fun y => some (decide (n.length ≤ 1000 ∧ shrt m ∧ shrt y), .tup [.x (.str (putC n m y).1), .x (.int .i64 (putC n m y).2)])
  | _ => none
theorem putClG_ok : ∀ args r, putClG args = some (true, r) → PCalls Tryd.prog 16 args r := by
  intro args r h
  unfold putClG at h
  split at h
  · rename_i n M Y
    obtain ⟨m, hr0, h⟩ := Option.bind_eq_some_iff.1 h
    obtain ⟨y, hr1, h⟩ := Option.bind_eq_some_iff.1 h
    simp only [Option.some.injEq, Prod.mk.injEq, Bool.and_eq_true, decide_eq_true_eq, true_and] at h
    obtain ⟨h1, rfl⟩ := h
    rw [← rows_unrows good_rStr hr0]
    rw [← rows_unrows good_rStr hr1]
    exact (putClass_c n m y h1.1 h1.2.1 h1.2.2)
  · cases h
def putClRG : List D → Option (Bool × D)
  | [.agg [.x (.str n), .x (.sl M), .x (.sl Y)]] => (unrows rStr M).bind fun m => (unrows rStr Y).bind fun y => some (decide (n.length ≤ 1000 ∧ shrt m ∧ shrt y), .tup [.x (.str (putC n m y).1), .x (.int .i64 (putC n m y).2)])
  | _ => none
theorem putClRG_ok : ∀ args r, putClRG args = some (true, r) → PCalls Tryd.prog 17 args r := by
  intro args r h
  unfold putClRG at h
  split at h
  · rename_i n M Y
    obtain ⟨m, hr0, h⟩ := Option.bind_eq_some_iff.1 h
    obtain ⟨y, hr1, h⟩ := Option.bind_eq_some_iff.1 h
    simp only [Option.some.injEq, Prod.mk.injEq, Bool.and_eq_true, decide_eq_true_eq, true_and] at h
    obtain ⟨h1, rfl⟩ := h
    rw [← rows_unrows good_rStr hr0]
    rw [← rows_unrows good_rStr hr1]
    exact (putCR_c n m y h1.1 h1.2.1 h1.2.2)
  · cases h
/-- Nil slices as empty ones, in structs too. -/
def nnA : D → D
  | .agg ds => .agg (ds.map D.nn)
  | d => d.nn
theorem V.nnA {E : Env} {os : List Ob} {d : D} {v : Value} (h : V E os d v) : V E os (nnA d) v := by
  unfold Go.Proofs.YtobflnngfochiaaDoor.nnA
  split
  · cases h with
    | agg vs hl h1 hv =>
      refine .agg vs (by simpa using hl) h1 (fun j d v hd hv' => ?_)
      rw [List.getElem?_map] at hd
      obtain ⟨d0, h0, rfl⟩ := Option.map_eq_some_iff.1 hd
      exact (hv j d0 v h0 hv').nn
  · exact h.nn
theorem PCalls.nnA {P : Program} {f : FuncId} {args : List D} {r : D} (h : PCalls P f (args.map Go.Proofs.YtobflnngfochiaaDoor.nnA) r) : PCalls P f args r := fun w st vs hst hvl => h w st vs hst ⟨by simpa using hvl.1, fun j d v hd hv => by
  rw [List.getElem?_map] at hd
  obtain ⟨d0, h0, rfl⟩ := Option.map_eq_some_iff.1 hd
  exact V.nnA (hvl.2 j d0 v h0 hv)⟩
def putClA (args : List D) : Option (Bool × D) := putClG (args.map nnA)
theorem putClA_ok : ∀ args r, putClA args = some (true, r) → PCalls Tryd.prog 16 args r := fun _ r hg => PCalls.nnA (putClG_ok _ r hg)
def sameCG : List D → Option (Bool × D)
  | [.agg [.x (.str n1), .x (.sl M1), .x (.sl Y1)], .agg [.x (.str n2), .x (.sl M2), .x (.sl Y2)]] => (unrows rStr M1).bind fun m1 => (unrows rStr Y1).bind fun y1 => (unrows rStr M2).bind fun m2 => (unrows rStr Y2).bind fun y2 => some (true, .x (.bool (decide (n1 = n2 ∧ m1 = m2 ∧ y1 = y2))))
  | _ => none
theorem sameCG_ok : ∀ args r, sameCG args = some (true, r) → PCalls Tryd.prog 19 args r := by
  intro args r h
  unfold sameCG at h
  split at h
  · rename_i n1 M1 Y1 n2 M2 Y2
    obtain ⟨m1, hr0, h⟩ := Option.bind_eq_some_iff.1 h
    obtain ⟨y1, hr1, h⟩ := Option.bind_eq_some_iff.1 h
    obtain ⟨m2, hr2, h⟩ := Option.bind_eq_some_iff.1 h
    obtain ⟨y2, hr3, h⟩ := Option.bind_eq_some_iff.1 h
    simp only [Option.some.injEq, Prod.mk.injEq, Bool.and_eq_true, decide_eq_true_eq, true_and] at h
    obtain rfl := h
    rw [← rows_unrows good_rStr hr0]
    rw [← rows_unrows good_rStr hr1]
    rw [← rows_unrows good_rStr hr2]
    rw [← rows_unrows good_rStr hr3]
    exact (sameC_c n1 n2 m1 y1 m2 y2)
  · cases h
def sameCA (args : List D) : Option (Bool × D) := sameCG (args.map nnA)
theorem sameCA_ok : ∀ args r, sameCA args = some (true, r) → PCalls Tryd.prog 19 args r := fun _ r hg => PCalls.nnA (sameCG_ok _ r hg)
def fewG : List D → Option (Bool × D)
  | [.agg [.x (.str n), .x (.sl M), .x (.sl Y)]] => (unrows rStr M).bind fun m => (unrows rStr Y).bind fun y => some (decide (m.length ≤ 1000000000 ∧ y.length ≤ 1000000000), .x (.bool (fewB n m y)))
  | _ => none
theorem fewG_ok : ∀ args r, fewG args = some (true, r) → PCalls Tryd.prog 15 args r := by
  intro args r h
  unfold fewG at h
  split at h
  · rename_i n M Y
    obtain ⟨m, hr0, h⟩ := Option.bind_eq_some_iff.1 h
    obtain ⟨y, hr1, h⟩ := Option.bind_eq_some_iff.1 h
    simp only [Option.some.injEq, Prod.mk.injEq, Bool.and_eq_true, decide_eq_true_eq, true_and] at h
    obtain ⟨h1, rfl⟩ := h
    rw [← rows_unrows good_rStr hr0]
    rw [← rows_unrows good_rStr hr1]
    exact (few_c n m y h1.1 h1.2)
  · cases h
def tabDf12 : Tabs := addQ (addQ (addQ (addQ (addQ (addQ (noTabs) 12 putTyG) 13 putTyRG) 14 rdTyG) 18 rdClG) 16 putClA) 26 (viaNN textsG)
theorem tabDf12_ok : SsOk Tryd.prog tabDf12 := addQ_ok (addQ_ok (addQ_ok (addQ_ok (addQ_ok (addQ_ok (noTabs_ok) (G_enters G_ok (p := i12) rfl) putTyG_ok) (G_enters G_ok (p := i13) rfl) putTyRG_ok) (G_enters G_ok (p := i14) rfl) rdTyG_ok) (G_enters G_ok (p := i18) rfl) rdClG_ok) (G_enters G_ok (p := i16) rfl) putClA_ok) (G_enters G_ok (p := i26) rfl) (viaNN_ok textsG_ok)
theorem tabDf12_q12 (a : List D) : tabDf12.q 12 a = putTyG a := rfl
theorem tabDf12_q13 (a : List D) : tabDf12.q 13 a = putTyRG a := rfl
theorem tabDf12_q14 (a : List D) : tabDf12.q 14 a = rdTyG a := rfl
theorem tabDf12_q18 (a : List D) : tabDf12.q 18 a = rdClG a := rfl
theorem tabDf12_q16 (a : List D) : tabDf12.q 16 a = putClA a := rfl
theorem tabDf12_q26 (a : List D) : tabDf12.q 26 a = viaNN textsG a := rfl
theorem tabDf12_r (f : FuncId) (a : List D) (o : List Ob) : tabDf12.r f a o = none := rfl
theorem tabDf12_k (f : FuncId) (a : List D) (o : List Ob) : tabDf12.k f a o = none := rfl
theorem shrt_nil : shrt [] := ⟨by simp, by simp⟩
theorem awake43_c : PCalls Tryd.prog 11 [] (.x (.bool true)) := by
  have e1 : putT [99, 110] 1 false = ([40, 32, 78, 65, 77, 69, 32, 39, 99, 110, 39, 32, 69, 81, 85, 65, 76, 73, 84, 89, 32, 99, 97, 115, 101, 73, 103, 110, 111, 114, 101, 77, 97, 116, 99, 104, 32, 41], 0) := by kernel_rfl
  have e2 : rdT [40, 32, 78, 65, 77, 69, 32, 39, 117, 105, 100, 39, 32, 69, 81, 85, 65, 76, 73, 84, 89, 32, 105, 110, 116, 101, 103, 101, 114, 77, 97, 116, 99, 104, 32, 83, 73, 78, 71, 76, 69, 45, 86, 65, 76, 85, 69, 32, 41] = (([117, 105, 100], 3, true), 0) := by kernel_rfl
  have e3 : rdC [40, 32, 78, 65, 77, 69, 32, 39, 120, 39, 32, 77, 85, 83, 84, 32, 40, 32, 97, 32, 36, 32, 98, 32, 41, 32, 77, 65, 89, 32, 40, 32, 99, 32, 41, 32, 41] = (([120], [[97], [98]], [[99]]), 0) := by kernel_rfl
  have e4 : putC [116, 111, 112] [] [] = ([40, 32, 78, 65, 77, 69, 32, 39, 116, 111, 112, 39, 32, 41], 0) := by kernel_rfl
  have e5 : rdT [40, 32, 78, 65, 77, 69, 32, 39, 99, 110, 39, 32, 69, 81, 85, 65, 76, 73, 84, 89, 32, 99, 97, 115, 101, 73, 103, 110, 111, 114, 101, 77, 97, 116, 99, 104, 32, 41, 32] = (([], 0, false), 5) := by kernel_rfl
  have e6 := decide_eq_true shrt_nil
  have e7 : decide (shrt (spl 32 [40, 32, 78, 65, 77, 69, 32, 39, 120, 39, 32, 77, 85, 83, 84, 32, 40, 32, 97, 32, 36, 32, 98, 32, 41, 32, 77, 65, 89, 32, 40, 32, 99, 32, 41, 32, 41])) = true := by kernel_rfl
  dsimp only at e1 e2 e3 e5 e7
  refine FCalls.pure (fcallsG (fz := true) G_ok (p := i11) rfl _ (Nat.le_of_ble_eq_true rfl) _ (fun C0 E0 => ?_)) rfl
  dsimp only [i11, argsφ]
  have uu := And.intro @putTyG.eq_1 (And.intro @putTyG.eq_2 (And.intro @putTyRG.eq_1 (And.intro @putTyRG.eq_2 (And.intro @rdTyG.eq_1 (And.intro @rdTyG.eq_2 (And.intro @rdClG.eq_1 (And.intro @rdClG.eq_2 (And.intro @textsG.eq_1 (And.intro @textsG.eq_2 (And.intro @putClG.eq_1 (And.intro @putClG.eq_2 (And.intro @putClA.eq_1 (And.intro @nnA.eq_1 (And.intro @nnA.eq_2 (And.intro @D.nn.eq_1 (And.intro @D.nn.eq_2 (And.intro @e1 (And.intro @e2 (And.intro @e3 (And.intro @e4 (And.intro @e5 (And.intro @e6 (And.intro @e7 (And.intro @un_s (And.intro @rows_0 (And.intro @rows_1 (And.intro @rows_2 (And.intro @tabDf12_r (And.intro @tabDf12_k (And.intro @tabDf12_q12 (And.intro @tabDf12_q13 (And.intro @tabDf12_q14 (And.intro @tabDf12_q16 (And.intro @tabDf12_q18 (@tabDf12_q26)))))))))))))))))))))))))))))))))))
  refine WI.seq ?_
  refine WI.regB tabDf12_ok [] ?_
  refine oS ?_
  refine oN ?_
  refine thenQ_normal ?_
  refine WI.seq ?_
  refine WI.regB tabDf12_ok [1, 2] ?_
  refine oG ?_
  refine oC ?_
  refine oS ?_
  iterate 2 refine oG ?_
  iterate 2 refine oS ?_
  refine oN ?_
  refine thenQ_normal ?_
  refine WI.seq ?_
  refine WI.regB tabDf12_ok [1, 2, 3, 4] ?_
  refine oC ?_
  refine oS ?_
  iterate 4 refine oG ?_
  refine oS ?_
  refine oN ?_
  refine thenQ_normal ?_
  refine WI.seq ?_
  refine WI.regB tabDf12_ok [1, 2, 3, 4, 5, 6] ?_
  refine oC ?_
  refine oS ?_
  iterate 4 refine oG ?_
  refine oS ?_
  refine oN ?_
  refine thenQ_normal ?_
  refine WI.seq ?_
  refine WI.regB tabDf12_ok [1, 2, 3, 4, 5, 6, 7, 8] ?_
  refine oG ?_
  refine oC ?_
  refine oS ?_
  iterate 2 refine oG ?_
  iterate 2 refine oS ?_
  refine oN ?_
  refine thenQ_normal ?_
  refine WI.seq ?_
  refine WI.regB tabDf12_ok [1, 2, 3, 4, 5, 6, 7, 8, 10] ?_
  refine oS ?_
  refine oG ?_
  refine oC ?_
  refine oS ?_
  iterate 4 refine oG ?_
  refine oS ?_
  refine oN ?_
  refine thenQ_normal ?_
  refine WI.seq ?_
  refine WI.regB tabDf12_ok [0] ?_
  refine oS ?_
  refine oG ?_
  refine oS ?_
  iterate 3 refine oG ?_
  refine oS ?_
  iterate 4 refine oG ?_
  refine oS ?_
  iterate 3 refine oG ?_
  refine oS ?_
  iterate 3 refine oG ?_
  refine oC ?_
  refine oG ?_
  refine oS ?_
  iterate 5 refine oG ?_
  refine oS ?_
  iterate 3 refine oG ?_
  refine oS ?_
  iterate 3 refine oG ?_
  refine oS ?_
  iterate 3 refine oG ?_
  refine oS ?_
  iterate 3 refine oG ?_
  refine oS ?_
  refine oN ?_
  refine thenQ_normal ?_
  refine WI.ret ?_
  first | refine lfR ?_ | refine lfR2 ?_
  first | rfl | exact ⟨rfl, rfl⟩ | trivial -- leaf 0
def awake43G : List D → Option (Bool × D)
  | [] => some (true, .x (.bool true))
  | _ => none
theorem awake43G_ok : ∀ args r, awake43G args = some (true, r) → PCalls Tryd.prog 11 args r := by
  intro args r h
  unfold awake43G at h
  split at h
  · simp only [Option.some.injEq, Prod.mk.injEq, Bool.and_eq_true, decide_eq_true_eq, true_and] at h
    obtain rfl := h
    exact awake43_c
  · cases h
def tabDf13 : Tabs := addQ (addQ (addQ (addQ (noTabs) 12 putTyG) 13 putTyRG) 14 rdTyG) 11 awake43G
theorem tabDf13_ok : SsOk Tryd.prog tabDf13 := addQ_ok (addQ_ok (addQ_ok (addQ_ok (noTabs_ok) (G_enters G_ok (p := i12) rfl) putTyG_ok) (G_enters G_ok (p := i13) rfl) putTyRG_ok) (G_enters G_ok (p := i14) rfl) rdTyG_ok) (G_enters G_ok (p := i11) rfl) awake43G_ok
theorem tabDf13_q12 (a : List D) : tabDf13.q 12 a = putTyG a := rfl
theorem tabDf13_q13 (a : List D) : tabDf13.q 13 a = putTyRG a := rfl
theorem tabDf13_q14 (a : List D) : tabDf13.q 14 a = rdTyG a := rfl
theorem tabDf13_q11 (a : List D) : tabDf13.q 11 a = awake43G a := rfl
theorem tabDf13_r (f : FuncId) (a : List D) (o : List Ob) : tabDf13.r f a o = none := rfl
theorem tabDf13_k (f : FuncId) (a : List D) (o : List Ob) : tabDf13.k f a o = none := rfl
theorem putT_zero : putT [] 0 false = ([], 13) := by kernel_rfl
theorem rdT_nil : rdT [] = (([], 0, false), 5) := by kernel_rfl
theorem rdC_nil : rdC [] = (([], [], []), 5) := by kernel_rfl
theorem wordsT_len (n : List UInt8) (r : Int) (b : Bool) (hn : n.length ≤ 64) : (jn (wordsT n r b)).length ≤ 1000 := by
  rw [txtT_eq]
  have h : (ruleN r).length ≤ 30 := by unfold ruleN; repeat' split
                                       all_goals decide
  unfold txtT
  cases b <;> simp [wSV] <;> omega
theorem putT_cases (n : List UInt8) (r : Int) (b : Bool) : (∃ a, putT n r b = (a, 0) ∧ rdT a = ((n, r, b), 0) ∧ a.length ≤ 1000) ∨ putT n r b = ([], 1) ∨ putT n r b = ([], 13) := by
  unfold putT
  by_cases hn : typB n = true
  · rw [if_pos hn]
    by_cases hr : 1 ≤ r ∧ r ≤ 5
    · rw [if_pos hr]
      exact .inl ⟨_, rfl, rdT_put n r b hn hr, wordsT_len n r b (typ_chr hn).2.1⟩
    · rw [if_neg hr]; exact .inr (.inl rfl)
  · rw [if_neg hn]; exact .inr (.inr rfl)
theorem rdT_name (s : List UInt8) (n : List UInt8) (r : Int) (b : Bool) (h : putT n r b = (s, 0)) : n.length ≤ 64 := by
  unfold putT at h
  split at h
  · rename_i hn; exact (typ_chr hn).2.1
  · cases h
set_option maxHeartbeats 4000000 in
theorem defsTypes_c (t : List UInt8 × Int × Bool × Unit) (s : List UInt8) : PCalls Tryd.prog 5 [.agg [.x (.str t.1), .x (.int .i64 t.2.1), .x (.bool t.2.2.1)], .x (.str s)] (.x (.bool true)) := by
  obtain ⟨n, r, b, _⟩ := t
  show PCalls _ _ [.agg [.x (.str n), .x (.int .i64 r), .x (.bool b)], .x (.str s)] _
  have hsv : ∃ v i, rdT s = (v, i) ∧ v.1.length ≤ 64 ∧ ((i = 0 ∧ putT v.1 v.2.1 v.2.2 = (s, 0)) ∨ (i = 5 ∧ v = ([], 0, false))) := by
    rcases rdT_ok s with h | ⟨n', r', b', h1, h2⟩
    · exact ⟨_, _, h, by simp, .inr ⟨rfl, rfl⟩⟩
    · exact ⟨_, _, h1, rdT_name s n' r' b' h2, .inl ⟨rfl, h2⟩⟩
  obtain ⟨⟨n', r', b'⟩, i, hv, hvl, hi⟩ := hsv
  simp only at hvl hi
  rcases putT_cases n r b with ⟨a, hp, ha, hal⟩ | hp | hp <;> rcases hi with ⟨rfl, hw⟩ | ⟨rfl, he⟩
  · have uu0 := trivial
    refine FCalls.pure (fcallsG (fz := true) G_ok (p := i5) rfl _ (Nat.le_of_ble_eq_true rfl) _ (fun C0 E0 => ?_)) rfl
    dsimp only [i5, argsφ]
    have uu := And.intro @putTyG.eq_1 (And.intro @putTyG.eq_2 (And.intro @putTyRG.eq_1 (And.intro @putTyRG.eq_2 (And.intro @rdTyG.eq_1 (And.intro @rdTyG.eq_2 (And.intro @awake43G.eq_1 (And.intro @awake43G.eq_2 (And.intro hp (And.intro hv (And.intro @rdT_nil (And.intro ha (And.intro hw (And.intro @tabDf13_r (And.intro @tabDf13_k (And.intro @tabDf13_q11 (And.intro @tabDf13_q12 (And.intro @tabDf13_q13 (@tabDf13_q14))))))))))))))))))
    refine WI.seq ?_
    refine WI.regB tabDf13_ok [1, 2] ?_
    refine oG ?_
    refine oS ?_
    refine oN ?_
    refine thenQ_normal ?_
    refine WI.seq ?_
    refine WI.seq ?_
    refine WI.regB tabDf13_ok [1, 2, 23] ?_
    refine oS ?_
    iterate 3 refine oG ?_
    refine oS ?_
    iterate 4 refine oG ?_
    refine oN ?_
    refine thenQ_normal ?_
    refine WI.cond (b := _) rfl rfl (fun h0 => ?_) (fun h0 => ?_)
    · try simp only [zB] at h0
      refine WI.seq ?_
      refine WI.regB tabDf13_ok [4] ?_
      refine oC ?_
      refine oS ?_
      refine oN ?_
      refine thenQ_normal ?_
      refine WI.ret ?_
      refine thenQ_ret ?_
      first | refine lfR ?_ | refine lfR2 ?_
      first | rfl | exact ⟨rfl, rfl⟩ | trivial -- leaf 0
    · try simp only [zB] at h0
      refine WI.skip ?_
      refine thenQ_normal ?_
      refine WI.seq ?_
      refine WI.regB tabDf13_ok [1, 2, 5, 6] ?_
      refine oG ?_
      refine oC ?_
      refine oS ?_
      iterate 2 refine oG ?_
      iterate 2 refine oS ?_
      refine oN ?_
      refine thenQ_normal ?_
      refine WI.seq ?_
      refine WI.regB tabDf13_ok [1, 2, 5, 6, 7, 8] ?_
      refine oG ?_
      refine oC ?_
      refine oS ?_
      iterate 2 refine oG ?_
      iterate 2 refine oS ?_
      refine oN ?_
      refine thenQ_normal ?_
      refine WI.seq ?_
      refine WI.regB tabDf13_ok [1, 2, 5, 6, 7, 8, 9, 10] ?_
      refine oS ?_
      refine oC ?_
      refine oS ?_
      iterate 4 refine oG ?_
      refine oS ?_
      refine oN ?_
      refine thenQ_normal ?_
      refine WI.seq ?_
      refine WI.regB tabDf13_ok [1, 2, 5, 6, 7, 8, 9, 10, 11, 12] ?_
      refine oS ?_
      refine oC ?_
      refine oS ?_
      iterate 4 refine oG ?_
      refine oS ?_
      refine oN ?_
      refine thenQ_normal ?_
      refine WI.seq ?_
      refine WI.regB tabDf13_ok [1, 2, 5, 6, 7, 8, 9, 10, 11, 12, 13, 14] ?_
      refine oG ?_
      refine oC ?_
      refine oS ?_
      iterate 2 refine oG ?_
      iterate 2 refine oS ?_
      refine oN ?_
      refine thenQ_normal ?_
      refine WI.seq ?_
      refine WI.seq ?_
      refine WI.regB tabDf13_ok [1, 11, 12, 13, 14, 70] ?_
      iterate 2 refine oS ?_
      refine oG ?_
      refine oS ?_
      iterate 4 refine oG ?_
      refine oS ?_
      iterate 12 refine oG ?_
      refine oN ?_
      refine thenQ_normal ?_
      refine WI.cond (b := _) rfl rfl (fun h1 => ?_) (fun h1 => ?_)
      · exfalso
        simp at h1
      · try simp only [zB] at h1
        refine WI.skip ?_
        refine thenQ_normal ?_
        refine WI.seq ?_
        refine WI.regB tabDf13_ok [4] ?_
        refine oS ?_
        refine oG ?_
        refine oS ?_
        iterate 4 refine oG ?_
        refine oS ?_
        iterate 3 refine oG ?_
        refine oS ?_
        iterate 8 refine oG ?_
        refine oS ?_
        refine oC ?_
        refine oG ?_
        refine oS ?_
        refine oN ?_
        refine thenQ_normal ?_
        refine WI.ret ?_
        first | refine lfR ?_ | refine lfR2 ?_
        first | rfl | exact ⟨rfl, rfl⟩ | trivial -- leaf 1
  · cases he
    have uu0 := trivial
    refine FCalls.pure (fcallsG (fz := true) G_ok (p := i5) rfl _ (Nat.le_of_ble_eq_true rfl) _ (fun C0 E0 => ?_)) rfl
    dsimp only [i5, argsφ]
    have uu := And.intro @putTyG.eq_1 (And.intro @putTyG.eq_2 (And.intro @putTyRG.eq_1 (And.intro @putTyRG.eq_2 (And.intro @rdTyG.eq_1 (And.intro @rdTyG.eq_2 (And.intro @awake43G.eq_1 (And.intro @awake43G.eq_2 (And.intro hp (And.intro hv (And.intro @rdT_nil (And.intro ha (And.intro @putT_zero (And.intro @tabDf13_r (And.intro @tabDf13_k (And.intro @tabDf13_q11 (And.intro @tabDf13_q12 (And.intro @tabDf13_q13 (@tabDf13_q14))))))))))))))))))
    refine WI.seq ?_
    refine WI.regB tabDf13_ok [1, 2] ?_
    refine oG ?_
    refine oS ?_
    refine oN ?_
    refine thenQ_normal ?_
    refine WI.seq ?_
    refine WI.seq ?_
    refine WI.regB tabDf13_ok [1, 2, 23] ?_
    refine oS ?_
    iterate 3 refine oG ?_
    refine oS ?_
    iterate 4 refine oG ?_
    refine oN ?_
    refine thenQ_normal ?_
    refine WI.cond (b := _) rfl rfl (fun h0 => ?_) (fun h0 => ?_)
    · try simp only [zB] at h0
      refine WI.seq ?_
      refine WI.regB tabDf13_ok [4] ?_
      refine oC ?_
      refine oS ?_
      refine oN ?_
      refine thenQ_normal ?_
      refine WI.ret ?_
      refine thenQ_ret ?_
      first | refine lfR ?_ | refine lfR2 ?_
      first | rfl | exact ⟨rfl, rfl⟩ | trivial -- leaf 0
    · try simp only [zB] at h0
      refine WI.skip ?_
      refine thenQ_normal ?_
      refine WI.seq ?_
      refine WI.regB tabDf13_ok [1, 2, 5, 6] ?_
      refine oG ?_
      refine oC ?_
      refine oS ?_
      iterate 2 refine oG ?_
      iterate 2 refine oS ?_
      refine oN ?_
      refine thenQ_normal ?_
      refine WI.seq ?_
      refine WI.regB tabDf13_ok [1, 2, 5, 6, 7, 8] ?_
      refine oG ?_
      refine oC ?_
      refine oS ?_
      iterate 2 refine oG ?_
      iterate 2 refine oS ?_
      refine oN ?_
      refine thenQ_normal ?_
      refine WI.seq ?_
      refine WI.regB tabDf13_ok [1, 2, 5, 6, 7, 8, 9, 10] ?_
      refine oS ?_
      refine oC ?_
      refine oS ?_
      iterate 4 refine oG ?_
      refine oS ?_
      refine oN ?_
      refine thenQ_normal ?_
      refine WI.seq ?_
      refine WI.regB tabDf13_ok [1, 2, 5, 6, 7, 8, 9, 10, 11, 12] ?_
      refine oS ?_
      refine oC ?_
      refine oS ?_
      iterate 4 refine oG ?_
      refine oS ?_
      refine oN ?_
      refine thenQ_normal ?_
      refine WI.seq ?_
      refine WI.regB tabDf13_ok [1, 2, 5, 6, 7, 8, 9, 10, 11, 12, 13, 14] ?_
      refine oG ?_
      refine oC ?_
      refine oS ?_
      iterate 2 refine oG ?_
      iterate 2 refine oS ?_
      refine oN ?_
      refine thenQ_normal ?_
      refine WI.seq ?_
      refine WI.seq ?_
      refine WI.regB tabDf13_ok [1, 11, 12, 13, 14, 70] ?_
      iterate 2 refine oS ?_
      refine oG ?_
      refine oS ?_
      iterate 4 refine oG ?_
      refine oS ?_
      iterate 12 refine oG ?_
      refine oN ?_
      refine thenQ_normal ?_
      refine WI.cond (b := _) rfl rfl (fun h1 => ?_) (fun h1 => ?_)
      · exfalso
        simp at h1
      · try simp only [zB] at h1
        refine WI.skip ?_
        refine thenQ_normal ?_
        refine WI.seq ?_
        refine WI.regB tabDf13_ok [4] ?_
        refine oS ?_
        refine oG ?_
        refine oS ?_
        iterate 4 refine oG ?_
        refine oS ?_
        iterate 3 refine oG ?_
        refine oS ?_
        iterate 8 refine oG ?_
        refine oS ?_
        refine oC ?_
        refine oG ?_
        refine oS ?_
        refine oN ?_
        refine thenQ_normal ?_
        refine WI.ret ?_
        first | refine lfR ?_ | refine lfR2 ?_
        first | rfl | exact ⟨rfl, rfl⟩ | trivial -- leaf 1
  · have uu0 := trivial
    refine FCalls.pure (fcallsG (fz := true) G_ok (p := i5) rfl _ (Nat.le_of_ble_eq_true rfl) _ (fun C0 E0 => ?_)) rfl
    dsimp only [i5, argsφ]
    have uu := And.intro @putTyG.eq_1 (And.intro @putTyG.eq_2 (And.intro @putTyRG.eq_1 (And.intro @putTyRG.eq_2 (And.intro @rdTyG.eq_1 (And.intro @rdTyG.eq_2 (And.intro @awake43G.eq_1 (And.intro @awake43G.eq_2 (And.intro hp (And.intro hv (And.intro @rdT_nil (And.intro hw (And.intro @tabDf13_r (And.intro @tabDf13_k (And.intro @tabDf13_q11 (And.intro @tabDf13_q12 (And.intro @tabDf13_q13 (@tabDf13_q14)))))))))))))))))
    refine WI.seq ?_
    refine WI.regB tabDf13_ok [1, 2] ?_
    refine oG ?_
    refine oS ?_
    refine oN ?_
    refine thenQ_normal ?_
    refine WI.seq ?_
    refine WI.seq ?_
    refine WI.regB tabDf13_ok [1, 2, 23] ?_
    refine oS ?_
    iterate 3 refine oG ?_
    refine oS ?_
    iterate 4 refine oG ?_
    refine oN ?_
    refine thenQ_normal ?_
    refine WI.cond (b := _) rfl rfl (fun h0 => ?_) (fun h0 => ?_)
    · try simp only [zB] at h0
      refine WI.seq ?_
      refine WI.regB tabDf13_ok [4] ?_
      refine oC ?_
      refine oS ?_
      refine oN ?_
      refine thenQ_normal ?_
      refine WI.ret ?_
      refine thenQ_ret ?_
      first | refine lfR ?_ | refine lfR2 ?_
      first | rfl | exact ⟨rfl, rfl⟩ | trivial -- leaf 0
    · try simp only [zB] at h0
      refine WI.skip ?_
      refine thenQ_normal ?_
      refine WI.seq ?_
      refine WI.regB tabDf13_ok [1, 2, 5, 6] ?_
      refine oG ?_
      refine oC ?_
      refine oS ?_
      iterate 2 refine oG ?_
      iterate 2 refine oS ?_
      refine oN ?_
      refine thenQ_normal ?_
      refine WI.seq ?_
      refine WI.regB tabDf13_ok [1, 2, 5, 6, 7, 8] ?_
      refine oG ?_
      refine oC ?_
      refine oS ?_
      iterate 2 refine oG ?_
      iterate 2 refine oS ?_
      refine oN ?_
      refine thenQ_normal ?_
      refine WI.seq ?_
      refine WI.regB tabDf13_ok [1, 2, 5, 6, 7, 8, 9, 10] ?_
      refine oS ?_
      refine oC ?_
      refine oS ?_
      iterate 4 refine oG ?_
      refine oS ?_
      refine oN ?_
      refine thenQ_normal ?_
      refine WI.seq ?_
      refine WI.regB tabDf13_ok [1, 2, 5, 6, 7, 8, 9, 10, 11, 12] ?_
      refine oS ?_
      refine oC ?_
      refine oS ?_
      iterate 4 refine oG ?_
      refine oS ?_
      refine oN ?_
      refine thenQ_normal ?_
      refine WI.seq ?_
      refine WI.regB tabDf13_ok [1, 2, 5, 6, 7, 8, 9, 10, 11, 12, 13, 14] ?_
      refine oG ?_
      refine oC ?_
      refine oS ?_
      iterate 2 refine oG ?_
      iterate 2 refine oS ?_
      refine oN ?_
      refine thenQ_normal ?_
      refine WI.seq ?_
      refine WI.seq ?_
      refine WI.regB tabDf13_ok [1, 11, 12, 13, 14, 70] ?_
      iterate 2 refine oS ?_
      refine oG ?_
      refine oS ?_
      iterate 4 refine oG ?_
      refine oS ?_
      iterate 12 refine oG ?_
      refine oN ?_
      refine thenQ_normal ?_
      refine WI.cond (b := _) rfl rfl (fun h1 => ?_) (fun h1 => ?_)
      · exfalso
        simp at h1
      · try simp only [zB] at h1
        refine WI.skip ?_
        refine thenQ_normal ?_
        refine WI.seq ?_
        refine WI.regB tabDf13_ok [4] ?_
        refine oS ?_
        refine oG ?_
        refine oS ?_
        iterate 4 refine oG ?_
        refine oS ?_
        iterate 3 refine oG ?_
        refine oS ?_
        iterate 8 refine oG ?_
        refine oS ?_
        refine oC ?_
        refine oG ?_
        refine oS ?_
        refine oN ?_
        refine thenQ_normal ?_
        refine WI.ret ?_
        first | refine lfR ?_ | refine lfR2 ?_
        first | rfl | exact ⟨rfl, rfl⟩ | trivial -- leaf 1
  · cases he
    have uu0 := trivial
    refine FCalls.pure (fcallsG (fz := true) G_ok (p := i5) rfl _ (Nat.le_of_ble_eq_true rfl) _ (fun C0 E0 => ?_)) rfl
    dsimp only [i5, argsφ]
    have uu := And.intro @putTyG.eq_1 (And.intro @putTyG.eq_2 (And.intro @putTyRG.eq_1 (And.intro @putTyRG.eq_2 (And.intro @rdTyG.eq_1 (And.intro @rdTyG.eq_2 (And.intro @awake43G.eq_1 (And.intro @awake43G.eq_2 (And.intro hp (And.intro hv (And.intro @rdT_nil (And.intro @putT_zero (And.intro @tabDf13_r (And.intro @tabDf13_k (And.intro @tabDf13_q11 (And.intro @tabDf13_q12 (And.intro @tabDf13_q13 (@tabDf13_q14)))))))))))))))))
    refine WI.seq ?_
    refine WI.regB tabDf13_ok [1, 2] ?_
    refine oG ?_
    refine oS ?_
    refine oN ?_
    refine thenQ_normal ?_
    refine WI.seq ?_
    refine WI.seq ?_
    refine WI.regB tabDf13_ok [1, 2, 23] ?_
    refine oS ?_
    iterate 3 refine oG ?_
    refine oS ?_
    iterate 4 refine oG ?_
    refine oN ?_
    refine thenQ_normal ?_
    refine WI.cond (b := _) rfl rfl (fun h0 => ?_) (fun h0 => ?_)
    · try simp only [zB] at h0
      refine WI.seq ?_
      refine WI.regB tabDf13_ok [4] ?_
      refine oC ?_
      refine oS ?_
      refine oN ?_
      refine thenQ_normal ?_
      refine WI.ret ?_
      refine thenQ_ret ?_
      first | refine lfR ?_ | refine lfR2 ?_
      first | rfl | exact ⟨rfl, rfl⟩ | trivial -- leaf 0
    · try simp only [zB] at h0
      refine WI.skip ?_
      refine thenQ_normal ?_
      refine WI.seq ?_
      refine WI.regB tabDf13_ok [1, 2, 5, 6] ?_
      refine oG ?_
      refine oC ?_
      refine oS ?_
      iterate 2 refine oG ?_
      iterate 2 refine oS ?_
      refine oN ?_
      refine thenQ_normal ?_
      refine WI.seq ?_
      refine WI.regB tabDf13_ok [1, 2, 5, 6, 7, 8] ?_
      refine oG ?_
      refine oC ?_
      refine oS ?_
      iterate 2 refine oG ?_
      iterate 2 refine oS ?_
      refine oN ?_
      refine thenQ_normal ?_
      refine WI.seq ?_
      refine WI.regB tabDf13_ok [1, 2, 5, 6, 7, 8, 9, 10] ?_
      refine oS ?_
      refine oC ?_
      refine oS ?_
      iterate 4 refine oG ?_
      refine oS ?_
      refine oN ?_
      refine thenQ_normal ?_
      refine WI.seq ?_
      refine WI.regB tabDf13_ok [1, 2, 5, 6, 7, 8, 9, 10, 11, 12] ?_
      refine oS ?_
      refine oC ?_
      refine oS ?_
      iterate 4 refine oG ?_
      refine oS ?_
      refine oN ?_
      refine thenQ_normal ?_
      refine WI.seq ?_
      refine WI.regB tabDf13_ok [1, 2, 5, 6, 7, 8, 9, 10, 11, 12, 13, 14] ?_
      refine oG ?_
      refine oC ?_
      refine oS ?_
      iterate 2 refine oG ?_
      iterate 2 refine oS ?_
      refine oN ?_
      refine thenQ_normal ?_
      refine WI.seq ?_
      refine WI.seq ?_
      refine WI.regB tabDf13_ok [1, 11, 12, 13, 14, 70] ?_
      iterate 2 refine oS ?_
      refine oG ?_
      refine oS ?_
      iterate 4 refine oG ?_
      refine oS ?_
      iterate 12 refine oG ?_
      refine oN ?_
      refine thenQ_normal ?_
      refine WI.cond (b := _) rfl rfl (fun h1 => ?_) (fun h1 => ?_)
      · exfalso
        simp at h1
      · try simp only [zB] at h1
        refine WI.skip ?_
        refine thenQ_normal ?_
        refine WI.seq ?_
        refine WI.regB tabDf13_ok [4] ?_
        refine oS ?_
        refine oG ?_
        refine oS ?_
        iterate 4 refine oG ?_
        refine oS ?_
        iterate 3 refine oG ?_
        refine oS ?_
        iterate 8 refine oG ?_
        refine oS ?_
        refine oC ?_
        refine oG ?_
        refine oS ?_
        refine oN ?_
        refine thenQ_normal ?_
        refine WI.ret ?_
        first | refine lfR ?_ | refine lfR2 ?_
        first | rfl | exact ⟨rfl, rfl⟩ | trivial -- leaf 1
  · have uu0 := trivial
    refine FCalls.pure (fcallsG (fz := true) G_ok (p := i5) rfl _ (Nat.le_of_ble_eq_true rfl) _ (fun C0 E0 => ?_)) rfl
    dsimp only [i5, argsφ]
    have uu := And.intro @putTyG.eq_1 (And.intro @putTyG.eq_2 (And.intro @putTyRG.eq_1 (And.intro @putTyRG.eq_2 (And.intro @rdTyG.eq_1 (And.intro @rdTyG.eq_2 (And.intro @awake43G.eq_1 (And.intro @awake43G.eq_2 (And.intro hp (And.intro hv (And.intro @rdT_nil (And.intro hw (And.intro @tabDf13_r (And.intro @tabDf13_k (And.intro @tabDf13_q11 (And.intro @tabDf13_q12 (And.intro @tabDf13_q13 (@tabDf13_q14)))))))))))))))))
    refine WI.seq ?_
    refine WI.regB tabDf13_ok [1, 2] ?_
    refine oG ?_
    refine oS ?_
    refine oN ?_
    refine thenQ_normal ?_
    refine WI.seq ?_
    refine WI.seq ?_
    refine WI.regB tabDf13_ok [1, 2, 23] ?_
    refine oS ?_
    iterate 3 refine oG ?_
    refine oS ?_
    iterate 4 refine oG ?_
    refine oN ?_
    refine thenQ_normal ?_
    refine WI.cond (b := _) rfl rfl (fun h0 => ?_) (fun h0 => ?_)
    · try simp only [zB] at h0
      refine WI.seq ?_
      refine WI.regB tabDf13_ok [4] ?_
      refine oC ?_
      refine oS ?_
      refine oN ?_
      refine thenQ_normal ?_
      refine WI.ret ?_
      refine thenQ_ret ?_
      first | refine lfR ?_ | refine lfR2 ?_
      first | rfl | exact ⟨rfl, rfl⟩ | trivial -- leaf 0
    · try simp only [zB] at h0
      refine WI.skip ?_
      refine thenQ_normal ?_
      refine WI.seq ?_
      refine WI.regB tabDf13_ok [1, 2, 5, 6] ?_
      refine oG ?_
      refine oC ?_
      refine oS ?_
      iterate 2 refine oG ?_
      iterate 2 refine oS ?_
      refine oN ?_
      refine thenQ_normal ?_
      refine WI.seq ?_
      refine WI.regB tabDf13_ok [1, 2, 5, 6, 7, 8] ?_
      refine oG ?_
      refine oC ?_
      refine oS ?_
      iterate 2 refine oG ?_
      iterate 2 refine oS ?_
      refine oN ?_
      refine thenQ_normal ?_
      refine WI.seq ?_
      refine WI.regB tabDf13_ok [1, 2, 5, 6, 7, 8, 9, 10] ?_
      refine oS ?_
      refine oC ?_
      refine oS ?_
      iterate 4 refine oG ?_
      refine oS ?_
      refine oN ?_
      refine thenQ_normal ?_
      refine WI.seq ?_
      refine WI.regB tabDf13_ok [1, 2, 5, 6, 7, 8, 9, 10, 11, 12] ?_
      refine oS ?_
      refine oC ?_
      refine oS ?_
      iterate 4 refine oG ?_
      refine oS ?_
      refine oN ?_
      refine thenQ_normal ?_
      refine WI.seq ?_
      refine WI.regB tabDf13_ok [1, 2, 5, 6, 7, 8, 9, 10, 11, 12, 13, 14] ?_
      refine oG ?_
      refine oC ?_
      refine oS ?_
      iterate 2 refine oG ?_
      iterate 2 refine oS ?_
      refine oN ?_
      refine thenQ_normal ?_
      refine WI.seq ?_
      refine WI.seq ?_
      refine WI.regB tabDf13_ok [1, 11, 12, 13, 14, 70] ?_
      iterate 2 refine oS ?_
      refine oG ?_
      refine oS ?_
      iterate 4 refine oG ?_
      refine oS ?_
      iterate 12 refine oG ?_
      refine oN ?_
      refine thenQ_normal ?_
      refine WI.cond (b := _) rfl rfl (fun h1 => ?_) (fun h1 => ?_)
      · exfalso
        simp at h1
      · try simp only [zB] at h1
        refine WI.skip ?_
        refine thenQ_normal ?_
        refine WI.seq ?_
        refine WI.regB tabDf13_ok [4] ?_
        refine oS ?_
        refine oG ?_
        refine oS ?_
        iterate 4 refine oG ?_
        refine oS ?_
        iterate 3 refine oG ?_
        refine oS ?_
        iterate 8 refine oG ?_
        refine oS ?_
        refine oC ?_
        refine oG ?_
        refine oS ?_
        refine oN ?_
        refine thenQ_normal ?_
        refine WI.ret ?_
        first | refine lfR ?_ | refine lfR2 ?_
        first | rfl | exact ⟨rfl, rfl⟩ | trivial -- leaf 1
  · cases he
    have uu0 := trivial
    refine FCalls.pure (fcallsG (fz := true) G_ok (p := i5) rfl _ (Nat.le_of_ble_eq_true rfl) _ (fun C0 E0 => ?_)) rfl
    dsimp only [i5, argsφ]
    have uu := And.intro @putTyG.eq_1 (And.intro @putTyG.eq_2 (And.intro @putTyRG.eq_1 (And.intro @putTyRG.eq_2 (And.intro @rdTyG.eq_1 (And.intro @rdTyG.eq_2 (And.intro @awake43G.eq_1 (And.intro @awake43G.eq_2 (And.intro hp (And.intro hv (And.intro @rdT_nil (And.intro @putT_zero (And.intro @tabDf13_r (And.intro @tabDf13_k (And.intro @tabDf13_q11 (And.intro @tabDf13_q12 (And.intro @tabDf13_q13 (@tabDf13_q14)))))))))))))))))
    refine WI.seq ?_
    refine WI.regB tabDf13_ok [1, 2] ?_
    refine oG ?_
    refine oS ?_
    refine oN ?_
    refine thenQ_normal ?_
    refine WI.seq ?_
    refine WI.seq ?_
    refine WI.regB tabDf13_ok [1, 2, 23] ?_
    refine oS ?_
    iterate 3 refine oG ?_
    refine oS ?_
    iterate 4 refine oG ?_
    refine oN ?_
    refine thenQ_normal ?_
    refine WI.cond (b := _) rfl rfl (fun h0 => ?_) (fun h0 => ?_)
    · try simp only [zB] at h0
      refine WI.seq ?_
      refine WI.regB tabDf13_ok [4] ?_
      refine oC ?_
      refine oS ?_
      refine oN ?_
      refine thenQ_normal ?_
      refine WI.ret ?_
      refine thenQ_ret ?_
      first | refine lfR ?_ | refine lfR2 ?_
      first | rfl | exact ⟨rfl, rfl⟩ | trivial -- leaf 0
    · try simp only [zB] at h0
      refine WI.skip ?_
      refine thenQ_normal ?_
      refine WI.seq ?_
      refine WI.regB tabDf13_ok [1, 2, 5, 6] ?_
      refine oG ?_
      refine oC ?_
      refine oS ?_
      iterate 2 refine oG ?_
      iterate 2 refine oS ?_
      refine oN ?_
      refine thenQ_normal ?_
      refine WI.seq ?_
      refine WI.regB tabDf13_ok [1, 2, 5, 6, 7, 8] ?_
      refine oG ?_
      refine oC ?_
      refine oS ?_
      iterate 2 refine oG ?_
      iterate 2 refine oS ?_
      refine oN ?_
      refine thenQ_normal ?_
      refine WI.seq ?_
      refine WI.regB tabDf13_ok [1, 2, 5, 6, 7, 8, 9, 10] ?_
      refine oS ?_
      refine oC ?_
      refine oS ?_
      iterate 4 refine oG ?_
      refine oS ?_
      refine oN ?_
      refine thenQ_normal ?_
      refine WI.seq ?_
      refine WI.regB tabDf13_ok [1, 2, 5, 6, 7, 8, 9, 10, 11, 12] ?_
      refine oS ?_
      refine oC ?_
      refine oS ?_
      iterate 4 refine oG ?_
      refine oS ?_
      refine oN ?_
      refine thenQ_normal ?_
      refine WI.seq ?_
      refine WI.regB tabDf13_ok [1, 2, 5, 6, 7, 8, 9, 10, 11, 12, 13, 14] ?_
      refine oG ?_
      refine oC ?_
      refine oS ?_
      iterate 2 refine oG ?_
      iterate 2 refine oS ?_
      refine oN ?_
      refine thenQ_normal ?_
      refine WI.seq ?_
      refine WI.seq ?_
      refine WI.regB tabDf13_ok [1, 11, 12, 13, 14, 70] ?_
      iterate 2 refine oS ?_
      refine oG ?_
      refine oS ?_
      iterate 4 refine oG ?_
      refine oS ?_
      iterate 12 refine oG ?_
      refine oN ?_
      refine thenQ_normal ?_
      refine WI.cond (b := _) rfl rfl (fun h1 => ?_) (fun h1 => ?_)
      · exfalso
        simp at h1
      · try simp only [zB] at h1
        refine WI.skip ?_
        refine thenQ_normal ?_
        refine WI.seq ?_
        refine WI.regB tabDf13_ok [4] ?_
        refine oS ?_
        refine oG ?_
        refine oS ?_
        iterate 4 refine oG ?_
        refine oS ?_
        iterate 3 refine oG ?_
        refine oS ?_
        iterate 8 refine oG ?_
        refine oS ?_
        refine oC ?_
        refine oG ?_
        refine oS ?_
        refine oN ?_
        refine thenQ_normal ?_
        refine WI.ret ?_
        first | refine lfR ?_ | refine lfR2 ?_
        first | rfl | exact ⟨rfl, rfl⟩ | trivial -- leaf 1
end Go.Proofs.YtobflnngfochiaaDoor
end
section
/- Defs: DefsClasses. -/
set_option linter.unusedSimpArgs false
set_option linter.unusedVariables false
namespace Go.Proofs.YtobflnngfochiaaDoor
open Go.RowKit Go.Bo Go.Ab

def tabDf14 : Tabs := addQ (addQ (addQ (addQ (addQ (addQ (noTabs) 15 fewG) 16 putClG) 17 putClRG) 18 rdClG) 19 sameCA) 11 awake43G
theorem tabDf14_ok : SsOk Tryd.prog tabDf14 := addQ_ok (addQ_ok (addQ_ok (addQ_ok (addQ_ok (addQ_ok (noTabs_ok) (G_enters G_ok (p := i15) rfl) fewG_ok) (G_enters G_ok (p := i16) rfl) putClG_ok) (G_enters G_ok (p := i17) rfl) putClRG_ok) (G_enters G_ok (p := i18) rfl) rdClG_ok) (G_enters G_ok (p := i19) rfl) sameCA_ok) (G_enters G_ok (p := i11) rfl) awake43G_ok
theorem tabDf14_q15 (a : List D) : tabDf14.q 15 a = fewG a := rfl
theorem tabDf14_q16 (a : List D) : tabDf14.q 16 a = putClG a := rfl
theorem tabDf14_q17 (a : List D) : tabDf14.q 17 a = putClRG a := rfl
theorem tabDf14_q18 (a : List D) : tabDf14.q 18 a = rdClG a := rfl
theorem tabDf14_q19 (a : List D) : tabDf14.q 19 a = sameCA a := rfl
theorem tabDf14_q11 (a : List D) : tabDf14.q 11 a = awake43G a := rfl
theorem tabDf14_r (f : FuncId) (a : List D) (o : List Ob) : tabDf14.r f a o = none := rfl
theorem tabDf14_k (f : FuncId) (a : List D) (o : List Ob) : tabDf14.k f a o = none := rfl
theorem sepW_len : ∀ l : List (List UInt8), (sepW l).length ≤ 2 * l.length
  | [] => by simp [sepW]
  | [x] => by simp [sepW]
  | x :: y :: r => by have := sepW_len (y :: r); simp only [sepW, List.length_cons] at this ⊢; omega
theorem sepW_mem : ∀ l : List (List UInt8), ∀ x ∈ sepW l, x = [36] ∨ x ∈ l
  | [], x, h => by simp [sepW] at h
  | [y], x, h => by simp [sepW] at h; exact .inr (by simp [h])
  | y :: z :: r, x, h => by
    rw [sepW] at h
    rcases List.mem_cons.1 h with rfl | h
    · exact .inr (by simp)
    · rcases List.mem_cons.1 h with rfl | h
      · exact .inl rfl
      · rcases sepW_mem (z :: r) x h with h | h
        · exact .inl h
        · exact .inr (List.mem_cons_of_mem _ h)
theorem expW_shrt (w : List UInt8) (l : List (List UInt8)) (hw : w.length ≤ 10) (hl : l.length ≤ 150) (h : ∀ x ∈ l, x.length ≤ 80) : (expW w l).length ≤ 303 ∧ ∀ x ∈ expW w l, x.length ≤ 80 := by
  have h1 := sepW_len l
  unfold expW
  split
  · exact ⟨by simp, by simp⟩
  · refine ⟨by simp; omega, fun x hx => ?_⟩
    simp only [List.mem_cons, List.mem_append, List.not_mem_nil, or_false] at hx
    rcases hx with rfl | rfl | hx | rfl
    · omega
    · decide
    · rcases sepW_mem l x hx with rfl | hx
      · decide
      · exact h x hx
    · decide
theorem wordsF_shrt (n : List UInt8) (m y : List (List UInt8)) (hf : fewB n m y = true) : shrt (wordsF n m y) := by
  obtain ⟨h1, h2⟩ := of_decide_eq_true hf
  have hn := h1 n (by simp)
  obtain ⟨m1, m2⟩ := expW_shrt wMUST m (by decide) (by omega) (fun x hx => h1 x (by simp [hx]))
  obtain ⟨y1, y2⟩ := expW_shrt wMAY y (by decide) (by omega) (fun x hx => h1 x (by simp [hx]))
  unfold wordsF
  refine ⟨by simp; omega, fun x hx => ?_⟩
  simp only [List.mem_cons, List.mem_append, List.not_mem_nil, or_false] at hx
  rcases hx with rfl | rfl | rfl | (hx | hx) | rfl
  · decide
  · decide
  · simp; omega
  · have := m2 x hx; omega
  · have := y2 x hx; omega
  · decide
theorem few_shrt (n : List UInt8) (m y : List (List UInt8)) (hf : fewB n m y = true) : n.length ≤ 1000 ∧ shrt m ∧ shrt y := by
  obtain ⟨h1, h2⟩ := of_decide_eq_true hf
  exact ⟨by have := h1 n (by simp); omega, ⟨by omega, fun x hx => by have := h1 x (by simp [hx]); omega⟩, ⟨by omega, fun x hx => by have := h1 x (by simp [hx]); omega⟩⟩
theorem wt_bd : ∀ l : List (List UInt8), (∀ x ∈ l, x.length ≤ 80) → wt l ≤ l.length * 81
  | [], _ => by simp [wt]
  | x :: l, h => by
    have := wt_bd l (fun z hz => h z (List.mem_cons_of_mem _ hz))
    have h1 := h x List.mem_cons_self
    have e : wt (x :: l) = (x.length + 1) + wt l := rfl
    rw [List.length_cons]; omega
theorem txtC_len (n : List UInt8) (m y : List (List UInt8)) (hf : fewB n m y = true) : (txtC n m y).length ≤ 100000 := by
  obtain ⟨h1, h2⟩ := of_decide_eq_true hf
  have hn := h1 n (by simp)
  obtain ⟨m1, m2⟩ := expW_shrt wMUST m (by decide) (by omega) (fun x hx => h1 x (by simp [hx]))
  obtain ⟨y1, y2⟩ := expW_shrt wMAY y (by decide) (by omega) (fun x hx => h1 x (by simp [hx]))
  rw [← jn_wordsF]
  have hj := jn_le (wordsF n m y)
  have e : wordsF n m y = [[40], wNAME, 39 :: n ++ [39]] ++ ((expW wMUST m ++ expW wMAY y) ++ [[41]]) := by simp [wordsF]
  have a1 := wt_bd _ m2
  have a2 := wt_bd _ y2
  have e3 : wt [[41]] = 2 := rfl
  have e4 : wt [[40], wNAME, 39 :: n ++ [39]] = n.length + 10 := by simp [wt, wNAME]; omega
  rw [e, wt_app, wt_app, wt_app] at hj
  rw [e]
  omega
theorem putC_cases (n : List UInt8) (m y : List (List UInt8)) (hf : fewB n m y = true) : (∃ a, putC n m y = (a, 0) ∧ rdC a = ((n, m, y), 0) ∧ a.length ≤ 100000 ∧ shrt (spl 32 a)) ∨ ∃ e, putC n m y = ([], e) ∧ (e = 3 ∨ e = 13) := by
  unfold putC
  by_cases hn : typB n = true ∧ m.all typB = true ∧ y.all typB = true
  · rw [if_pos hn]
    by_cases hr : m.length ≤ 64 ∧ y.length ≤ 64
    · rw [if_pos hr, txtC_eq]
      refine .inl ⟨_, rfl, rdC_put n m y hn.1 hn.2.1 hn.2.2 hr.1 hr.2, txtC_len n m y hf, ?_⟩
      rw [← jn_wordsF, spl_jn _ (by simp [wordsF]) (wordsF_no n m y hn.1 hn.2.1 hn.2.2)]
      exact wordsF_shrt n m y hf
    · rw [if_neg hr]; exact .inr ⟨_, rfl, .inl rfl⟩
  · rw [if_neg hn]; exact .inr ⟨_, rfl, .inr rfl⟩
theorem rdC_shrt (s : List UInt8) (hs : s.length ≤ 300) : (rdC s).1.1.length ≤ 1000 ∧ shrt (rdC s).1.2.1 ∧ shrt (rdC s).1.2.2 := by
  unfold rdC
  split
  · rename_i hc
    have h0 := spl_shrt s (by omega)
    have h1 := bgn_shrt s h0
    have h2 := tkW_sub wMUST (bgn s).2.1
    have h3 := shrt_sub h1 h2.1 h2.2.2.1
    have h4 := shrt_sub h1 h2.2.1 h2.2.2.2
    have h5 := tkW_sub wMAY (tkW wMUST (bgn s).2.1).2.1
    refine ⟨?_, h3, shrt_sub h4 h5.1 h5.2.2.1⟩
    obtain ⟨n, l, b1, b2, b3⟩ := bgnW_ok hc.1.1.1
    have e : (bgn s).1 = n := by unfold bgn; rw [b1]
    show (bgn s).1.length ≤ 1000
    rw [e]; have := (typ_chr b3).2.1; omega
  · exact ⟨by simp, shrt_nil, shrt_nil⟩
theorem putC_zero : putC [] [] [] = ([], 13) := by kernel_rfl
set_option maxHeartbeats 4000000 in
theorem classes_w (n : List UInt8) (m y : List (List UInt8)) (s : List UInt8) (hm : m.length ≤ 1000000000) (hy : y.length ≤ 1000000000) : PCalls Tryd.prog 6 [.agg [.x (.str n), .x (.sl (rows rStr m)), .x (.sl (rows rStr y))], .x (.str s)] (.x (.bool true)) := by
  have hmy : decide (m.length ≤ 1000000000 ∧ y.length ≤ 1000000000) = true := decide_eq_true ⟨hm, hy⟩
  by_cases hg : fewB n m y = true ∧ s.length ≤ 300
  · obtain ⟨hf, hs⟩ := hg
    have hfs := decide_eq_true (few_shrt n m y hf)
    have hss := decide_eq_true (show s.length ≤ 100000 ∧ shrt (spl 32 s) from ⟨by omega, spl_shrt s (by omega)⟩)
    have hn0 : decide (([] : List UInt8).length ≤ 100000 ∧ shrt (spl 32 [])) = true := by kernel_rfl
    have hsv : ∃ v i, rdC s = (v, i) ∧ (v.1.length ≤ 1000 ∧ shrt v.2.1 ∧ shrt v.2.2) ∧ ((i = 0 ∧ putC v.1 v.2.1 v.2.2 = (s, 0)) ∨ (i = 5 ∧ v = ([], [], []))) := by
      have hb := rdC_shrt s hs
      rcases rdC_ok s with h | ⟨n', m', y', h1, h2⟩
      · exact ⟨_, _, h, by rw [h] at hb; exact hb, .inr ⟨rfl, rfl⟩⟩
      · exact ⟨_, _, h1, by rw [h1] at hb; exact hb, .inl ⟨rfl, h2⟩⟩
    obtain ⟨⟨n', m', y'⟩, i, hv, hvl, hi⟩ := hsv
    simp only at hvl hi
    have hvd := decide_eq_true hvl
    rcases putC_cases n m y hf with ⟨a, hp, ha, hal, has⟩ | ⟨e, hp, he⟩ <;> rcases hi with ⟨rfl, hw⟩ | ⟨rfl, hz⟩
    · have had := decide_eq_true (And.intro hal has)
      refine FCalls.pure (fcallsG (fz := true) G_ok (p := i6) rfl _ (Nat.le_of_ble_eq_true rfl) _ (fun C0 E0 => ?_)) rfl
      dsimp only [i6, argsφ]
      have uu := And.intro @fewG.eq_1 (And.intro @fewG.eq_2 (And.intro @putClG.eq_1 (And.intro @putClG.eq_2 (And.intro @putClRG.eq_1 (And.intro @putClRG.eq_2 (And.intro @rdClG.eq_1 (And.intro @rdClG.eq_2 (And.intro @sameCG.eq_1 (And.intro @sameCG.eq_2 (And.intro @sameCA.eq_1 (And.intro @nnA.eq_1 (And.intro @nnA.eq_2 (And.intro @D.nn.eq_1 (And.intro @D.nn.eq_2 (And.intro @awake43G.eq_1 (And.intro @awake43G.eq_2 (And.intro @un_s (And.intro @rows_0 (And.intro hmy (And.intro hf (And.intro hfs (And.intro hss (And.intro hv (And.intro hvd (And.intro hp (And.intro ha (And.intro had (And.intro hw (And.intro @tabDf14_r (And.intro @tabDf14_k (And.intro @tabDf14_q11 (And.intro @tabDf14_q15 (And.intro @tabDf14_q16 (And.intro @tabDf14_q17 (And.intro @tabDf14_q18 (@tabDf14_q19))))))))))))))))))))))))))))))))))))
      refine WI.seq ?_
      refine WI.regB tabDf14_ok [1, 2] ?_
      refine oG ?_
      refine oS ?_
      refine oN ?_
      refine thenQ_normal ?_
      refine WI.seq ?_
      refine WI.seq ?_
      refine WI.regB tabDf14_ok [1, 2, 22] ?_
      refine oG ?_
      refine oC ?_
      refine oG ?_
      refine oS ?_
      iterate 4 refine oG ?_
      refine oN ?_
      refine thenQ_normal ?_
      refine WI.cond (b := _) rfl rfl (fun h0 => ?_) (fun h0 => ?_)
      · exfalso
        simp at h0; omega
      · try simp only [zB] at h0
        refine WI.skip ?_
        refine thenQ_normal ?_
        refine WI.seq ?_
        refine WI.regB tabDf14_ok [1, 2, 5, 6] ?_
        refine oG ?_
        refine oC ?_
        refine oS ?_
        iterate 2 refine oG ?_
        iterate 2 refine oS ?_
        refine oN ?_
        refine thenQ_normal ?_
        refine WI.seq ?_
        refine WI.regB tabDf14_ok [1, 2, 5, 6, 7, 8] ?_
        refine oG ?_
        refine oC ?_
        refine oS ?_
        iterate 2 refine oG ?_
        iterate 2 refine oS ?_
        refine oN ?_
        refine thenQ_normal ?_
        refine WI.seq ?_
        refine WI.regB tabDf14_ok [1, 2, 5, 6, 7, 8, 9, 10] ?_
        refine oS ?_
        refine oC ?_
        refine oS ?_
        iterate 4 refine oG ?_
        refine oS ?_
        refine oN ?_
        refine thenQ_normal ?_
        refine WI.seq ?_
        refine WI.regB tabDf14_ok [1, 2, 5, 6, 7, 8, 9, 10, 11, 12] ?_
        refine oS ?_
        refine oC ?_
        refine oS ?_
        iterate 4 refine oG ?_
        refine oS ?_
        refine oN ?_
        refine thenQ_normal ?_
        refine WI.seq ?_
        refine WI.regB tabDf14_ok [1, 2, 5, 6, 7, 8, 9, 10, 11, 12, 13, 14] ?_
        refine oG ?_
        refine oC ?_
        refine oS ?_
        iterate 2 refine oG ?_
        iterate 2 refine oS ?_
        refine oN ?_
        refine thenQ_normal ?_
        refine WI.seq ?_
        refine WI.seq ?_
        refine WI.regB tabDf14_ok [1, 11, 12, 13, 14, 70] ?_
        iterate 2 refine oS ?_
        refine oG ?_
        refine oS ?_
        iterate 4 refine oG ?_
        refine oS ?_
        iterate 8 refine oG ?_
        refine oC ?_
        iterate 4 refine oG ?_
        refine oN ?_
        refine thenQ_normal ?_
        refine WI.cond (b := _) rfl rfl (fun h1 => ?_) (fun h1 => ?_)
        · exfalso
          simp at h1
        · try simp only [zB] at h1
          refine WI.skip ?_
          refine thenQ_normal ?_
          refine WI.seq ?_
          refine WI.regB tabDf14_ok [4] ?_
          refine oS ?_
          refine oG ?_
          refine oS ?_
          iterate 4 refine oG ?_
          refine oS ?_
          iterate 3 refine oG ?_
          refine oS ?_
          iterate 5 refine oG ?_
          refine oC ?_
          iterate 2 refine oG ?_
          refine oS ?_
          refine oC ?_
          refine oG ?_
          refine oS ?_
          refine oN ?_
          refine thenQ_normal ?_
          refine WI.ret ?_
          first | refine lfR ?_ | refine lfR2 ?_
          first | rfl | exact ⟨rfl, rfl⟩ | trivial -- leaf 0
    · cases hz
      have had := decide_eq_true (And.intro hal has)
      refine FCalls.pure (fcallsG (fz := true) G_ok (p := i6) rfl _ (Nat.le_of_ble_eq_true rfl) _ (fun C0 E0 => ?_)) rfl
      dsimp only [i6, argsφ]
      have uu := And.intro @fewG.eq_1 (And.intro @fewG.eq_2 (And.intro @putClG.eq_1 (And.intro @putClG.eq_2 (And.intro @putClRG.eq_1 (And.intro @putClRG.eq_2 (And.intro @rdClG.eq_1 (And.intro @rdClG.eq_2 (And.intro @sameCG.eq_1 (And.intro @sameCG.eq_2 (And.intro @sameCA.eq_1 (And.intro @nnA.eq_1 (And.intro @nnA.eq_2 (And.intro @D.nn.eq_1 (And.intro @D.nn.eq_2 (And.intro @awake43G.eq_1 (And.intro @awake43G.eq_2 (And.intro @un_s (And.intro @rows_0 (And.intro hmy (And.intro hf (And.intro hfs (And.intro hss (And.intro hv (And.intro hvd (And.intro hp (And.intro ha (And.intro had (And.intro @putC_zero (And.intro @tabDf14_r (And.intro @tabDf14_k (And.intro @tabDf14_q11 (And.intro @tabDf14_q15 (And.intro @tabDf14_q16 (And.intro @tabDf14_q17 (And.intro @tabDf14_q18 (@tabDf14_q19))))))))))))))))))))))))))))))))))))
      refine WI.seq ?_
      refine WI.regB tabDf14_ok [1, 2] ?_
      refine oG ?_
      refine oS ?_
      refine oN ?_
      refine thenQ_normal ?_
      refine WI.seq ?_
      refine WI.seq ?_
      refine WI.regB tabDf14_ok [1, 2, 22] ?_
      refine oG ?_
      refine oC ?_
      refine oG ?_
      refine oS ?_
      iterate 4 refine oG ?_
      refine oN ?_
      refine thenQ_normal ?_
      refine WI.cond (b := _) rfl rfl (fun h0 => ?_) (fun h0 => ?_)
      · exfalso
        simp at h0; omega
      · try simp only [zB] at h0
        refine WI.skip ?_
        refine thenQ_normal ?_
        refine WI.seq ?_
        refine WI.regB tabDf14_ok [1, 2, 5, 6] ?_
        refine oG ?_
        refine oC ?_
        refine oS ?_
        iterate 2 refine oG ?_
        iterate 2 refine oS ?_
        refine oN ?_
        refine thenQ_normal ?_
        refine WI.seq ?_
        refine WI.regB tabDf14_ok [1, 2, 5, 6, 7, 8] ?_
        refine oG ?_
        refine oC ?_
        refine oS ?_
        iterate 2 refine oG ?_
        iterate 2 refine oS ?_
        refine oN ?_
        refine thenQ_normal ?_
        refine WI.seq ?_
        refine WI.regB tabDf14_ok [1, 2, 5, 6, 7, 8, 9, 10] ?_
        refine oS ?_
        refine oC ?_
        refine oS ?_
        iterate 4 refine oG ?_
        refine oS ?_
        refine oN ?_
        refine thenQ_normal ?_
        refine WI.seq ?_
        refine WI.regB tabDf14_ok [1, 2, 5, 6, 7, 8, 9, 10, 11, 12] ?_
        refine oS ?_
        refine oC ?_
        refine oS ?_
        iterate 4 refine oG ?_
        refine oS ?_
        refine oN ?_
        refine thenQ_normal ?_
        refine WI.seq ?_
        refine WI.regB tabDf14_ok [1, 2, 5, 6, 7, 8, 9, 10, 11, 12, 13, 14] ?_
        refine oG ?_
        refine oC ?_
        refine oS ?_
        iterate 2 refine oG ?_
        iterate 2 refine oS ?_
        refine oN ?_
        refine thenQ_normal ?_
        refine WI.seq ?_
        refine WI.seq ?_
        refine WI.regB tabDf14_ok [1, 11, 12, 13, 14, 70] ?_
        iterate 2 refine oS ?_
        refine oG ?_
        refine oS ?_
        iterate 4 refine oG ?_
        refine oS ?_
        iterate 8 refine oG ?_
        refine oC ?_
        iterate 4 refine oG ?_
        refine oN ?_
        refine thenQ_normal ?_
        refine WI.cond (b := _) rfl rfl (fun h1 => ?_) (fun h1 => ?_)
        · exfalso
          simp at h1
        · try simp only [zB] at h1
          refine WI.skip ?_
          refine thenQ_normal ?_
          refine WI.seq ?_
          refine WI.regB tabDf14_ok [4] ?_
          refine oS ?_
          refine oG ?_
          refine oS ?_
          iterate 4 refine oG ?_
          refine oS ?_
          iterate 3 refine oG ?_
          refine oS ?_
          iterate 5 refine oG ?_
          refine oC ?_
          iterate 2 refine oG ?_
          refine oS ?_
          refine oC ?_
          refine oG ?_
          refine oS ?_
          refine oN ?_
          refine thenQ_normal ?_
          refine WI.ret ?_
          first | refine lfR ?_ | refine lfR2 ?_
          first | rfl | exact ⟨rfl, rfl⟩ | trivial -- leaf 0
    · rcases he with rfl | rfl
      all_goals
        refine FCalls.pure (fcallsG (fz := true) G_ok (p := i6) rfl _ (Nat.le_of_ble_eq_true rfl) _ (fun C0 E0 => ?_)) rfl
        dsimp only [i6, argsφ]
        have uu := And.intro @fewG.eq_1 (And.intro @fewG.eq_2 (And.intro @putClG.eq_1 (And.intro @putClG.eq_2 (And.intro @putClRG.eq_1 (And.intro @putClRG.eq_2 (And.intro @rdClG.eq_1 (And.intro @rdClG.eq_2 (And.intro @sameCG.eq_1 (And.intro @sameCG.eq_2 (And.intro @sameCA.eq_1 (And.intro @nnA.eq_1 (And.intro @nnA.eq_2 (And.intro @D.nn.eq_1 (And.intro @D.nn.eq_2 (And.intro @awake43G.eq_1 (And.intro @awake43G.eq_2 (And.intro @un_s (And.intro @rows_0 (And.intro hmy (And.intro hf (And.intro hfs (And.intro hss (And.intro hv (And.intro hvd (And.intro hp (And.intro @rdC_nil (And.intro hn0 (And.intro hw (And.intro @tabDf14_r (And.intro @tabDf14_k (And.intro @tabDf14_q11 (And.intro @tabDf14_q15 (And.intro @tabDf14_q16 (And.intro @tabDf14_q17 (And.intro @tabDf14_q18 (@tabDf14_q19))))))))))))))))))))))))))))))))))))
        refine WI.seq ?_
        refine WI.regB tabDf14_ok [1, 2] ?_
        refine oG ?_
        refine oS ?_
        refine oN ?_
        refine thenQ_normal ?_
        refine WI.seq ?_
        refine WI.seq ?_
        refine WI.regB tabDf14_ok [1, 2, 22] ?_
        refine oG ?_
        refine oC ?_
        refine oG ?_
        refine oS ?_
        iterate 4 refine oG ?_
        refine oN ?_
        refine thenQ_normal ?_
        refine WI.cond (b := _) rfl rfl (fun h0 => ?_) (fun h0 => ?_)
        · exfalso
          simp at h0; omega
        · try simp only [zB] at h0
          refine WI.skip ?_
          refine thenQ_normal ?_
          refine WI.seq ?_
          refine WI.regB tabDf14_ok [1, 2, 5, 6] ?_
          refine oG ?_
          refine oC ?_
          refine oS ?_
          iterate 2 refine oG ?_
          iterate 2 refine oS ?_
          refine oN ?_
          refine thenQ_normal ?_
          refine WI.seq ?_
          refine WI.regB tabDf14_ok [1, 2, 5, 6, 7, 8] ?_
          refine oG ?_
          refine oC ?_
          refine oS ?_
          iterate 2 refine oG ?_
          iterate 2 refine oS ?_
          refine oN ?_
          refine thenQ_normal ?_
          refine WI.seq ?_
          refine WI.regB tabDf14_ok [1, 2, 5, 6, 7, 8, 9, 10] ?_
          refine oS ?_
          refine oC ?_
          refine oS ?_
          iterate 4 refine oG ?_
          refine oS ?_
          refine oN ?_
          refine thenQ_normal ?_
          refine WI.seq ?_
          refine WI.regB tabDf14_ok [1, 2, 5, 6, 7, 8, 9, 10, 11, 12] ?_
          refine oS ?_
          refine oC ?_
          refine oS ?_
          iterate 4 refine oG ?_
          refine oS ?_
          refine oN ?_
          refine thenQ_normal ?_
          refine WI.seq ?_
          refine WI.regB tabDf14_ok [1, 2, 5, 6, 7, 8, 9, 10, 11, 12, 13, 14] ?_
          refine oG ?_
          refine oC ?_
          refine oS ?_
          iterate 2 refine oG ?_
          iterate 2 refine oS ?_
          refine oN ?_
          refine thenQ_normal ?_
          refine WI.seq ?_
          refine WI.seq ?_
          refine WI.regB tabDf14_ok [1, 11, 12, 13, 14, 70] ?_
          iterate 2 refine oS ?_
          refine oG ?_
          refine oS ?_
          iterate 4 refine oG ?_
          refine oS ?_
          iterate 8 refine oG ?_
          refine oC ?_
          iterate 4 refine oG ?_
          refine oN ?_
          refine thenQ_normal ?_
          refine WI.cond (b := _) rfl rfl (fun h1 => ?_) (fun h1 => ?_)
          · exfalso
            simp at h1
          · try simp only [zB] at h1
            refine WI.skip ?_
            refine thenQ_normal ?_
            refine WI.seq ?_
            refine WI.regB tabDf14_ok [4] ?_
            refine oS ?_
            refine oG ?_
            refine oS ?_
            iterate 4 refine oG ?_
            refine oS ?_
            iterate 3 refine oG ?_
            refine oS ?_
            iterate 5 refine oG ?_
            refine oC ?_
            iterate 2 refine oG ?_
            refine oS ?_
            refine oC ?_
            refine oG ?_
            refine oS ?_
            refine oN ?_
            refine thenQ_normal ?_
            refine WI.ret ?_
            first | refine lfR ?_ | refine lfR2 ?_
            first | rfl | exact ⟨rfl, rfl⟩ | trivial -- leaf 0
    · cases hz
      rcases he with rfl | rfl
      all_goals
        refine FCalls.pure (fcallsG (fz := true) G_ok (p := i6) rfl _ (Nat.le_of_ble_eq_true rfl) _ (fun C0 E0 => ?_)) rfl
        dsimp only [i6, argsφ]
        have uu := And.intro @fewG.eq_1 (And.intro @fewG.eq_2 (And.intro @putClG.eq_1 (And.intro @putClG.eq_2 (And.intro @putClRG.eq_1 (And.intro @putClRG.eq_2 (And.intro @rdClG.eq_1 (And.intro @rdClG.eq_2 (And.intro @sameCG.eq_1 (And.intro @sameCG.eq_2 (And.intro @sameCA.eq_1 (And.intro @nnA.eq_1 (And.intro @nnA.eq_2 (And.intro @D.nn.eq_1 (And.intro @D.nn.eq_2 (And.intro @awake43G.eq_1 (And.intro @awake43G.eq_2 (And.intro @un_s (And.intro @rows_0 (And.intro hmy (And.intro hf (And.intro hfs (And.intro hss (And.intro hv (And.intro hvd (And.intro hp (And.intro @rdC_nil (And.intro hn0 (And.intro @putC_zero (And.intro @tabDf14_r (And.intro @tabDf14_k (And.intro @tabDf14_q11 (And.intro @tabDf14_q15 (And.intro @tabDf14_q16 (And.intro @tabDf14_q17 (And.intro @tabDf14_q18 (@tabDf14_q19))))))))))))))))))))))))))))))))))))
        refine WI.seq ?_
        refine WI.regB tabDf14_ok [1, 2] ?_
        refine oG ?_
        refine oS ?_
        refine oN ?_
        refine thenQ_normal ?_
        refine WI.seq ?_
        refine WI.seq ?_
        refine WI.regB tabDf14_ok [1, 2, 22] ?_
        refine oG ?_
        refine oC ?_
        refine oG ?_
        refine oS ?_
        iterate 4 refine oG ?_
        refine oN ?_
        refine thenQ_normal ?_
        refine WI.cond (b := _) rfl rfl (fun h0 => ?_) (fun h0 => ?_)
        · exfalso
          simp at h0; omega
        · try simp only [zB] at h0
          refine WI.skip ?_
          refine thenQ_normal ?_
          refine WI.seq ?_
          refine WI.regB tabDf14_ok [1, 2, 5, 6] ?_
          refine oG ?_
          refine oC ?_
          refine oS ?_
          iterate 2 refine oG ?_
          iterate 2 refine oS ?_
          refine oN ?_
          refine thenQ_normal ?_
          refine WI.seq ?_
          refine WI.regB tabDf14_ok [1, 2, 5, 6, 7, 8] ?_
          refine oG ?_
          refine oC ?_
          refine oS ?_
          iterate 2 refine oG ?_
          iterate 2 refine oS ?_
          refine oN ?_
          refine thenQ_normal ?_
          refine WI.seq ?_
          refine WI.regB tabDf14_ok [1, 2, 5, 6, 7, 8, 9, 10] ?_
          refine oS ?_
          refine oC ?_
          refine oS ?_
          iterate 4 refine oG ?_
          refine oS ?_
          refine oN ?_
          refine thenQ_normal ?_
          refine WI.seq ?_
          refine WI.regB tabDf14_ok [1, 2, 5, 6, 7, 8, 9, 10, 11, 12] ?_
          refine oS ?_
          refine oC ?_
          refine oS ?_
          iterate 4 refine oG ?_
          refine oS ?_
          refine oN ?_
          refine thenQ_normal ?_
          refine WI.seq ?_
          refine WI.regB tabDf14_ok [1, 2, 5, 6, 7, 8, 9, 10, 11, 12, 13, 14] ?_
          refine oG ?_
          refine oC ?_
          refine oS ?_
          iterate 2 refine oG ?_
          iterate 2 refine oS ?_
          refine oN ?_
          refine thenQ_normal ?_
          refine WI.seq ?_
          refine WI.seq ?_
          refine WI.regB tabDf14_ok [1, 11, 12, 13, 14, 70] ?_
          iterate 2 refine oS ?_
          refine oG ?_
          refine oS ?_
          iterate 4 refine oG ?_
          refine oS ?_
          iterate 8 refine oG ?_
          refine oC ?_
          iterate 4 refine oG ?_
          refine oN ?_
          refine thenQ_normal ?_
          refine WI.cond (b := _) rfl rfl (fun h1 => ?_) (fun h1 => ?_)
          · exfalso
            simp at h1
          · try simp only [zB] at h1
            refine WI.skip ?_
            refine thenQ_normal ?_
            refine WI.seq ?_
            refine WI.regB tabDf14_ok [4] ?_
            refine oS ?_
            refine oG ?_
            refine oS ?_
            iterate 4 refine oG ?_
            refine oS ?_
            iterate 3 refine oG ?_
            refine oS ?_
            iterate 5 refine oG ?_
            refine oC ?_
            iterate 2 refine oG ?_
            refine oS ?_
            refine oC ?_
            refine oG ?_
            refine oS ?_
            refine oN ?_
            refine thenQ_normal ?_
            refine WI.ret ?_
            first | refine lfR ?_ | refine lfR2 ?_
            first | rfl | exact ⟨rfl, rfl⟩ | trivial -- leaf 0
  · have uu0 := hg
    refine FCalls.pure (fcallsG (fz := true) G_ok (p := i6) rfl _ (Nat.le_of_ble_eq_true rfl) _ (fun C0 E0 => ?_)) rfl
    dsimp only [i6, argsφ]
    have uu := And.intro @fewG.eq_1 (And.intro @fewG.eq_2 (And.intro @awake43G.eq_1 (And.intro @awake43G.eq_2 (And.intro @un_s (And.intro hmy (And.intro @tabDf14_r (And.intro @tabDf14_k (And.intro @tabDf14_q11 (And.intro @tabDf14_q15 (And.intro @tabDf14_q16 (And.intro @tabDf14_q17 (And.intro @tabDf14_q18 (And.intro @tabDf14_q19 (And.intro @putClG.eq_1 (And.intro @putClG.eq_2 (And.intro @putClRG.eq_1 (And.intro @putClRG.eq_2 (And.intro @rdClG.eq_1 (And.intro @rdClG.eq_2 (@sameCA.eq_1))))))))))))))))))))
    refine WI.seq ?_
    refine WI.regB tabDf14_ok [1, 2] ?_
    refine oG ?_
    refine oS ?_
    refine oN ?_
    refine thenQ_normal ?_
    refine WI.seq ?_
    refine WI.seq ?_
    refine WI.regB tabDf14_ok [1, 2, 22] ?_
    refine oG ?_
    refine oC ?_
    refine oG ?_
    refine oS ?_
    iterate 4 refine oG ?_
    refine oN ?_
    refine thenQ_normal ?_
    refine WI.cond (b := _) rfl rfl (fun h0 => ?_) (fun h0 => ?_)
    · try simp only [zB] at h0
      refine WI.seq ?_
      refine WI.regB tabDf14_ok [4] ?_
      refine oC ?_
      refine oS ?_
      refine oN ?_
      refine thenQ_normal ?_
      refine WI.ret ?_
      refine thenQ_ret ?_
      first | refine lfR ?_ | refine lfR2 ?_
      first | rfl | exact ⟨rfl, rfl⟩ | trivial -- leaf 0
    · exfalso
      simp at h0; exact hg ⟨h0.1, by omega⟩
end Go.Proofs.YtobflnngfochiaaDoor
end
