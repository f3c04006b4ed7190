/- Tree: the laws. -/
import Derived.Test.YtogmbfaijmhamaaTr5
set_option linter.unusedSimpArgs false
set_option linter.unusedVariables false
namespace Go.Proofs.Ytogmbfaijmhamaa
open Go.RowKit Go.Bo Go.Ab

def awake03G : List D → Option (Bool × D)
  | [] => some (true, .x (.bool true))
  | _ => none
theorem awake03G_ok : ∀ args r, awake03G args = some (true, r) → PCalls Try.prog 32 args r := by
  intro args r h
  unfold awake03G at h
  split at h
  · simp only [Option.some.injEq, Prod.mk.injEq, Bool.and_eq_true, decide_eq_true_eq, true_and] at h
    obtain rfl := h
    exact awake03_c 
  · cases h
def tabTr11 : Tabs := addQ (addQ (addQ (addT (addQ (addT (addQ (addT (addQ (addQ (addQ (addT (addQ (addT (addQ (noTabs) 37 (viaNN tseqG)) 37 (frzT (viaNN tseqG))) 39 (viaNN tpartsG)) 39 (frzT (viaNN tpartsG))) 33 tCheckG) 35 depthG) 41 (viaNN textsG)) 41 (frzT (viaNN textsG))) 38 (viaNN rseqG)) 38 (frzT (viaNN rseqG))) 40 (viaNN rpartsG)) 40 (frzT (viaNN rpartsG))) 34 rcheckG) 36 depthRG) 32 awake03G
theorem tabTr11_ok : SsOk Try.prog tabTr11 := addQ_ok (addQ_ok (addQ_ok (addT_ok (addQ_ok (addT_ok (addQ_ok (addT_ok (addQ_ok (addQ_ok (addQ_ok (addT_ok (addQ_ok (addT_ok (addQ_ok (noTabs_ok) (G_enters G_ok (p := i37) rfl) (viaNN_ok tseqG_ok)) (G_enters G_ok (p := i37) rfl) (frzT_ok (viaNN_ok tseqG_ok))) (G_enters G_ok (p := i39) rfl) (viaNN_ok tpartsG_ok)) (G_enters G_ok (p := i39) rfl) (frzT_ok (viaNN_ok tpartsG_ok))) (G_enters G_ok (p := i33) rfl) tCheckG_ok) (G_enters G_ok (p := i35) rfl) depthG_ok) (G_enters G_ok (p := i41) rfl) (viaNN_ok textsG_ok)) (G_enters G_ok (p := i41) rfl) (frzT_ok (viaNN_ok textsG_ok))) (G_enters G_ok (p := i38) rfl) (viaNN_ok rseqG_ok)) (G_enters G_ok (p := i38) rfl) (frzT_ok (viaNN_ok rseqG_ok))) (G_enters G_ok (p := i40) rfl) (viaNN_ok rpartsG_ok)) (G_enters G_ok (p := i40) rfl) (frzT_ok (viaNN_ok rpartsG_ok))) (G_enters G_ok (p := i34) rfl) rcheckG_ok) (G_enters G_ok (p := i36) rfl) depthRG_ok) (G_enters G_ok (p := i32) rfl) awake03G_ok
theorem tabTr11_q37 (a : List D) : tabTr11.q 37 a = viaNN tseqG a := rfl
theorem tabTr11_t37 (a : List D) (o : List Ob) : tabTr11.t 37 a o = liftT (frzT (viaNN tseqG)) a o := rfl
theorem tabTr11_q39 (a : List D) : tabTr11.q 39 a = viaNN tpartsG a := rfl
theorem tabTr11_t39 (a : List D) (o : List Ob) : tabTr11.t 39 a o = liftT (frzT (viaNN tpartsG)) a o := rfl
theorem tabTr11_q33 (a : List D) : tabTr11.q 33 a = tCheckG a := rfl
theorem tabTr11_q35 (a : List D) : tabTr11.q 35 a = depthG a := rfl
theorem tabTr11_q41 (a : List D) : tabTr11.q 41 a = viaNN textsG a := rfl
theorem tabTr11_t41 (a : List D) (o : List Ob) : tabTr11.t 41 a o = liftT (frzT (viaNN textsG)) a o := rfl
theorem tabTr11_q38 (a : List D) : tabTr11.q 38 a = viaNN rseqG a := rfl
theorem tabTr11_t38 (a : List D) (o : List Ob) : tabTr11.t 38 a o = liftT (frzT (viaNN rseqG)) a o := rfl
theorem tabTr11_q40 (a : List D) : tabTr11.q 40 a = viaNN rpartsG a := rfl
theorem tabTr11_t40 (a : List D) (o : List Ob) : tabTr11.t 40 a o = liftT (frzT (viaNN rpartsG)) a o := rfl
theorem tabTr11_q34 (a : List D) : tabTr11.q 34 a = rcheckG a := rfl
theorem tabTr11_q36 (a : List D) : tabTr11.q 36 a = depthRG a := rfl
theorem tabTr11_q32 (a : List D) : tabTr11.q 32 a = awake03G a := rfl
theorem tabTr11_r (f : FuncId) (a : List D) (o : List Ob) : tabTr11.r f a o = none := rfl
theorem tabTr11_k (f : FuncId) (a : List D) (o : List Ob) : tabTr11.k f a o = none := rfl
theorem treeChecks_c (s : List UInt8) (m : Int) : PCalls Try.prog 10 [.x (.str s), .x (.int .i64 m)] (.x (.bool true)) := by
  refine FCalls.pure (fcallsG (fz := true) G_ok (p := i10) rfl _ (Nat.le_of_ble_eq_true rfl) _ (fun C0 E0 => ?_)) rfl
  dsimp only [i10, argsφ]
  have uu := And.intro @tCheckG.eq_1 (And.intro @tCheckG.eq_2 (And.intro @depthG.eq_1 (And.intro @depthG.eq_2 (And.intro @rcheckG.eq_1 (And.intro @rcheckG.eq_2 (And.intro @depthRG.eq_1 (And.intro @depthRG.eq_2 (And.intro @awake03G.eq_1 (And.intro @awake03G.eq_2 (And.intro @tabTr11_r (And.intro @tabTr11_k (And.intro @tabTr11_q32 (And.intro @tabTr11_q33 (And.intro @tabTr11_q34 (And.intro @tabTr11_q35 (And.intro @tabTr11_q36 (And.intro @tabTr11_q37 (And.intro @tabTr11_q38 (And.intro @tabTr11_q39 (And.intro @tabTr11_q40 (And.intro @tabTr11_q41 (And.intro @tabTr11_t37 (And.intro @tabTr11_t39 (And.intro @tabTr11_t41 (And.intro @tabTr11_t38 (And.intro @tabTr11_t40 (And.intro @frzT.eq_1 (And.intro @rpartsG.eq_1 (And.intro @rpartsG.eq_2 (And.intro @rseqG.eq_1 (And.intro @rseqG.eq_2 (And.intro @textsG.eq_1 (And.intro @textsG.eq_2 (And.intro @tpartsG.eq_1 (And.intro @tpartsG.eq_2 (And.intro @tseqG.eq_1 (@tseqG.eq_2)))))))))))))))))))))))))))))))))))))
  refine WI.seq ?_
  refine WI.regB tabTr11_ok [0, 1] ?_
  refine oS ?_
  refine oN ?_
  refine thenQ_normal ?_
  refine WI.seq ?_
  refine WI.seq ?_
  refine WI.regB tabTr11_ok [0, 1, 7] ?_
  refine oS ?_
  iterate 2 refine oG ?_
  refine oN ?_
  refine thenQ_normal ?_
  refine WI.cond (b := _) rfl rfl (fun h0 => ?_) (fun h0 => ?_)
  · try simp only [zB] at h0
    refine WI.seq ?_
    refine WI.regB tabTr11_ok [4] ?_
    refine oC ?_
    refine oS ?_
    refine oN ?_
    refine thenQ_normal ?_
    refine WI.ret ?_
    refine thenQ_ret ?_
    first | refine lfR ?_ | refine lfR2 ?_
    first | rfl | exact ⟨rfl, rfl⟩ | trivial -- leaf 0
  · try simp only [zB] at h0
    refine WI.skip ?_
    refine thenQ_normal ?_
    refine WI.seq ?_
    refine WI.regB tabTr11_ok [4] ?_
    iterate 2 refine oS ?_
    refine oC ?_
    iterate 2 refine oS ?_
    refine oC ?_
    refine oG ?_
    refine oS ?_
    refine oG ?_
    refine oC ?_
    refine oG ?_
    refine oC ?_
    iterate 2 refine oG ?_
    refine oS ?_
    refine oC ?_
    refine oG ?_
    refine oS ?_
    refine oN ?_
    refine thenQ_normal ?_
    refine WI.ret ?_
    first | refine lfR ?_ | refine lfR2 ?_
    first | rfl | exact ⟨rfl, rfl⟩ | trivial -- leaf 1
theorem rows_i64 (l : List Int) (z : Int) : rows (rInt .i64) l ++ [[X.int .i64 z]] = rows (rInt .i64) (l ++ [z]) := rows_app (rInt .i64) l [z]
theorem flat_bound (l : List (List UInt8)) (k : Nat) : ∀ n : Nat, l.length ≤ n → (∀ s ∈ l, s.length ≤ k) → l.flatten.length ≤ n * k := by
  induction l with
  | nil => intro n _ _; simp
  | cons s r ih =>
    intro n hn h
    obtain ⟨n, rfl⟩ : ∃ m, n = m + 1 := ⟨n - 1, by simp at hn; omega⟩
    have h1 := ih n (by simpa using hn) (fun x hx => h x (List.mem_cons_of_mem _ hx))
    have h2 := h s List.mem_cons_self
    rw [List.flatten_cons, List.length_append, Nat.succ_mul]
    omega
theorem all_take {l : List (List UInt8)} {p : List UInt8 → Prop} {j : Nat} (hj : j < l.length) (h : ∀ s ∈ l.take j, p s) (h1 : p l[j]) : ∀ s ∈ l.take (j + 1), p s := by
  rw [← List.take_append_getElem hj]
  intro s hs
  rcases List.mem_append.1 hs with hs | hs
  · exact h s hs
  · simp only [List.mem_singleton] at hs; subst hs; exact h1
theorem treeParts_c (l : List (List UInt8)) (s : List UInt8) (tags : List Int) (ht : ∀ z ∈ tags, 0 ≤ z ∧ z ≤ 255) : PCalls Try.prog 11 [.x (.sl (rows rStr l)), .x (.str s), .x (.sl (rows (rInt .u8) tags))] (.x (.bool true)) := by
  refine FCalls.pure (fcallsG (fz := true) G_ok (p := i11) rfl _ (Nat.le_of_ble_eq_true rfl) _ (fun C0 E0 => ?_)) rfl
  dsimp only [i11, argsφ]
  have uu := And.intro @tseqG.eq_1 (And.intro @tseqG.eq_2 (And.intro @rseqG.eq_1 (And.intro @rseqG.eq_2 (And.intro @tpartsG.eq_1 (And.intro @tpartsG.eq_2 (And.intro @rpartsG.eq_1 (And.intro @rpartsG.eq_2 (And.intro @un_str (And.intro @un_i64 (And.intro @textsG.eq_1 (And.intro @textsG.eq_2 (And.intro @awake03G.eq_1 (And.intro @awake03G.eq_2 (And.intro @tabTr11_r (And.intro @tabTr11_k (And.intro @tabTr11_q32 (And.intro @tabTr11_q33 (And.intro @tabTr11_q34 (And.intro @tabTr11_q35 (And.intro @tabTr11_q36 (And.intro @tabTr11_q37 (And.intro @tabTr11_q38 (And.intro @tabTr11_q39 (And.intro @tabTr11_q40 (And.intro @tabTr11_q41 (And.intro @tabTr11_t37 (And.intro @tabTr11_t39 (And.intro @tabTr11_t41 (And.intro @tabTr11_t38 (And.intro @tabTr11_t40 (And.intro @depthG.eq_1 (And.intro @depthG.eq_2 (And.intro @depthRG.eq_1 (And.intro @depthRG.eq_2 (And.intro @frzT.eq_1 (And.intro @rcheckG.eq_1 (And.intro @rcheckG.eq_2 (And.intro @tCheckG.eq_1 (@tCheckG.eq_2)))))))))))))))))))))))))))))))))))))))
  refine WI.seq ?_
  refine WI.regB tabTr11_ok [0, 1, 2] ?_
  refine oS ?_
  refine oN ?_
  refine thenQ_normal ?_
  refine WI.seq ?_
  refine WI.seq ?_
  refine WI.regB tabTr11_ok [0, 1, 2, 30] ?_
  refine oS ?_
  iterate 2 refine oG (hok := by first | with_reducible rfl | omega | (simp only [Bool.and_eq_true, decide_eq_true_eq]; omega) | (simp; done) | (simp; omega) | rfl) ?_
  refine oS ?_
  iterate 4 refine oG (hok := by first | with_reducible rfl | omega | (simp only [Bool.and_eq_true, decide_eq_true_eq]; omega) | (simp; done) | (simp; omega) | rfl) ?_
  refine oS ?_
  iterate 4 refine oG (hok := by first | with_reducible rfl | omega | (simp only [Bool.and_eq_true, decide_eq_true_eq]; omega) | (simp; done) | (simp; omega) | rfl) ?_
  refine oN ?_
  refine thenQ_normal ?_
  refine WI.cond (b := _) rfl rfl (fun h0 => ?_) (fun h0 => ?_)
  · try simp only [zB] at h0
    refine WI.seq ?_
    refine WI.regB tabTr11_ok [6] ?_
    refine oC (hok := by first | with_reducible rfl | omega | (simp only [Bool.and_eq_true, decide_eq_true_eq]; omega) | (simp; done) | (simp; omega) | rfl) ?_
    refine oS ?_
    refine oN ?_
    refine thenQ_normal ?_
    refine WI.ret ?_
    refine thenQ_ret ?_
    first | refine lfR ?_ | refine lfR2 ?_
    first | rfl | exact ⟨rfl, rfl⟩ | trivial -- leaf 0
  · try simp only [zB] at h0
    refine WI.skip ?_
    refine thenQ_normal ?_
    refine WI.seq ?_
    refine WI.seq ?_
    refine WI.regB tabTr11_ok [0, 1, 2, 7] ?_
    refine oS ?_
    refine oN ?_
    refine thenQ_normal ?_
    refine WI.block ?_
    refine WI.loop (fun φ os => ∃ (j : Nat), φ = [(0, .x (.sl (rows rStr l))), (1, .x (.str s)), (2, .x (.sl (rows (rInt .u8) tags))), (7, .x (.int .i64 j))] ∧ os = [] ∧ j ≤ l.length ∧ ∀ s ∈ l.take j, s.length ≤ 300) (down l.length 7) ?_ (fun φ os hI => ?_)
    · exact ⟨0, rfl, rfl, by omega, by simp⟩
    · obtain ⟨j, rfl, rfl, hj, ha⟩ := hI
      refine WI.seq ?_
      refine WI.seq ?_
      refine WI.regB tabTr11_ok [0, 1, 2, 7, 35] ?_
      iterate 2 refine oS ?_
      iterate 2 refine oG (hok := by first | with_reducible rfl | omega | (simp only [Bool.and_eq_true, decide_eq_true_eq]; omega) | (simp; done) | (simp; omega) | rfl) ?_
      refine oN ?_
      refine thenQ_normal ?_
      refine WI.cond (b := _) rfl rfl (fun h1 => ?_) (fun h1 => ?_)
      · try simp only [zB] at h1
        refine WI.skip ?_
        refine thenQ_normal ?_
        refine WI.seq ?_
        refine WI.block ?_
        refine WI.seq ?_
        refine WI.regB tabTr11_ok [0, 1, 2, 7, 43] ?_
        iterate 2 refine oS ?_
        iterate 4 refine oG (hok := by first | with_reducible rfl | omega | (simp only [Bool.and_eq_true, decide_eq_true_eq]; omega) | (simp; done) | (simp; omega) | rfl) ?_
        refine oN ?_
        refine thenQ_normal ?_
        refine WI.cond (b := _) rfl rfl (fun h2 => ?_) (fun h2 => ?_)
        · try simp only [zB] at h2
          refine WI.seq ?_
          refine WI.regB tabTr11_ok [6] ?_
          refine oC (hok := by first | with_reducible rfl | omega | (simp only [Bool.and_eq_true, decide_eq_true_eq]; omega) | (simp; done) | (simp; omega) | rfl) ?_
          refine oS ?_
          refine oN ?_
          refine thenQ_normal ?_
          refine WI.ret ?_
          refine blockQ_ret ?_
          refine thenQ_ret ?_
          refine thenQ_ret ?_
          refine blockQ_ret ?_
          refine thenQ_ret ?_
          first | refine lfR ?_ | refine lfR2 ?_
          first | rfl | exact ⟨rfl, rfl⟩ | trivial -- leaf 1
        · try simp only [zB] at h2
          refine WI.skip ?_
          refine blockQ_normal ?_
          refine thenQ_normal ?_
          refine WI.regB tabTr11_ok [0, 1, 2, 7] ?_
          refine oS ?_
          refine oG (hok := by first | with_reducible rfl | omega | (simp only [Bool.and_eq_true, decide_eq_true_eq]; omega) | (simp; done) | (simp; omega) | rfl) ?_
          refine oS ?_
          refine oN ?_
          refine thenQ_normal ?_
          exact ⟨⟨j + 1, by simp, rfl, by omega, all_take (by omega) ha (by omega)⟩, by simp [down, Ab.get, D.val, intOf?]; omega⟩
      · try simp only [zB] at h1
        refine WI.exit ?_
        refine thenQ_exit ?_
        refine thenQ_exit ?_
        refine blockQ_hit ?_
        refine thenQ_normal ?_
        refine WI.seq ?_
        refine WI.regB tabTr11_ok [0, 1, 2, 8] ?_
        refine oS ?_
        refine oN ?_
        refine thenQ_normal ?_
        refine WI.seq ?_
        refine WI.seq ?_
        refine WI.regB tabTr11_ok [0, 1, 2, 8, 9] ?_
        refine oS ?_
        refine oN ?_
        refine thenQ_normal ?_
        refine WI.block ?_
        refine WI.ownA 8 3 1 ?_
        refine WI.loop (fun φ os => ∃ (i : Nat), φ = [(0, .x (.sl (rows rStr l))), (1, .x (.str s)), (2, .x (.sl (rows (rInt .u8) tags))), (8, .ref 0 i 0 i), (9, .x (.int .i64 i))] ∧ os = [.rows false 3 1 (rows (rInt .i64) (tags.take i))] ∧ i ≤ tags.length) (down tags.length 9) ?_ (fun φ os hI => ?_)
        · exact ⟨0, rfl, rfl, by omega⟩
        · obtain ⟨i, rfl, rfl, hi⟩ := hI
          refine WI.seq ?_
          refine WI.seq ?_
          refine WI.regB tabTr11_ok [0, 1, 2, 8, 9, 48] ?_
          iterate 2 refine oS ?_
          iterate 2 refine oG (hok := by first | with_reducible rfl | omega | (simp only [Bool.and_eq_true, decide_eq_true_eq]; omega) | (simp; done) | (simp; omega) | rfl) ?_
          refine oN ?_
          refine thenQ_normal ?_
          refine WI.cond (b := _) rfl rfl (fun h3 => ?_) (fun h3 => ?_)
          · try simp only [zB] at h3
            refine WI.skip ?_
            refine thenQ_normal ?_
            refine WI.seq ?_
            refine WI.block ?_
            have hz := ht _ (List.getElem_mem (show i < tags.length by omega))
            have e11 : IntKind.i64.wrap tags[i] = tags[i] := IntWalk.i64_in _ (by omega)
            refine WI.regB tabTr11_ok [0, 1, 2, 8, 9] ?_
            iterate 3 refine oS ?_
            iterate 5 refine oG (hok := by first | with_reducible rfl | omega | (simp only [Bool.and_eq_true, decide_eq_true_eq]; omega) | (simp; done) | (simp; omega) | rfl) ?_
            refine oS ?_
            refine oN ?_
            refine blockQ_normal ?_
            refine thenQ_normal ?_
            refine WI.post ?_
            refine WI.regB tabTr11_ok [0, 1, 2, 8, 9] ?_
            refine oS ?_
            refine oG (hok := by first | with_reducible rfl | omega | (simp only [Bool.and_eq_true, decide_eq_true_eq]; omega) | (simp; done) | (simp; omega) | rfl) ?_
            refine oS ?_
            refine oP ?_
            refine pPick [0] ?_
            refine pEnd ?_
            refine thenQ_normal ?_
            exact ⟨⟨i + 1, by simp, by rw [rows_i64, List.take_append_getElem], by omega⟩, by simp [down, Ab.get, D.val, intOf?]; omega⟩
          · try simp only [zB] at h3
            refine WI.exit ?_
            refine thenQ_exit ?_
            refine thenQ_exit ?_
            refine blockQ_hit ?_
            refine thenQ_normal ?_
            refine WI.seq ?_
            obtain rfl : i = tags.length := by omega
            rw [List.take_of_length_le (Nat.le_refl _)]
            rw [List.take_of_length_le (by omega)] at ha
            have hf := flat_bound l 300 20 (by omega) ha
            refine WI.regB tabTr11_ok [0, 1, 8, 10, 11] ?_
            refine oS ?_
            refine oC (hok := by first | with_reducible rfl | omega | (simp only [Bool.and_eq_true, decide_eq_true_eq]; omega) | (simp; done) | (simp; omega) | rfl) ?_
            refine oS ?_
            iterate 2 refine oG (hok := by first | with_reducible rfl | omega | (simp only [Bool.and_eq_true, decide_eq_true_eq]; omega) | (simp; done) | (simp; omega) | rfl) ?_
            iterate 2 refine oS ?_
            refine oN ?_
            refine thenQ_normal ?_
            refine WI.seq ?_
            refine WI.regB tabTr11_ok [1, 8, 10, 11, 12, 13] ?_
            refine oS ?_
            refine oC (hok := by first | with_reducible rfl | omega | (simp only [Bool.and_eq_true, decide_eq_true_eq]; omega) | (simp; done) | (simp; omega) | rfl) ?_
            refine oS ?_
            iterate 2 refine oG (hok := by first | with_reducible rfl | omega | (simp only [Bool.and_eq_true, decide_eq_true_eq]; omega) | (simp; done) | (simp; omega) | rfl) ?_
            iterate 2 refine oS ?_
            refine oN ?_
            refine thenQ_normal ?_
            refine WI.seq ?_
            refine WI.regB tabTr11_ok [1, 8, 10, 11, 12, 13, 14, 15] ?_
            iterate 2 refine oS ?_
            refine oC (hok := by first | with_reducible rfl | omega | (simp only [Bool.and_eq_true, decide_eq_true_eq]; omega) | (simp; done) | (simp; omega) | rfl) ?_
            refine oS ?_
            iterate 2 refine oG (hok := by first | with_reducible rfl | omega | (simp only [Bool.and_eq_true, decide_eq_true_eq]; omega) | (simp; done) | (simp; omega) | rfl) ?_
            iterate 2 refine oS ?_
            refine oN ?_
            refine thenQ_normal ?_
            refine WI.seq ?_
            refine WI.regB tabTr11_ok [10, 11, 12, 13, 14, 15, 16, 17] ?_
            iterate 2 refine oS ?_
            refine oC (hok := by first | with_reducible rfl | omega | (simp only [Bool.and_eq_true, decide_eq_true_eq]; omega) | (simp; done) | (simp; omega) | rfl) ?_
            refine oS ?_
            iterate 2 refine oG (hok := by first | with_reducible rfl | omega | (simp only [Bool.and_eq_true, decide_eq_true_eq]; omega) | (simp; done) | (simp; omega) | rfl) ?_
            iterate 2 refine oS ?_
            refine oN ?_
            refine thenQ_normal ?_
            refine WI.seq ?_
            refine WI.regB tabTr11_ok [6] ?_
            iterate 2 refine oS ?_
            refine oG (hok := by first | with_reducible rfl | omega | (simp only [Bool.and_eq_true, decide_eq_true_eq]; omega) | (simp; done) | (simp; omega) | rfl) ?_
            refine oS ?_
            iterate 4 refine oG (hok := by first | with_reducible rfl | omega | (simp only [Bool.and_eq_true, decide_eq_true_eq]; omega) | (simp; done) | (simp; omega) | rfl) ?_
            refine oS ?_
            iterate 2 refine oG (hok := by first | with_reducible rfl | omega | (simp only [Bool.and_eq_true, decide_eq_true_eq]; omega) | (simp; done) | (simp; omega) | rfl) ?_
            refine oC (hok := by first | with_reducible rfl | omega | (simp only [Bool.and_eq_true, decide_eq_true_eq]; omega) | (simp; done) | (simp; omega) | rfl) ?_
            refine oG (hok := by first | with_reducible rfl | omega | (simp only [Bool.and_eq_true, decide_eq_true_eq]; omega) | (simp; done) | (simp; omega) | rfl) ?_
            refine oS ?_
            iterate 4 refine oG (hok := by first | with_reducible rfl | omega | (simp only [Bool.and_eq_true, decide_eq_true_eq]; omega) | (simp; done) | (simp; omega) | rfl) ?_
            refine oS ?_
            refine oC (hok := by first | with_reducible rfl | omega | (simp only [Bool.and_eq_true, decide_eq_true_eq]; omega) | (simp; done) | (simp; omega) | rfl) ?_
            refine oG (hok := by first | with_reducible rfl | omega | (simp only [Bool.and_eq_true, decide_eq_true_eq]; omega) | (simp; done) | (simp; omega) | rfl) ?_
            refine oS ?_
            refine oN ?_
            refine thenQ_normal ?_
            refine WI.ret ?_
            first | refine lfR ?_ | refine lfR2 ?_
            first | rfl | exact ⟨rfl, rfl⟩ | trivial -- leaf 2
theorem treeNests_c (l : List (List UInt8)) : PCalls Try.prog 12 [.x (.sl (rows rStr l))] (.x (.bool true)) := by
  refine FCalls.pure (fcallsG (fz := true) G_ok (p := i12) rfl _ (Nat.le_of_ble_eq_true rfl) _ (fun C0 E0 => ?_)) rfl
  dsimp only [i12, argsφ]
  have uu := And.intro @tseqG.eq_1 (And.intro @tseqG.eq_2 (And.intro @depthG.eq_1 (And.intro @depthG.eq_2 (And.intro @un_str (And.intro @awake03G.eq_1 (And.intro @awake03G.eq_2 (And.intro @tabTr11_r (And.intro @tabTr11_k (And.intro @tabTr11_q32 (And.intro @tabTr11_q33 (And.intro @tabTr11_q34 (And.intro @tabTr11_q35 (And.intro @tabTr11_q36 (And.intro @tabTr11_q37 (And.intro @tabTr11_q38 (And.intro @tabTr11_q39 (And.intro @tabTr11_q40 (And.intro @tabTr11_q41 (And.intro @tabTr11_t37 (And.intro @tabTr11_t39 (And.intro @tabTr11_t41 (And.intro @tabTr11_t38 (And.intro @tabTr11_t40 (And.intro @depthRG.eq_1 (And.intro @depthRG.eq_2 (And.intro @frzT.eq_1 (And.intro @rcheckG.eq_1 (And.intro @rcheckG.eq_2 (And.intro @rpartsG.eq_1 (And.intro @rpartsG.eq_2 (And.intro @rseqG.eq_1 (And.intro @rseqG.eq_2 (And.intro @tCheckG.eq_1 (And.intro @tCheckG.eq_2 (And.intro @textsG.eq_1 (And.intro @textsG.eq_2 (And.intro @tpartsG.eq_1 (@tpartsG.eq_2))))))))))))))))))))))))))))))))))))))
  refine WI.seq ?_
  refine WI.regB tabTr11_ok [0] ?_
  refine oS ?_
  refine oN ?_
  refine thenQ_normal ?_
  refine WI.seq ?_
  refine WI.seq ?_
  refine WI.regB tabTr11_ok [0, 10] ?_
  refine oS ?_
  iterate 2 refine oG (hok := by first | with_reducible rfl | omega | (simp only [Bool.and_eq_true, decide_eq_true_eq]; omega) | (simp [hlen]; done) | (simp; done) | (simp; omega) | rfl) ?_
  refine oN ?_
  refine thenQ_normal ?_
  refine WI.cond (b := _) rfl rfl (fun h0 => ?_) (fun h0 => ?_)
  · try simp only [zB] at h0
    refine WI.seq ?_
    refine WI.regB tabTr11_ok [2] ?_
    refine oC (hok := by first | with_reducible rfl | omega | (simp only [Bool.and_eq_true, decide_eq_true_eq]; omega) | (simp [hlen]; done) | (simp; done) | (simp; omega) | rfl) ?_
    refine oS ?_
    refine oN ?_
    refine thenQ_normal ?_
    refine WI.ret ?_
    refine thenQ_ret ?_
    first | refine lfR ?_ | refine lfR2 ?_
    first | rfl | exact ⟨rfl, rfl⟩ | trivial -- leaf 0
  · try simp only [zB] at h0
    refine WI.skip ?_
    refine thenQ_normal ?_
    refine WI.seq ?_
    refine WI.regB tabTr11_ok [0, 3] ?_
    refine oS ?_
    refine oN ?_
    refine thenQ_normal ?_
    refine WI.seq ?_
    refine WI.seq ?_
    refine WI.regB tabTr11_ok [0, 3, 4] ?_
    refine oS ?_
    refine oN ?_
    refine thenQ_normal ?_
    refine WI.block ?_
    refine WI.loop (fun φ os => ∃ (j : Nat), φ = [(0, .x (.sl (rows rStr l))), (3, .x (.int .i64 (dmx (l.take j)))), (4, .x (.int .i64 j))] ∧ os = [] ∧ j ≤ l.length ∧ (∀ s ∈ l.take j, s.length ≤ 200) ∧ ∀ s ∈ l.take j, depB s ≠ 0) (down l.length 4) ?_ (fun φ os hI => ?_)
    · exact ⟨0, rfl, rfl, by omega, by simp, by simp⟩
    · obtain ⟨j, rfl, rfl, hj, ha, hd⟩ := hI
      refine WI.seq ?_
      refine WI.seq ?_
      refine WI.regB tabTr11_ok [0, 3, 4, 15] ?_
      iterate 2 refine oS ?_
      iterate 2 refine oG (hok := by first | with_reducible rfl | omega | (simp only [Bool.and_eq_true, decide_eq_true_eq]; omega) | (simp [hlen]; done) | (simp; done) | (simp; omega) | rfl) ?_
      refine oN ?_
      refine thenQ_normal ?_
      refine WI.cond (b := _) rfl rfl (fun h1 => ?_) (fun h1 => ?_)
      · try simp only [zB] at h1
        refine WI.skip ?_
        refine thenQ_normal ?_
        refine WI.seq ?_
        refine WI.block ?_
        refine WI.seq ?_
        refine WI.seq ?_
        refine WI.regB tabTr11_ok [0, 3, 4, 23] ?_
        iterate 2 refine oS ?_
        iterate 4 refine oG (hok := by first | with_reducible rfl | omega | (simp only [Bool.and_eq_true, decide_eq_true_eq]; omega) | (simp [hlen]; done) | (simp; done) | (simp; omega) | rfl) ?_
        refine oN ?_
        refine thenQ_normal ?_
        refine WI.cond (b := _) rfl rfl (fun h2 => ?_) (fun h2 => ?_)
        · try simp only [zB] at h2
          refine WI.seq ?_
          refine WI.regB tabTr11_ok [2] ?_
          refine oC (hok := by first | with_reducible rfl | omega | (simp only [Bool.and_eq_true, decide_eq_true_eq]; omega) | (simp [hlen]; done) | (simp; done) | (simp; omega) | rfl) ?_
          refine oS ?_
          refine oN ?_
          refine thenQ_normal ?_
          refine WI.ret ?_
          refine thenQ_ret ?_
          refine blockQ_ret ?_
          refine thenQ_ret ?_
          refine thenQ_ret ?_
          refine blockQ_ret ?_
          refine thenQ_ret ?_
          first | refine lfR ?_ | refine lfR2 ?_
          first | rfl | exact ⟨rfl, rfl⟩ | trivial -- leaf 1
        · try simp only [zB] at h2
          refine WI.skip ?_
          refine thenQ_normal ?_
          refine WI.seq ?_
          refine WI.regB tabTr11_ok [0, 3, 4, 5] ?_
          iterate 2 refine oS ?_
          iterate 2 refine oG (hok := by first | with_reducible rfl | omega | (simp only [Bool.and_eq_true, decide_eq_true_eq]; omega) | (simp [hlen]; done) | (simp; done) | (simp; omega) | rfl) ?_
          refine oC (hok := by first | with_reducible rfl | omega | (simp only [Bool.and_eq_true, decide_eq_true_eq]; omega) | (simp [hlen]; done) | (simp; done) | (simp; omega) | rfl) ?_
          refine oS ?_
          refine oN ?_
          refine thenQ_normal ?_
          refine WI.seq ?_
          refine WI.seq ?_
          refine WI.regB tabTr11_ok [0, 3, 4, 5, 31] ?_
          refine oS ?_
          refine oG (hok := by first | with_reducible rfl | omega | (simp only [Bool.and_eq_true, decide_eq_true_eq]; omega) | (simp [hlen]; done) | (simp; done) | (simp; omega) | rfl) ?_
          refine oN ?_
          refine thenQ_normal ?_
          refine WI.cond (b := _) rfl rfl (fun h3 => ?_) (fun h3 => ?_)
          · try simp only [zB] at h3
            refine WI.seq ?_
            refine WI.regB tabTr11_ok [2] ?_
            refine oC (hok := by first | with_reducible rfl | omega | (simp only [Bool.and_eq_true, decide_eq_true_eq]; omega) | (simp [hlen]; done) | (simp; done) | (simp; omega) | rfl) ?_
            refine oS ?_
            refine oN ?_
            refine thenQ_normal ?_
            refine WI.ret ?_
            refine thenQ_ret ?_
            refine blockQ_ret ?_
            refine thenQ_ret ?_
            refine thenQ_ret ?_
            refine blockQ_ret ?_
            refine thenQ_ret ?_
            first | refine lfR ?_ | refine lfR2 ?_
            first | rfl | exact ⟨rfl, rfl⟩ | trivial -- leaf 2
          · try simp only [zB] at h3
            refine WI.skip ?_
            refine thenQ_normal ?_
            have e11 : (if (depB l[j] : Int) > (dmx (l.take j) : Nat) then (depB l[j] : Int) else (dmx (l.take j) : Nat)) = (dmx (l.take (j + 1)) : Nat) := by
              rw [← List.take_append_getElem (show j < l.length by omega), dmx_snoc]; split <;> omega
            refine WI.regB tabTr11_ok [0, 3, 4] ?_
            iterate 2 refine oS ?_
            refine oG (hok := by first | with_reducible rfl | omega | (simp only [Bool.and_eq_true, decide_eq_true_eq]; omega) | (simp [hlen]; done) | (simp; done) | (simp; omega) | rfl) ?_
            refine oS ?_
            refine oN ?_
            refine blockQ_normal ?_
            refine thenQ_normal ?_
            refine WI.regB tabTr11_ok [0, 3, 4] ?_
            refine oS ?_
            refine oG (hok := by first | with_reducible rfl | omega | (simp only [Bool.and_eq_true, decide_eq_true_eq]; omega) | (simp [hlen]; done) | (simp; done) | (simp; omega) | rfl) ?_
            refine oS ?_
            refine oN ?_
            refine thenQ_normal ?_
            exact ⟨⟨j + 1, by rw [e11]; simp, rfl, by omega, all_take (by omega) ha (by omega), all_take (by omega) hd (by omega)⟩, by simp [down, Ab.get, D.val, intOf?]; omega⟩
      · try simp only [zB] at h1
        refine WI.exit ?_
        refine thenQ_exit ?_
        refine thenQ_exit ?_
        refine blockQ_hit ?_
        refine thenQ_normal ?_
        refine WI.seq ?_
        rw [List.take_of_length_le (by omega)] at ha hd ⊢
        have hf := flat_bound l 200 8 (by omega) ha
        obtain ⟨hn1, hn2⟩ := nests l (by omega) hf hd
        have hlen : (seqB l).1.length ≤ 9223372036854775807 := by have := put_le2 48 l.flatten (by omega) rfl; unfold seqB; omega
        have hdm : dmx l ≤ 64 := (dmx_le l 64).2 (fun s hs => (depB_spec s (hd s hs)).2.1)
        refine WI.regB tabTr11_ok [3, 6, 7] ?_
        refine oS ?_
        refine oC (hok := by first | with_reducible rfl | omega | (simp only [Bool.and_eq_true, decide_eq_true_eq]; omega) | (simp [hlen]; done) | (simp; done) | (simp; omega) | rfl) ?_
        refine oS ?_
        iterate 2 refine oG (hok := by first | with_reducible rfl | omega | (simp only [Bool.and_eq_true, decide_eq_true_eq]; omega) | (simp [hlen]; done) | (simp; done) | (simp; omega) | rfl) ?_
        iterate 2 refine oS ?_
        refine oN ?_
        refine thenQ_normal ?_
        refine WI.seq ?_
        refine WI.regB tabTr11_ok [2] ?_
        refine oS ?_
        refine oG (hok := by first | with_reducible rfl | omega | (simp only [Bool.and_eq_true, decide_eq_true_eq]; omega) | (simp [hlen]; done) | (simp; done) | (simp; omega) | rfl) ?_
        refine oS ?_
        iterate 4 refine oG (hok := by first | with_reducible rfl | omega | (simp only [Bool.and_eq_true, decide_eq_true_eq]; omega) | (simp [hlen]; done) | (simp; done) | (simp; omega) | rfl) ?_
        refine oC (hok := by first | with_reducible rfl | omega | (simp only [Bool.and_eq_true, decide_eq_true_eq]; omega) | (simp [hlen]; done) | (simp; done) | (simp; omega) | rfl) ?_
        iterate 5 refine oG (hok := by first | with_reducible rfl | omega | (simp only [Bool.and_eq_true, decide_eq_true_eq]; omega) | (simp [hlen]; done) | (simp; done) | (simp; omega) | rfl) ?_
        refine oS ?_
        refine oC (hok := by first | with_reducible rfl | omega | (simp only [Bool.and_eq_true, decide_eq_true_eq]; omega) | (simp [hlen]; done) | (simp; done) | (simp; omega) | rfl) ?_
        refine oG (hok := by first | with_reducible rfl | omega | (simp only [Bool.and_eq_true, decide_eq_true_eq]; omega) | (simp [hlen]; done) | (simp; done) | (simp; omega) | rfl) ?_
        refine oS ?_
        refine oN ?_
        refine thenQ_normal ?_
        refine WI.ret ?_
        first | refine lfR ?_ | refine lfR2 ?_
        rw [hn1]
        rcases Nat.lt_or_ge (dmx l) 64 with h64 | h64
        · rw [hn2 h64]; simp
        · simp; omega -- leaf 3
end Go.Proofs.Ytogmbfaijmhamaa
