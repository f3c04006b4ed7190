/- Frame: pieces; none. -/
import Derived.Test.YtogmbfaijmhamaaFr3
set_option linter.unusedSimpArgs false
set_option linter.unusedVariables false
namespace Go.Proofs.Ytogmbfaijmhamaa
open Go.RowKit Go.Bo Go.Ab

theorem feedN_c (s : List UInt8) : PCalls Try.prog 25 [.x .nilp, .x (.str s)] (.tup []) := by
  refine FCalls.pure (fcallsG (fz := true) G_ok (p := i25) rfl _ (Nat.le_of_ble_eq_true rfl) _ (fun C0 E0 => ?_)) rfl
  dsimp only [i25, argsφ]
  have uu := trivial
  refine WI.seq ?_
  refine WI.seq ?_
  refine WI.regB noTabs_ok [0, 1, 13] ?_
  refine oS ?_
  refine oG ?_
  refine oS ?_
  iterate 6 refine oG ?_
  refine oN ?_
  refine thenQ_normal ?_
  refine WI.cond (b := _) rfl rfl (fun h0 => ?_) (fun h0 => ?_)
  · try simp only [zB] at h0
    refine WI.ret ?_
    refine thenQ_ret ?_
    first | refine lfR ?_ | refine lfR2 ?_
    first | rfl | exact ⟨rfl, rfl⟩ | trivial -- leaf 0
  · exfalso
    simp at h0
theorem nextN_c : PCalls Try.prog 27 [.x .nilp] (.tup [.x (.str []), .x (.bool false)]) := by
  refine FCalls.pure (fcallsG (fz := true) G_ok (p := i27) rfl _ (Nat.le_of_ble_eq_true rfl) _ (fun C0 E0 => ?_)) rfl
  dsimp only [i27, argsφ]
  have uu := trivial
  refine WI.seq ?_
  refine WI.regB noTabs_ok [0] ?_
  iterate 2 refine oS ?_
  refine oN ?_
  refine thenQ_normal ?_
  refine WI.seq ?_
  refine WI.seq ?_
  refine WI.regB noTabs_ok [0, 16] ?_
  refine oS ?_
  refine oG ?_
  refine oS ?_
  iterate 6 refine oG ?_
  refine oN ?_
  refine thenQ_normal ?_
  refine WI.cond (b := _) rfl rfl (fun h0 => ?_) (fun h0 => ?_)
  · try simp only [zB] at h0
    refine WI.seq ?_
    refine WI.regB noTabs_ok [2, 3] ?_
    iterate 2 refine oS ?_
    refine oN ?_
    refine thenQ_normal ?_
    refine WI.ret ?_
    refine thenQ_ret ?_
    first | refine lfR ?_ | refine lfR2 ?_
    first | rfl | exact ⟨rfl, rfl⟩ | trivial -- leaf 0
  · exfalso
    simp at h0
theorem errN_c : PCalls Try.prog 29 [.x .nilp] (.x (.int .i64 12)) := by
  refine FCalls.pure (fcallsG (fz := true) G_ok (p := i29) rfl _ (Nat.le_of_ble_eq_true rfl) _ (fun C0 E0 => ?_)) rfl
  dsimp only [i29, argsφ]
  have uu := trivial
  refine WI.seq ?_
  refine WI.regB noTabs_ok [0] ?_
  refine oS ?_
  refine oN ?_
  refine thenQ_normal ?_
  refine WI.seq ?_
  refine WI.seq ?_
  refine WI.regB noTabs_ok [0, 4] ?_
  refine oS ?_
  refine oG ?_
  refine oN ?_
  refine thenQ_normal ?_
  refine WI.cond (b := _) rfl rfl (fun h0 => ?_) (fun h0 => ?_)
  · try simp only [zB] at h0
    refine WI.seq ?_
    refine WI.regB noTabs_ok [2] ?_
    refine oS ?_
    refine oN ?_
    refine thenQ_normal ?_
    refine WI.ret ?_
    refine thenQ_ret ?_
    first | refine lfR ?_ | refine lfR2 ?_
    first | rfl | exact ⟨rfl, rfl⟩ | trivial -- leaf 0
  · exfalso
    simp at h0
theorem leftN_c : PCalls Try.prog 30 [.x .nilp] (.x (.int .i64 0)) := by
  refine FCalls.pure (fcallsG (fz := true) G_ok (p := i30) rfl _ (Nat.le_of_ble_eq_true rfl) _ (fun C0 E0 => ?_)) rfl
  dsimp only [i30, argsφ]
  have uu := trivial
  refine WI.seq ?_
  refine WI.regB noTabs_ok [0] ?_
  refine oS ?_
  refine oN ?_
  refine thenQ_normal ?_
  refine WI.seq ?_
  refine WI.seq ?_
  refine WI.regB noTabs_ok [0, 4] ?_
  refine oS ?_
  refine oG ?_
  refine oN ?_
  refine thenQ_normal ?_
  refine WI.cond (b := _) rfl rfl (fun h0 => ?_) (fun h0 => ?_)
  · try simp only [zB] at h0
    refine WI.seq ?_
    refine WI.regB noTabs_ok [2] ?_
    refine oS ?_
    refine oN ?_
    refine thenQ_normal ?_
    refine WI.ret ?_
    refine thenQ_ret ?_
    first | refine lfR ?_ | refine lfR2 ?_
    first | rfl | exact ⟨rfl, rfl⟩ | trivial -- leaf 0
  · exfalso
    simp at h0
def feedNG : List D → Option (Bool × D)
  | [.x .nilp, .x (.str s)] => some (true, .tup [])
  | _ => none
theorem feedNG_ok : ∀ args r, feedNG args = some (true, r) → PCalls Try.prog 25 args r := by
  intro args r h
  unfold feedNG at h
  split at h
  · rename_i s
    simp only [Option.some.injEq, Prod.mk.injEq, Bool.and_eq_true, decide_eq_true_eq, true_and] at h
    obtain rfl := h
    exact feedN_c s
  · cases h
def nextNG : List D → Option (Bool × D)
  | [.x .nilp] => some (true, .tup [.x (.str []), .x (.bool false)])
  | _ => none
theorem nextNG_ok : ∀ args r, nextNG args = some (true, r) → PCalls Try.prog 27 args r := by
  intro args r h
  unfold nextNG at h
  split at h
  · simp only [Option.some.injEq, Prod.mk.injEq, Bool.and_eq_true, decide_eq_true_eq, true_and] at h
    obtain rfl := h
    exact nextN_c 
  · cases h
def errNG : List D → Option (Bool × D)
  | [.x .nilp] => some (true, .x (.int .i64 12))
  | _ => none
theorem errNG_ok : ∀ args r, errNG args = some (true, r) → PCalls Try.prog 29 args r := by
  intro args r h
  unfold errNG at h
  split at h
  · simp only [Option.some.injEq, Prod.mk.injEq, Bool.and_eq_true, decide_eq_true_eq, true_and] at h
    obtain rfl := h
    exact errN_c 
  · cases h
def leftNG : List D → Option (Bool × D)
  | [.x .nilp] => some (true, .x (.int .i64 0))
  | _ => none
theorem leftNG_ok : ∀ args r, leftNG args = some (true, r) → PCalls Try.prog 30 args r := by
  intro args r h
  unfold leftNG at h
  split at h
  · simp only [Option.some.injEq, Prod.mk.injEq, Bool.and_eq_true, decide_eq_true_eq, true_and] at h
    obtain rfl := h
    exact leftN_c 
  · cases h
def tabFr6 : Tabs := addQ (addQ (addQ (addQ (addQ (noTabs) 25 feedNG) 27 nextNG) 29 errNG) 30 leftNG) 23 awake04G
theorem tabFr6_ok : SsOk Try.prog tabFr6 := addQ_ok (addQ_ok (addQ_ok (addQ_ok (addQ_ok (noTabs_ok) (G_enters G_ok (p := i25) rfl) feedNG_ok) (G_enters G_ok (p := i27) rfl) nextNG_ok) (G_enters G_ok (p := i29) rfl) errNG_ok) (G_enters G_ok (p := i30) rfl) leftNG_ok) (G_enters G_ok (p := i23) rfl) awake04G_ok
theorem tabFr6_q25 (a : List D) : tabFr6.q 25 a = feedNG a := rfl
theorem tabFr6_q27 (a : List D) : tabFr6.q 27 a = nextNG a := rfl
theorem tabFr6_q29 (a : List D) : tabFr6.q 29 a = errNG a := rfl
theorem tabFr6_q30 (a : List D) : tabFr6.q 30 a = leftNG a := rfl
theorem tabFr6_q23 (a : List D) : tabFr6.q 23 a = awake04G a := rfl
theorem tabFr6_r (f : FuncId) (a : List D) (o : List Ob) : tabFr6.r f a o = none := rfl
theorem tabFr6_k (f : FuncId) (a : List D) (o : List Ob) : tabFr6.k f a o = none := rfl
theorem frameNone_c (s : List UInt8) : PCalls Try.prog 9 [.x (.str s)] (.x (.bool true)) := by
  refine FCalls.pure (fcallsG (fz := true) G_ok (p := i9) rfl _ (Nat.le_of_ble_eq_true rfl) _ (fun C0 E0 => ?_)) rfl
  dsimp only [i9, argsφ]
  have uu := And.intro @feedNG.eq_1 (And.intro @feedNG.eq_2 (And.intro @nextNG.eq_1 (And.intro @nextNG.eq_2 (And.intro @errNG.eq_1 (And.intro @errNG.eq_2 (And.intro @leftNG.eq_1 (And.intro @leftNG.eq_2 (And.intro @awake04G.eq_1 (And.intro @awake04G.eq_2 (And.intro @tabFr6_r (And.intro @tabFr6_k (And.intro @tabFr6_q23 (And.intro @tabFr6_q25 (And.intro @tabFr6_q27 (And.intro @tabFr6_q29 (@tabFr6_q30))))))))))))))))
  refine WI.seq ?_
  refine WI.regB tabFr6_ok [0] ?_
  refine oS ?_
  refine oN ?_
  refine thenQ_normal ?_
  refine WI.seq ?_
  refine WI.regB tabFr6_ok [0, 3] ?_
  refine oS ?_
  refine oN ?_
  refine thenQ_normal ?_
  refine WI.seq ?_
  refine WI.regB tabFr6_ok [3] ?_
  iterate 2 refine oS ?_
  refine oC ?_
  refine oN ?_
  refine thenQ_normal ?_
  refine WI.seq ?_
  refine WI.regB tabFr6_ok [3, 4, 5] ?_
  refine oS ?_
  refine oC ?_
  refine oS ?_
  iterate 2 refine oG ?_
  iterate 2 refine oS ?_
  refine oN ?_
  refine thenQ_normal ?_
  refine WI.seq ?_
  refine WI.regB tabFr6_ok [2] ?_
  refine oS ?_
  refine oG ?_
  refine oS ?_
  iterate 3 refine oG ?_
  refine oS ?_
  refine oG ?_
  refine oC ?_
  iterate 2 refine oG ?_
  refine oS ?_
  refine oG ?_
  refine oC ?_
  iterate 2 refine oG ?_
  refine oS ?_
  refine oC ?_
  refine oG ?_
  refine oS ?_
  refine oN ?_
  refine thenQ_normal ?_
  refine WI.ret ?_
  first | refine lfR ?_ | refine lfR2 ?_
  first | rfl | exact ⟨rfl, rfl⟩ | trivial -- leaf 0

theorem framePlays_c (m : Int) (l : List (List UInt8)) : PCalls Try.prog 7 [.x (.int .i64 m), .x (.sl (rows rStr l))] (.x (.bool true)) := by
  by_cases hm : 1 ≤ m ∧ m ≤ 65536
  · exact plays_ok m l hm
  · exact plays_bad m l hm
/-- All messages that stand ahead. -/
def msgsF (m : Int) : Nat → List UInt8 → Int → List (List UInt8) × List UInt8 × Int
  | 0, S, e => ([], S, e)
  | k + 1, S, e => if (nextB m S e).2.2.2 = true then ((nextB m S e).2.2.1 :: (msgsF m k (nextB m S e).1 (nextB m S e).2.1).1, (msgsF m k (nextB m S e).1 (nextB m S e).2.1).2) else ([], S, e)
def msgsB (m : Int) (S : List UInt8) (e : Int) : List (List UInt8) × List UInt8 × Int := msgsF m S.length S e
theorem nextB_t {m : Int} {S : List UInt8} {e : Int} (h : (nextB m S e).2.2.2 = true) : e = 0 ∧ (readB S).2.2 = 0 ∧ nextB m S e = (S.drop (readB S).2.1, toldE m (S.drop (readB S).2.1) 0, S.take (readB S).2.1, true) := by
  unfold nextB at h ⊢
  split at h
  · rename_i h1; rw [if_pos h1]; exact ⟨h1.1, h1.2, rfl⟩
  · simp at h
theorem nextB_f {m : Int} {S : List UInt8} {e : Int} (h : ¬ (nextB m S e).2.2.2 = true) : ¬ (e = 0 ∧ (readB S).2.2 = 0) ∧ nextB m S e = (S, e, [], false) := by
  unfold nextB at h ⊢
  split at h
  · simp at h
  · rename_i h1; rw [if_neg h1]; exact ⟨h1, rfl⟩
theorem msgsF_stop {m : Int} {S : List UInt8} {e : Int} (k : Nat) (h : ¬ (nextB m S e).2.2.2 = true) : msgsF m k S e = ([], S, e) := by
  cases k with
  | zero => rfl
  | succ k => rw [msgsF, if_neg h]
theorem msgsF_step {m : Int} {S : List UInt8} {e : Int} (k : Nat) (hk : S.length ≤ k) (h : (nextB m S e).2.2.2 = true) : msgsF m k S e = ((nextB m S e).2.2.1 :: (msgsF m (k - 1) (nextB m S e).1 (nextB m S e).2.1).1, (msgsF m (k - 1) (nextB m S e).1 (nextB m S e).2.1).2) := by
  obtain ⟨_, h2, _⟩ := nextB_t h
  have := readB_ok S h2
  cases k with
  | zero => omega
  | succ k => rw [msgsF, if_pos h]; rfl
theorem msgsF_k {m : Int} : ∀ (k j : Nat) (S : List UInt8) (e : Int), S.length ≤ k → S.length ≤ j → msgsF m k S e = msgsF m j S e
  | 0, j, S, e, hk, hj => by
    by_cases h : (nextB m S e).2.2.2 = true
    · obtain ⟨_, h2, _⟩ := nextB_t h
      have := readB_ok S h2
      omega
    · rw [msgsF_stop _ h, msgsF_stop _ h]
  | k + 1, j, S, e, hk, hj => by
    by_cases h : (nextB m S e).2.2.2 = true
    · obtain ⟨_, h2, h3⟩ := nextB_t h
      have := readB_ok S h2
      rw [msgsF_step (k + 1) hk h, msgsF_step j hj h, Nat.add_sub_cancel, msgsF_k k (j - 1) (nextB m S e).1 (nextB m S e).2.1 (by rw [h3]; simp; omega) (by rw [h3]; simp; omega)]
    · rw [msgsF_stop _ h, msgsF_stop _ h]
theorem msgs_stop {m : Int} {S : List UInt8} {e : Int} (h : ¬ (e = 0 ∧ (readB S).2.2 = 0)) : msgsB m S e = ([], S, e) := by
  refine msgsF_stop _ ?_
  intro hc
  obtain ⟨h1, h2, _⟩ := nextB_t hc
  exact h ⟨h1, h2⟩
theorem msgs_step {m : Int} {S : List UInt8} (h : (readB S).2.2 = 0) : msgsB m S 0 = (S.take (readB S).2.1 :: (msgsB m (S.drop (readB S).2.1) (toldE m (S.drop (readB S).2.1) 0)).1, (msgsB m (S.drop (readB S).2.1) (toldE m (S.drop (readB S).2.1) 0)).2) := by
  have hn : nextB m S 0 = (S.drop (readB S).2.1, toldE m (S.drop (readB S).2.1) 0, S.take (readB S).2.1, true) := by rw [nextB, if_pos ⟨rfl, h⟩]
  have hr := readB_ok S h
  rw [msgsB, msgsF_step _ (Nat.le_refl _) (by rw [hn]), hn]
  simp only
  rw [msgsB, msgsF_k (S.length - 1) (S.drop (readB S).2.1).length _ _ (by simp; omega) (Nat.le_refl _)]
theorem msgs_le {m : Int} : ∀ (k : Nat) (S : List UInt8) (e : Int), S.length ≤ k → (msgsB m S e).2.1.length ≤ S.length
  | 0, S, e, hk => by
    by_cases h : e = 0 ∧ (readB S).2.2 = 0
    · have := readB_ok S h.2; omega
    · rw [msgs_stop h]; exact Nat.le_refl _
  | k + 1, S, e, hk => by
    by_cases h : e = 0 ∧ (readB S).2.2 = 0
    · have h1 := readB_ok S h.2
      obtain ⟨rfl, h2⟩ := h
      rw [msgs_step h2]
      have := msgs_le (m := m) k (S.drop (readB S).2.1) (toldE m (S.drop (readB S).2.1) 0) (by simp; omega)
      simp only [List.length_drop] at this ⊢
      omega
    · rw [msgs_stop h]; exact Nat.le_refl _
theorem msgs_cnt {m : Int} : ∀ (k : Nat) (S : List UInt8) (e : Int), S.length ≤ k → 2 * (msgsB m S e).1.length + (msgsB m S e).2.1.length ≤ S.length
  | 0, S, e, hk => by
    by_cases h : e = 0 ∧ (readB S).2.2 = 0
    · have := readB_ok S h.2; omega
    · rw [msgs_stop h]; simp
  | k + 1, S, e, hk => by
    by_cases h : e = 0 ∧ (readB S).2.2 = 0
    · have h1 := readB_ok S h.2
      obtain ⟨rfl, h2⟩ := h
      rw [msgs_step h2]
      have := msgs_cnt (m := m) k (S.drop (readB S).2.1) (toldE m (S.drop (readB S).2.1) 0) (by simp; omega)
      simp only [List.length_drop, List.length_cons] at this ⊢
      omega
    · rw [msgs_stop h]; simp
/-- How many bytes are left in the framer that stands first. -/
def leftL (_ : List (Nat × D)) (os : List Ob) : Nat := match os with
  | .box [_, .x (.sl B), _] :: _ => B.length
  | _ => 0
def tabFr7 : Tabs := addT (noTabs) 27 nextT
theorem tabFr7_ok : SsOk Try.prog tabFr7 := addT_ok (noTabs_ok) (G_enters G_ok (p := i27) rfl) nextT_ok
theorem tabFr7_q27 (a : List D) : tabFr7.q 27 a = none := rfl
theorem tabFr7_t27 (a : List D) (o : List Ob) : tabFr7.t 27 a o = liftT nextT a o := rfl
theorem tabFr7_r (f : FuncId) (a : List D) (o : List Ob) : tabFr7.r f a o = none := rfl
theorem tabFr7_k (f : FuncId) (a : List D) (o : List Ob) : tabFr7.k f a o = none := rfl
theorem messages_c (m : Int) (S : List UInt8) (e : Int) (hS : S.length ≤ 3000) : MCalls Try.prog 31 [.ptr 0 0] [frO m S e] (.x (.sl (rows rStr (msgsB m S e).1))) [frO m (msgsB m S e).2.1 (msgsB m S e).2.2] := by
  refine FCalls.mcalls (fcallsG (fz := true) G_ok (p := i31) rfl _ (Nat.le_of_ble_eq_true rfl) _ (fun C0 E0 => ?_))
  dsimp only [i31, argsφ, frO]
  have uu := And.intro @nextT.eq_1 (And.intro @nextT.eq_2 (And.intro @frO.eq_1 (And.intro @unb_bytes (And.intro @rows_str (And.intro @tabFr7_r (And.intro @tabFr7_k (And.intro @tabFr7_q27 (@tabFr7_t27))))))))
  refine WI.seq ?_
  refine WI.regB tabFr7_ok [0] ?_
  refine oS ?_
  refine oN ?_
  refine thenQ_normal ?_
  refine WI.seq ?_
  refine WI.regB tabFr7_ok [0, 3] ?_
  refine oS ?_
  refine oN ?_
  refine thenQ_normal ?_
  refine WI.seq ?_
  refine WI.block ?_
  refine WI.ownA 3 9 1 ?_
  refine WI.loop (fun φ os => ∃ (k : Nat) (S' : List UInt8) (e' : Int) (out : List (List UInt8)), φ = [(0, .ptr 0 0), (3, .ref 1 out.length 0 out.length)] ∧ os = [frO m S' e', .rows false 9 1 (rows rStr out)] ∧ S'.length ≤ k ∧ 2 * out.length + S'.length ≤ S.length ∧ out ++ (msgsF m k S' e').1 = (msgsB m S e).1 ∧ (msgsF m k S' e').2 = (msgsB m S e).2) (leftL) ?_ (fun φ os hI => ?_)
  · exact ⟨S.length, S, e, [], rfl, rfl, by omega, by simp, rfl, rfl⟩
  · obtain ⟨k, S', e', out, rfl, rfl, hk, hl, ha, hb⟩ := hI
    simp only [frO]
    refine WI.seq ?_
    refine WI.seq ?_
    refine WI.regB tabFr7_ok [0, 3, 8] ?_
    refine oS ?_
    iterate 2 refine oG ?_
    refine oN ?_
    refine thenQ_normal ?_
    refine WI.cond (b := _) rfl rfl (fun h0 => ?_) (fun h0 => ?_)
    · try simp only [zB] at h0
      refine WI.skip ?_
      refine thenQ_normal ?_
      refine WI.block ?_
      refine WI.seq ?_
      refine WI.regB tabFr7_ok [0, 3, 4, 5] ?_
      refine oS ?_
      refine oC ?_
      refine oS ?_
      iterate 2 refine oG ?_
      iterate 2 refine oS ?_
      refine oN ?_
      refine thenQ_normal ?_
      refine WI.seq ?_
      refine WI.seq ?_
      refine WI.regB tabFr7_ok [0, 3, 4, 15] ?_
      refine oS ?_
      refine oG ?_
      refine oN ?_
      refine thenQ_normal ?_
      refine WI.cond (b := _) rfl rfl (fun h1 => ?_) (fun h1 => ?_)
      · try simp only [zB] at h1
        refine WI.seq ?_
        have hf := (nextB_f (by simpa using h1)).2
        rw [msgsF_stop k (by simpa using h1)] at ha hb
        simp only [List.append_nil] at ha
        refine WI.regB tabFr7_ok [2] ?_
        iterate 2 refine oS ?_
        refine oN ?_
        refine thenQ_normal ?_
        refine WI.freezeA [1] ?_
        refine WI.pickA [0] ?_
        refine WI.ret ?_
        refine thenQ_ret ?_
        refine blockQ_ret ?_
        refine thenQ_ret ?_
        refine blockQ_ret ?_
        refine thenQ_ret ?_
        first | refine lfR ?_ | refine lfR2 ?_
        rw [hf, ha, ← hb]; exact ⟨rfl, rfl⟩ -- leaf 0
      · try simp only [zB] at h1
        refine WI.skip ?_
        refine thenQ_normal ?_
        have hn := (nextB_t (by simpa using h1)).2
        have hr := readB_ok S' hn.1
        have hs := msgsF_step k hk (by simpa using h1)
        rw [hs] at ha hb
        have hx1 : (nextB m S' e').1.length ≤ k - 1 := by rw [hn.2]; simp; omega
        have hx2 : 2 * (out.length + 1) + (nextB m S' e').1.length ≤ S.length := by rw [hn.2]; simp; omega
        have hx5 : (nextB m S' e').1.length < S'.length := by rw [hn.2]; simp; omega
        refine WI.post ?_
        refine WI.regB tabFr7_ok [0, 3] ?_
        iterate 2 refine oS ?_
        iterate 2 refine oG ?_
        refine oS ?_
        refine oP ?_
        refine pPick [0, 1] ?_
        refine pEnd ?_
        refine blockQ_normal ?_
        refine thenQ_normal ?_
        exact ⟨⟨k - 1, _, _, out ++ [_], by simp, by rw [← rows_str], hx1, by simpa using hx2, by simpa using ha, hb⟩, by simpa [leftL] using hx5⟩
    · exfalso
      simp at h0; omega
def messagesT : List D → List Ob → Option (Bool × D × List Ob)
  | [.ptr 0 0], [.box [.x (.int .i64 m), .x (.sl B), .x (.int .i64 e)]] => (unbytes B).bind fun S => some (decide (S.length ≤ 3000), .x (.sl (rows rStr (msgsB m S e).1)), [frO m (msgsB m S e).2.1 (msgsB m S e).2.2])
  | _, _ => none
theorem messagesT_ok : ∀ args os r os', messagesT args os = some (true, r, os') → MCalls Try.prog 31 args os r os' := by
  intro args os r os' h
  unfold messagesT at h
  split at h
  · rename_i m B e
    obtain ⟨S, hb0, h⟩ := Option.bind_eq_some_iff.1 h
    simp only [Option.some.injEq, Prod.mk.injEq, Bool.and_eq_true, decide_eq_true_eq, true_and] at h
    obtain ⟨h1, rfl, rfl⟩ := h
    rw [unbytes_inv hb0]
    exact messages_c _ _ _ h1
  · cases h
theorem headB_app : ∀ (T y : List UInt8), (headB T).2.2.2 ≠ 4 → headB (T ++ y) = headB T
  | [], y, h => by simp [headB] at h
  | [t], y, h => by
    by_cases ht : tagB (t.toNat : Int) = true
    · simp [headB, ht] at h
    · cases y <;> simp [headB, ht]
  | t :: c :: r, y, h => by
    simp only [List.cons_append]
    have hl : (longB c r).2.2 ≠ 4 → longB c (r ++ y) = longB c r := by
      unfold longB
      simp only
      by_cases h1 : c.toNat - 128 = 0 ∨ 4 < c.toNat - 128
      · rw [if_pos h1, if_pos h1]; exact fun _ => rfl
      · rw [if_neg h1, if_neg h1]
        by_cases h2 : r.length < c.toNat - 128
        · rw [if_pos h2]; intro h; simp at h
        · have hr : ¬ (r ++ y).length < c.toNat - 128 := by rw [List.length_append]; omega
          rw [if_neg h2, if_neg hr, List.take_append_of_le_length (Nat.not_lt.1 h2)]; exact fun _ => rfl
    by_cases ht : tagB (t.toNat : Int) = true
    · by_cases hc : c.toNat < 128
      · simp [headB, ht, hc]
      · simp only [headB, if_pos ht, if_neg hc] at h ⊢
        by_cases h0 : (longB c r).2.2 = 0
        · rw [hl (by rw [h0]; decide), if_pos h0]
        · rw [if_neg h0] at h
          simp only at h
          rw [hl h]
    · simp [headB, ht]
theorem readB_app (T y : List UInt8) (h : (readB T).2.2 = 0) : readB (T ++ y) = readB T := by
  have hr := readB_ok T h
  unfold readB at h hr ⊢
  split at h
  · rename_i h0
    rw [if_pos h0] at hr
    have hk := headB_ok T h0
    rw [headB_app T y (by rw [h0]; decide), if_pos h0, if_pos h0]
    split at h
    · simp at h
    · rename_i h1
      rw [if_neg h1] at hr
      simp only at hr
      rw [if_neg h1, if_neg (by simp; omega), List.take_append_of_le_length (by omega)]
  · rename_i h0; exact absurd h h0
theorem toldE_err (m : Int) (T y : List UInt8) (h : toldE m T 0 ≠ 0) : toldE m (T ++ y) 0 = toldE m T 0 := by
  by_cases hT : T = []
  · subst hT; simp [toldE] at h
  · have hTy : T ++ y ≠ [] := by simp [hT]
    have hd : (T ++ y).head? = T.head? := by cases T <;> simp_all
    simp only [toldE, hT, hTy, ne_eq, not_true_eq_false, or_self, if_false, hd] at h ⊢
    by_cases h1 : T.head? = some 48
    · simp only [h1, not_true_eq_false, if_false] at h ⊢
      by_cases h2 : (headB T).2.2.2 = 4
      · simp [h2] at h
      · rw [headB_app T y h2]
    · simp [h1]
theorem toldE_ok (m : Int) (T y : List UInt8) (h : toldE m T 0 = 0) (hr : (readB T).2.2 = 0) : toldE m (T ++ y) 0 = 0 := by
  have h4 : (headB T).2.2.2 ≠ 4 := by
    intro h4; unfold readB at hr; rw [if_neg (by rw [h4]; decide)] at hr; simp [h4] at hr
  have hT : T ≠ [] := by rintro rfl; simp [headB] at h4
  have hTy : T ++ y ≠ [] := by simp [hT]
  have hd : (T ++ y).head? = T.head? := by cases T <;> simp_all
  simp only [toldE, hT, hTy, ne_eq, not_true_eq_false, or_self, if_false, hd, headB_app T y h4] at h ⊢
  exact h
/-- More bytes behind: the messages that stood there, and those of what is left and more. -/
theorem msgs_app (m : Int) (y : List UInt8) : ∀ (k : Nat) (T : List UInt8), T.length ≤ k →
    (msgsB m T (toldE m T 0)).1 ++ (msgsB m (feedB m (msgsB m T (toldE m T 0)).2.1 (msgsB m T (toldE m T 0)).2.2 y).1 (feedB m (msgsB m T (toldE m T 0)).2.1 (msgsB m T (toldE m T 0)).2.2 y).2).1 = (msgsB m (T ++ y) (toldE m (T ++ y) 0)).1 ∧
    (msgsB m (feedB m (msgsB m T (toldE m T 0)).2.1 (msgsB m T (toldE m T 0)).2.2 y).1 (feedB m (msgsB m T (toldE m T 0)).2.1 (msgsB m T (toldE m T 0)).2.2 y).2).2.2 = (msgsB m (T ++ y) (toldE m (T ++ y) 0)).2.2 := by
  intro k
  induction k with
  | zero =>
    intro T hk
    obtain rfl : T = [] := List.length_eq_zero_iff.1 (by omega)
    have h1 : toldE m [] 0 = 0 := by simp [toldE]
    have h2 : ¬ ((0 : Int) = 0 ∧ (readB []).2.2 = 0) := fun h => by have := readB_ok [] h.2; simp at this; omega
    rw [h1, msgs_stop h2]
    simp [feedB]
  | succ k ih =>
    intro T hk
    by_cases h1 : toldE m T 0 = 0
    · by_cases h2 : (readB T).2.2 = 0
      · have hr := readB_ok T h2
        rw [h1, msgs_step h2, toldE_ok m T y h1 h2, msgs_step (by rw [readB_app T y h2]; exact h2), readB_app T y h2, List.take_append_of_le_length (by omega), List.drop_append_of_le_length (by omega)]
        have := ih (T.drop (readB T).2.1) (by simp; omega)
        simp only [List.cons_append]
        exact ⟨by rw [this.1], this.2⟩
      · rw [h1, msgs_stop (fun h => h2 h.2)]
        simp [feedB]
    · have hn : ¬ (toldE m T 0 = 0 ∧ (readB T).2.2 = 0) := fun h => h1 h.1
      have hn' : ¬ (toldE m (T ++ y) 0 = 0 ∧ (readB (T ++ y)).2.2 = 0) := fun h => h1 (by rw [← toldE_err m T y h1]; exact h.1)
      rw [msgs_stop hn, msgs_stop hn', toldE_err m T y h1]
      simp only [feedB, if_neg h1]
      rw [msgs_stop hn]
      exact ⟨rfl, rfl⟩
/-- Pieces: what is told of x, then of y. -/
theorem msgs_piece (m : Int) (S : List UInt8) (e : Int) (x y : List UInt8) :
    (msgsB m (feedB m S e x).1 (feedB m S e x).2).1 ++ (msgsB m (feedB m (msgsB m (feedB m S e x).1 (feedB m S e x).2).2.1 (msgsB m (feedB m S e x).1 (feedB m S e x).2).2.2 y).1 (feedB m (msgsB m (feedB m S e x).1 (feedB m S e x).2).2.1 (msgsB m (feedB m S e x).1 (feedB m S e x).2).2.2 y).2).1 = (msgsB m (feedB m S e (x ++ y)).1 (feedB m S e (x ++ y)).2).1 ∧
    (msgsB m (feedB m (msgsB m (feedB m S e x).1 (feedB m S e x).2).2.1 (msgsB m (feedB m S e x).1 (feedB m S e x).2).2.2 y).1 (feedB m (msgsB m (feedB m S e x).1 (feedB m S e x).2).2.1 (msgsB m (feedB m S e x).1 (feedB m S e x).2).2.2 y).2).2.2 = (msgsB m (feedB m S e (x ++ y)).1 (feedB m S e (x ++ y)).2).2.2 := by
  by_cases he : e = 0
  · subst he
    have e1 : ∀ z, feedB m S 0 z = (S ++ z, toldE m (S ++ z) 0) := fun z => by simp [feedB]
    rw [e1 x, e1 (x ++ y), ← List.append_assoc]
    exact msgs_app m y _ (S ++ x) (Nat.le_refl _)
  · have e1 : ∀ z, feedB m S e z = (S, e) := fun z => by simp [feedB, he]
    have hn : ¬ (e = 0 ∧ (readB S).2.2 = 0) := fun h => he h.1
    simp [e1, msgs_stop hn]
def tabFr8 : Tabs := addQ (addR (addT (addT (addT (noTabs) 24 frNewT) 25 feedT) 31 messagesT) 29 errR) 23 awake04G
theorem tabFr8_ok : SsOk Try.prog tabFr8 := addQ_ok (addR_ok (addT_ok (addT_ok (addT_ok (noTabs_ok) (G_enters G_ok (p := i24) rfl) frNewT_ok) (G_enters G_ok (p := i25) rfl) feedT_ok) (G_enters G_ok (p := i31) rfl) messagesT_ok) (G_enters G_ok (p := i29) rfl) errR_ok) (G_enters G_ok (p := i23) rfl) awake04G_ok
theorem tabFr8_q24 (a : List D) : tabFr8.q 24 a = none := rfl
theorem tabFr8_t24 (a : List D) (o : List Ob) : tabFr8.t 24 a o = liftT frNewT a o := rfl
theorem tabFr8_q25 (a : List D) : tabFr8.q 25 a = none := rfl
theorem tabFr8_t25 (a : List D) (o : List Ob) : tabFr8.t 25 a o = liftT feedT a o := rfl
theorem tabFr8_q31 (a : List D) : tabFr8.q 31 a = none := rfl
theorem tabFr8_t31 (a : List D) (o : List Ob) : tabFr8.t 31 a o = liftT messagesT a o := rfl
theorem tabFr8_q29 (a : List D) : tabFr8.q 29 a = none := rfl
theorem tabFr8_t29 (a : List D) (o : List Ob) : tabFr8.t 29 a o = (readT errR a o).map fun r => (r.1, r.2, o) := rfl
theorem tabFr8_r29 (a : List D) (o : List Ob) : tabFr8.r 29 a o = readT errR a o := rfl
theorem tabFr8_q23 (a : List D) : tabFr8.q 23 a = awake04G a := rfl
theorem tabFr8_r23 (a : List D) (o : List Ob) : tabFr8.r 23 a o = none := rfl
theorem tabFr8_r24 (a : List D) (o : List Ob) : tabFr8.r 24 a o = none := rfl
theorem tabFr8_r25 (a : List D) (o : List Ob) : tabFr8.r 25 a o = none := rfl
theorem tabFr8_r31 (a : List D) (o : List Ob) : tabFr8.r 31 a o = none := rfl
theorem tabFr8_k (f : FuncId) (a : List D) (o : List Ob) : tabFr8.k f a o = none := rfl
def pcs (S : List UInt8) (e : Int) (rest : List UInt8) : List (List UInt8) × Int := ((msgsB 200 (feedB 200 S e rest).1 (feedB 200 S e rest).2).1, (msgsB 200 (feedB 200 S e rest).1 (feedB 200 S e rest).2).2.2)
theorem pcs_step (S : List UInt8) (e : Int) (x y : List UInt8) : pcs S e (x ++ y) = ((msgsB 200 (feedB 200 S e x).1 (feedB 200 S e x).2).1 ++ (pcs (msgsB 200 (feedB 200 S e x).1 (feedB 200 S e x).2).2.1 (msgsB 200 (feedB 200 S e x).1 (feedB 200 S e x).2).2.2 y).1, (pcs (msgsB 200 (feedB 200 S e x).1 (feedB 200 S e x).2).2.1 (msgsB 200 (feedB 200 S e x).1 (feedB 200 S e x).2).2.2 y).2) := by
  have := msgs_piece 200 S e x y
  exact Prod.ext this.1.symm this.2.symm
theorem cutN (z : Int) (n : Nat) (h : 0 ≤ z ∧ z ≤ 255) : ∃ j : Nat, (if (n : Int) < IntKind.i64.wrap (z.tmod 16) then (n : Int) else IntKind.i64.wrap (z.tmod 16)) = (j : Int) ∧ j ≤ n := by
  have h1 : z.tmod 16 = z % 16 := Int.tmod_eq_emod_of_nonneg h.1
  have h2 : IntKind.i64.wrap (z.tmod 16) = z % 16 := by rw [h1, IntWalk.i64_in _ (by omega)]
  rw [h2]
  refine ⟨min n (z % 16).toNat, ?_, Nat.min_le_left _ _⟩
  split <;> omega
theorem framePieces_c (s : List UInt8) (cuts : List Int) (hc : ∀ z ∈ cuts, 0 ≤ z ∧ z ≤ 255) : PCalls Try.prog 8 [.x (.str s), .x (.sl (rows (rInt .u8) cuts))] (.x (.bool true)) := by
  have hm : (1 : Int) ≤ 200 ∧ (200 : Int) ≤ 65536 := by decide
  refine FCalls.pure (fcallsG (fz := true) G_ok (p := i8) rfl _ (Nat.le_of_ble_eq_true rfl) _ (fun C0 E0 => ?_)) rfl
  dsimp only [i8, argsφ]
  have uu := And.intro @frNewT.eq_1 (And.intro @frNewT.eq_2 (And.intro @feedT.eq_1 (And.intro @feedT.eq_2 (And.intro @messagesT.eq_1 (And.intro @messagesT.eq_2 (And.intro @errR.eq_1 (And.intro @errR.eq_2 (And.intro @awake04G.eq_1 (And.intro @awake04G.eq_2 (And.intro @frO.eq_1 (And.intro @unb_bytes (And.intro @unbytes.eq_1 (And.intro hm (And.intro @tabFr8_r23 (And.intro @tabFr8_r24 (And.intro @tabFr8_r25 (And.intro @tabFr8_r29 (And.intro @tabFr8_r31 (And.intro @tabFr8_k (And.intro @tabFr8_q23 (And.intro @tabFr8_q24 (And.intro @tabFr8_q25 (And.intro @tabFr8_q29 (And.intro @tabFr8_q31 (And.intro @tabFr8_t24 (And.intro @tabFr8_t25 (And.intro @tabFr8_t31 (@tabFr8_t29))))))))))))))))))))))))))))
  refine WI.seq ?_
  refine WI.regB tabFr8_ok [0, 1] ?_
  refine oS ?_
  refine oN ?_
  refine thenQ_normal ?_
  refine WI.seq ?_
  refine WI.seq ?_
  refine WI.regB tabFr8_ok [0, 1, 22] ?_
  refine oS ?_
  iterate 2 refine oG ?_
  refine oS ?_
  iterate 4 refine oG ?_
  refine oN ?_
  refine thenQ_normal ?_
  refine WI.cond (b := _) rfl rfl (fun h0 => ?_) (fun h0 => ?_)
  · try simp only [zB] at h0
    refine WI.seq ?_
    refine WI.regB tabFr8_ok [4] ?_
    refine oC ?_
    refine oS ?_
    refine oN ?_
    refine thenQ_normal ?_
    refine WI.ret ?_
    refine thenQ_ret ?_
    first | refine lfR ?_ | refine lfR2 ?_
    first | rfl | exact ⟨rfl, rfl⟩ | trivial -- leaf 0
  · try simp only [zB] at h0
    refine WI.skip ?_
    refine thenQ_normal ?_
    refine WI.seq ?_
    refine WI.regB tabFr8_ok [0, 1, 5] ?_
    refine oC ?_
    refine oS ?_
    iterate 2 refine oG ?_
    iterate 2 refine oS ?_
    refine oN ?_
    refine thenQ_normal ?_
    refine WI.seq ?_
    refine WI.regB tabFr8_ok [0, 1, 5, 7] ?_
    refine oC ?_
    refine oS ?_
    iterate 2 refine oG ?_
    iterate 2 refine oS ?_
    refine oN ?_
    refine thenQ_normal ?_
    refine WI.seq ?_
    refine WI.seq ?_
    refine WI.regB tabFr8_ok [0, 1, 5, 7, 37] ?_
    refine oS ?_
    refine oG ?_
    refine oS ?_
    iterate 3 refine oG ?_
    refine oN ?_
    refine thenQ_normal ?_
    refine WI.cond (b := _) rfl rfl (fun h1 => ?_) (fun h1 => ?_)
    · exfalso
      simp at h1
    · try simp only [zB] at h1
      refine WI.skip ?_
      refine thenQ_normal ?_
      refine WI.seq ?_
      refine WI.nnA ?_
      have hA := pcs_step [] 0 s []
      have hfs : feedB 200 [] 0 s = (s, toldE 200 s 0) := by simp [feedB]
      refine WI.regB tabFr8_ok [0, 1, 5, 7] ?_
      iterate 2 refine oS ?_
      refine oC ?_
      refine oN ?_
      refine thenQ_normal ?_
      refine WI.seq ?_
      have hl8 := feedB_le 200 [] 0 s
      have hc8 := msgs_cnt (m := 200) _ (feedB 200 [] 0 s).1 (feedB 200 [] 0 s).2 (Nat.le_refl _)
      simp only [List.length_nil, Nat.zero_add] at hl8
      refine WI.regB tabFr8_ok [0, 1, 5, 7, 9] ?_
      refine oS ?_
      refine oC ?_
      refine oS ?_
      refine oN ?_
      refine thenQ_normal ?_
      refine WI.seq ?_
      refine WI.regB tabFr8_ok [1, 5, 7, 9, 10] ?_
      iterate 2 refine oS ?_
      refine oN ?_
      refine thenQ_normal ?_
      refine WI.seq ?_
      refine WI.regB tabFr8_ok [1, 5, 7, 9, 10, 11] ?_
      refine oS ?_
      refine oN ?_
      refine thenQ_normal ?_
      refine WI.seq ?_
      refine WI.seq ?_
      refine WI.regB tabFr8_ok [1, 5, 7, 9, 10, 11, 12] ?_
      refine oS ?_
      refine oN ?_
      refine thenQ_normal ?_
      refine WI.block ?_
      refine WI.ownA 11 9 1 ?_
      generalize hA' : (msgsB 200 (feedB 200 [] 0 s).1 (feedB 200 [] 0 s).2).1 = A at hc8 ⊢
      generalize hE' : (msgsB 200 (feedB 200 [] 0 s).1 (feedB 200 [] 0 s).2).2.2 = eA at hc8 ⊢
      generalize hS' : (msgsB 200 (feedB 200 [] 0 s).1 (feedB 200 [] 0 s).2).2.1 = SA at hc8 ⊢
      have hp0 : pcs [] 0 s = (A, eA) := Prod.ext hA' hE'
      clear hA' hE' hS'
      refine WI.loop (fun φ os => ∃ (i : Nat) (rest S : List UInt8) (e : Int) (got : List (List UInt8)), φ = [(1, .x (.sl (rows (rInt .u8) cuts))), (5, .ptr 0 0), (7, .ptr 1 0), (9, .x (.sl (rows rStr A))), (10, .x (.str rest)), (11, .ref 2 got.length 0 got.length), (12, .x (.int .i64 i))] ∧ os = [frO 200 SA eA, frO 200 S e, .rows false 9 1 (rows rStr got)] ∧ i ≤ cuts.length ∧ S.length + rest.length ≤ s.length ∧ got ++ (pcs S e rest).1 = A ∧ (pcs S e rest).2 = eA) (down cuts.length 12) ?_ (fun φ os hI => ?_)
      · exact ⟨0, s, [], 0, [], rfl, rfl, by omega, by simp, by rw [hp0]; rfl, by rw [hp0]⟩
      · obtain ⟨i, rest, S, e, got, rfl, rfl, hi, hl, ha, hb⟩ := hI
        simp only [frO]
        refine WI.seq ?_
        refine WI.seq ?_
        refine WI.regB tabFr8_ok [1, 5, 7, 9, 10, 11, 12, 47] ?_
        iterate 2 refine oS ?_
        iterate 2 refine oG ?_
        refine oN ?_
        refine thenQ_normal ?_
        refine WI.cond (b := _) rfl rfl (fun h2 => ?_) (fun h2 => ?_)
        · try simp only [zB] at h2
          refine WI.skip ?_
          refine thenQ_normal ?_
          refine WI.seq ?_
          refine WI.block ?_
          refine WI.seq ?_
          refine WI.regB tabFr8_ok [1, 5, 7, 9, 10, 11, 12, 13] ?_
          iterate 2 refine oS ?_
          iterate 4 refine oG ?_
          refine oS ?_
          iterate 2 refine oG ?_
          refine oS ?_
          refine oN ?_
          refine thenQ_normal ?_
          refine WI.seq ?_
          have hi14 : i < cuts.length := by simpa using h2
          obtain ⟨j, hj, hjl⟩ := cutN _ rest.length (hc _ (List.getElem_mem hi14))
          simp only [hj]
          refine WI.regB tabFr8_ok [1, 5, 7, 9, 10, 11, 12, 13] ?_
          iterate 3 refine oS ?_
          refine oG ?_
          refine oC ?_
          refine oN ?_
          refine thenQ_normal ?_
          refine WI.seq ?_
          refine WI.regB tabFr8_ok [1, 5, 7, 9, 10, 11, 12] ?_
          iterate 2 refine oS ?_
          refine oG ?_
          refine oS ?_
          refine oN ?_
          refine thenQ_normal ?_
          have hfl := feedB_le 200 S e (rest.take j)
          have hml := msgs_le (m := 200) _ (feedB 200 S e (rest.take j)).1 (feedB 200 S e (rest.take j)).2 (Nat.le_refl _)
          have hst := pcs_step S e (rest.take j) (rest.drop j)
          rw [List.take_append_drop] at hst
          rw [hst] at ha hb
          have hx1 := (List.append_assoc _ _ _).trans ha
          have hx2 := hb
          have hgl := congrArg List.length ha
          simp only [List.length_append, List.length_take, List.length_drop] at hgl hfl
          refine WI.regB tabFr8_ok [1, 5, 7, 9, 10, 11, 12] ?_
          iterate 2 refine oS ?_
          refine oC ?_
          refine oG ?_
          refine oS ?_
          refine oN ?_
          refine blockQ_normal ?_
          refine thenQ_normal ?_
          refine WI.regB tabFr8_ok [1, 5, 7, 9, 10, 11, 12] ?_
          refine oS ?_
          refine oG ?_
          refine oS ?_
          refine oN ?_
          refine thenQ_normal ?_
          exact ⟨⟨i + 1, rest.drop j, _, _, got ++ _, by simp, rfl, hi14, by simp; omega, hx1, hx2⟩, by simp [down, Ab.get, D.val, intOf?]; omega⟩
        · try simp only [zB] at h2
          refine WI.exit ?_
          refine thenQ_exit ?_
          refine thenQ_exit ?_
          refine blockQ_hit ?_
          refine thenQ_normal ?_
          refine WI.seq ?_
          have hfl := feedB_le 200 S e rest
          have hgl := congrArg List.length ha
          simp only [List.length_append, pcs] at hgl
          refine WI.regB tabFr8_ok [5, 7, 9, 11] ?_
          iterate 2 refine oS ?_
          refine oC ?_
          refine oN ?_
          refine thenQ_normal ?_
          refine WI.seq ?_
          refine WI.regB tabFr8_ok [5, 7, 9, 11] ?_
          iterate 2 refine oS ?_
          refine oC ?_
          refine oG ?_
          refine oS ?_
          refine oN ?_
          refine thenQ_normal ?_
          refine WI.seq ?_
          refine WI.seq ?_
          simp only [pcs] at ha hb
          simp only [hgl, ha, hb]
          refine WI.regB tabFr8_ok [9, 11, 89] ?_
          refine oS ?_
          refine oG ?_
          refine oS ?_
          iterate 2 refine oG ?_
          refine oS ?_
          refine oG ?_
          refine oC ?_
          refine oG ?_
          refine oC ?_
          iterate 2 refine oG ?_
          refine oN ?_
          refine thenQ_normal ?_
          refine WI.cond (b := _) rfl rfl (fun h3 => ?_) (fun h3 => ?_)
          · exfalso
            simp at h3
          · try simp only [zB] at h3
            refine WI.skip ?_
            refine thenQ_normal ?_
            refine WI.seq ?_
            refine WI.seq ?_
            refine WI.regB tabFr8_ok [9, 11, 14] ?_
            refine oS ?_
            refine oN ?_
            refine thenQ_normal ?_
            refine WI.block ?_
            refine WI.loop (fun φ os => ∃ (i : Nat), φ = [(9, .x (.sl (rows rStr A))), (11, .ref 2 A.length 0 A.length), (14, .x (.int .i64 i))] ∧ os = [frO 200 SA eA, frO 200 (msgsB 200 (feedB 200 S e rest).1 (feedB 200 S e rest).2).2.1 eA, .rows false 9 1 (rows rStr A)] ∧ i ≤ A.length) (down A.length 14) ?_ (fun φ os hI => ?_)
            · exact ⟨0, rfl, rfl, by omega⟩
            · obtain ⟨i, rfl, rfl, hi⟩ := hI
              simp only [frO]
              refine WI.seq ?_
              refine WI.seq ?_
              refine WI.regB tabFr8_ok [9, 11, 14, 93] ?_
              iterate 2 refine oS ?_
              iterate 2 refine oG ?_
              refine oN ?_
              refine thenQ_normal ?_
              refine WI.cond (b := _) rfl rfl (fun h4 => ?_) (fun h4 => ?_)
              · try simp only [zB] at h4
                refine WI.skip ?_
                refine thenQ_normal ?_
                refine WI.seq ?_
                refine WI.block ?_
                refine WI.seq ?_
                refine WI.dregB tabFr8_ok [9, 11, 14, 104] ?_
                iterate 2 refine dFS ?_
                iterate 2 refine dQG ?_
                iterate 2 refine dFS ?_
                iterate 2 refine dQG ?_
                refine dFG ?_
                refine dN ?_
                refine thenQ_normal ?_
                refine WI.cond (b := _) rfl rfl (fun h5 => ?_) (fun h5 => ?_)
                · exfalso
                  simp at h5
                · try simp only [zB] at h5
                  refine WI.skip ?_
                  refine blockQ_normal ?_
                  refine thenQ_normal ?_
                  refine WI.regB tabFr8_ok [9, 11, 14] ?_
                  refine oS ?_
                  refine oG ?_
                  refine oS ?_
                  refine oN ?_
                  refine thenQ_normal ?_
                  exact ⟨⟨i + 1, by simp, rfl, by omega⟩, by simp [down, Ab.get, D.val, intOf?]; omega⟩
              · try simp only [zB] at h4
                refine WI.exit ?_
                refine thenQ_exit ?_
                refine thenQ_exit ?_
                refine blockQ_hit ?_
                refine thenQ_normal ?_
                refine WI.seq ?_
                refine WI.regB tabFr8_ok [4] ?_
                refine oC ?_
                refine oS ?_
                refine oN ?_
                refine thenQ_normal ?_
                refine WI.ret ?_
                first | refine lfR ?_ | refine lfR2 ?_
                first | rfl | exact ⟨rfl, rfl⟩ | trivial -- leaf 1
end Go.Proofs.Ytogmbfaijmhamaa
