/- MA2: Fx9, FxA, FxB, FxC, FxD, FxE, FxF, FxG, FxH. -/
import Derived.Test.YtmlpbojoekmfaaaDoorMA1
import Derived.Test.YtmlpbojoekmfaaaDoorLA4
section
/- Ftext: the document's read. -/
set_option linter.unusedSimpArgs false
set_option linter.unusedVariables false
namespace Go.Proofs.YtmlpbojoekmfaaaDoor
open Go.RowKit Go.Bo Go.Ab

theorem neC {c : UInt8} {k : Nat} (hk : k < 256) (h : (c.toNat : Int) ≠ k) : c ≠ UInt8.ofNat k := fun e => h (by rw [e]; simp; omega)
/-- How far the first bracket is. -/
def brAt : Txt → Nat
  | [] => 0
  | c :: s => if c = 41 ∨ c = 40 then 0 else brAt s + 1
theorem brAt_le : ∀ s, brAt s ≤ s.length
  | [] => by simp [brAt]
  | c :: s => by have := brAt_le s; unfold brAt; split <;> simp; omega
theorem brAt_step (s : Txt) (j : Nat) (h : j < s.length) (hc : ¬ (s.getD j 0 = 41 ∨ s.getD j 0 = 40)) : j + brAt (s.drop j) = j + 1 + brAt (s.drop (j + 1)) := by
  have e : s.getD j 0 = s[j] := by simp [h]
  rw [List.drop_eq_getElem_cons h, ← e]
  conv => lhs; unfold brAt
  rw [if_neg hc]; omega
theorem brAt_stop (s : Txt) (j : Nat) (h : j < s.length) (hc : s.getD j 0 = 41 ∨ s.getD j 0 = 40) : brAt (s.drop j) = 0 := by
  have e : s.getD j 0 = s[j] := by simp [h]
  rw [List.drop_eq_getElem_cons h, ← e]
  unfold brAt
  rw [if_pos hc]
def kindR (c : UInt8) : Int := if c = 38 then 0 else if c = 124 then 1 else if c = 33 then 2 else -1
def readR : Nat → Txt → Flt × Txt × Bool
  | 0, s => (zF, s, false)
  | d + 1, s => if s.length < 2 ∨ s.getD 0 0 ≠ 40 then (zF, s, false) else
      if kindR (s.getD 1 0) < 0 then
        if 1 + brAt (s.drop 1) = s.length ∨ s.getD (1 + brAt (s.drop 1)) 0 = 40 then (zF, s, false) else (leafR ((s.take (1 + brAt (s.drop 1))).drop 1), s.drop (1 + brAt (s.drop 1) + 1), true)
      else if (loopF (readR d) ((s.drop 2).length + 1) [] (s.drop 2)).2.2 = true then (.mk (kindR (s.getD 1 0)) [] [] [] [] [] (loopF (readR d) ((s.drop 2).length + 1) [] (s.drop 2)).1, (loopF (readR d) ((s.drop 2).length + 1) [] (s.drop 2)).2.1, true) else (zF, (loopF (readR d) ((s.drop 2).length + 1) [] (s.drop 2)).2.1, false)
theorem readR_len : ∀ (d : Nat) (s : Txt), (readR d s).2.2 = true → (readR d s).2.1.length < s.length
  | 0, s, h => by simp [readR] at h
  | d + 1, s, h => by
    have ih := loopF_len (readR d) (readR_len d) ((s.drop 2).length + 1) [] (s.drop 2)
    unfold readR at h ⊢
    split at h
    · cases h
    · rename_i h2
      rw [if_neg h2]
      have hd : (s.drop 2).length + 2 = s.length := by simp; omega
      split at h
      · rename_i h3; rw [if_pos h3]
        split at h
        · cases h
        · rename_i h4; rw [if_neg h4]
          show (s.drop _).length < s.length
          rw [List.length_drop]; omega
      · rename_i h3; rw [if_neg h3]
        split at h
        · rename_i h4; rw [if_pos h4]
          have := ih h4
          show (loopF _ _ _ _).2.1.length < s.length
          omega
        · cases h
def readRmG (N : Nat) (rd : Txt → Flt × Txt × Bool) : List D → Option (Bool × D)
  | [.x (.str s), .x (.int .i64 m)] => some (decide (s.length ≤ 900000 ∧ m = N), .tup [fltD (rd s).1, .x (.str (rd s).2.1), .x (.bool (rd s).2.2)])
  | _ => none
theorem readRmG_ok (N : Nat) (rd : Txt → Flt × Txt × Bool) (ih : ∀ s : Txt, s.length ≤ 900000 → PCalls Tryd.prog 22 [.x (.str s), .x (.int .i64 N)] (.tup [fltD (rd s).1, .x (.str (rd s).2.1), .x (.bool (rd s).2.2)])) : ∀ args r, readRmG N rd args = some (true, r) → PCalls Tryd.prog 22 args r := by
  intro args r h
  unfold readRmG at h
  split at h
  · rename_i s m
    simp only [Option.some.injEq, Prod.mk.injEq, Bool.and_eq_true, decide_eq_true_eq, true_and] at h
    obtain ⟨h1, rfl⟩ := h
    exact (by obtain ⟨h1, rfl⟩ := h1; exact ih s h1)
  · cases h
def tabFx11 (g : List D → Option (Bool × D)) : Tabs := addQ (addQ (noTabs) 22 g) 45 leafRG
theorem tabFx11_ok (g : List D → Option (Bool × D)) (hg : ∀ args r, g args = some (true, r) → PCalls Tryd.prog 22 args r) : SsOk Tryd.prog (tabFx11 g) := addQ_ok (addQ_ok (noTabs_ok) (G_enters G_ok (p := i22) rfl) hg) (G_enters G_ok (p := i45) rfl) leafRG_ok
theorem tabFx11_q22 (g : List D → Option (Bool × D)) (a : List D) : (tabFx11 g).q 22 a = g a := rfl
theorem tabFx11_q45 (g : List D → Option (Bool × D)) (a : List D) : (tabFx11 g).q 45 a = leafRG a := rfl
theorem tabFx11_r (g : List D → Option (Bool × D)) (f : FuncId) (a : List D) (o : List Ob) : (tabFx11 g).r f a o = none := rfl
theorem tabFx11_k (g : List D → Option (Bool × D)) (f : FuncId) (a : List D) (o : List Ob) : (tabFx11 g).k f a o = none := rfl
set_option maxHeartbeats 4000000 in
theorem readR_c : ∀ (d : Nat), d ≤ 1000 → ∀ (s : Txt), s.length ≤ 900000 → PCalls Tryd.prog 22 [.x (.str s), .x (.int .i64 d)] (.tup [fltD (readR d s).1, .x (.str (readR d s).2.1), .x (.bool (readR d s).2.2)])
  | 0, _, s, hs => by
    show PCalls Tryd.prog 22 [.x (.str s), .x (.int .i64 (0 : Nat))] (.tup [.agg [.x (.int .i64 0), .x (.str []), .x (.str []), .x (.str []), .x (.sl []), .x (.str []), .x (.sl [])], .x (.str s), .x (.bool false)])
    refine FCalls.pure (fcallsG (fz := true) G_ok (p := i22) rfl _ (Nat.le_of_ble_eq_true rfl) _ (fun C0 E0 => ?_)) rfl
    dsimp only [i22, qt, qi, qs, qb, qm, qn, qa, qg, argsφ]
    have uu := trivial
    have tT := (noTabs_ok : SsOk Tryd.prog noTabs)
    refine nz ?_
    refine rg tT [0, 1, 4] ?_
    refine rg tT [0, 1, 4, 24] ?_
    refine ct (fun h0 => ?_) (fun h0 => ?_)
    · refine rg tT [4, 5, 6] ?_
      refine WI.nnA ?_
      refine lf ?_
      first | rfl | exact ⟨rfl, rfl⟩ | trivial -- leaf 0
    · simp at h0
  | N + 1, hN, S, hs => by
    have ih := fun s hs => readR_c N (by omega) s hs
    have hr := readR_len N
    rcases hq : readR (N + 1) S with ⟨⟨k, a, v, h, mm, t, l⟩, rest, b⟩
    simp only [fltD]
    unfold readR at hq
    generalize readR N = r at ih hr hq
    have e1 : ((N + 1 : Nat) : Int) - 1 = (N : Int) := by omega
    have eN : decide (((N + 1 : Nat) : Int) < 1) = false := decide_eq_false (by omega)
    refine FCalls.pure (fcallsG (fz := true) G_ok (p := i22) rfl _ (Nat.le_of_ble_eq_true rfl) _ (fun C0 E0 => ?_)) rfl
    dsimp only [i22, qt, qi, qs, qb, qm, qn, qa, qg, argsφ]
    have uu := And.intro @readRmG.eq_1 (And.intro @readRmG.eq_2 (And.intro @leafRG.eq_1 (And.intro @leafRG.eq_2 (And.intro @eN (And.intro @e1 (And.intro @List.getD_cons_zero.{0} (And.intro @tabFx11_r (And.intro @tabFx11_k (And.intro @tabFx11_q22 (@tabFx11_q45))))))))))
    have tT := (tabFx11_ok (readRmG N r) (readRmG_ok N r ih))
    refine nz ?_
    refine rg tT [0, 1, 4] ?_
    refine rg tT [0, 1, 4, 24] ?_
    refine cd (fun h0 => ?_) (fun h0 => ?_)
    · refine rg tT [4, 5, 6] ?_
      refine WI.nnA ?_
      refine lf ?_
      by_cases hq0 : S.length < 2 ∨ S.getD 0 0 ≠ 40
      · rw [if_pos hq0] at hq; cases hq; rfl
      · exfalso
        have hq1 : ¬ S.length < 2 := fun h => hq0 (.inl h)
        have hq2 : S.getD 0 0 = 40 := Decidable.not_not.1 fun h => hq0 (.inr h)
        have hq3 : ((S.getD 0 0).toNat : Int) = 40 := by rw [hq2]; rfl
        omega -- leaf 0
    · have hq0 : ¬ (S.length < 2 ∨ S.getD 0 0 ≠ 40) := by
        rintro (h | h)
        · omega
        · exact h (cN (k := 40) (by decide) (by omega))
      rw [if_neg hq0] at hq
      have hS2 : 2 ≤ S.length := by omega
      refine rg tT [0, 1, 4, 7] ?_
      refine rg tT [0, 1, 4, 7, 28] ?_
      refine rg tT [0, 1, 4, 7, 28, 29] ?_
      refine cd (fun h1 => ?_) (fun h1 => ?_)
      · have hk : kindR (S.getD 1 0) = 0 := by rw [show S.getD 1 0 = 38 from cN (k := 38) (by decide) (by simpa using h1)]; rfl
        refine rg tT [0, 1, 4, 7] ?_
        refine rg tT [0, 1, 4, 7, 36] ?_
        refine cd (fun h4 => ?_) (fun h4 => ?_)
        · rw [if_pos (show kindR (S.getD 1 0) < 0 by rw [hk]; first | decide | omega | (simp at h4))] at hq
          refine rg tT [0, 4, 8] ?_
          refine WI.loop (fun φ os => ∃ (j : Nat), φ = [(0, .x (.str S)), (4, .ptr 0 0), (8, .x (.int .i64 j))] ∧ os = [.box [.x (.int .i64 0), .x (.str []), .x (.str []), .x (.str []), .x .nils, .x (.str []), .x .nils]] ∧ 1 ≤ j ∧ j ≤ S.length ∧ 1 + brAt (S.drop 1) = j + brAt (S.drop j)) (down S.length 8) ?_ (fun φ os hI => ?_)
          · exact ⟨1, rfl, rfl, by omega, by omega, rfl⟩
          · obtain ⟨j, rfl, rfl, hj1, hj, hat⟩ := hI
            refine nz ?_
            refine rg tT [0, 4, 8, 52] ?_
            refine cd (fun h5 => ?_) (fun h5 => ?_)
            · have hj4 : j < S.length := by omega
              have hst := brAt_step S j hj4 (fun e => e.elim (fun e => neC (k := 41) (by decide) (by omega) e) (fun e => neC (k := 40) (by decide) (by omega) e))
              refine rg tT [0, 4, 8] ?_
              exact ⟨⟨j + 1, rfl, rfl, by omega, by omega, by rw [hat, hst]⟩, by simp [down, Ab.get, D.val, intOf?]; omega⟩
            · have hej : 1 + brAt (S.drop 1) = j := by
                by_cases hj4 : j < S.length
                · rw [hat, brAt_stop S j hj4 (if e : ((S.getD j 0).toNat : Int) = 41 then .inl (cN (k := 41) (by decide) e) else .inr (cN (k := 40) (by decide) (by omega)))]; rfl
                · rw [hat, List.drop_of_length_le (by omega)]; rfl
              rw [hej] at hq
              refine rg tT [0, 4, 8, 64] ?_
              refine cd (fun h6 => ?_) (fun h6 => ?_)
              · rw [if_pos (if e : j = S.length then .inl e else .inr (cN (k := 40) (by decide) (by omega)))] at hq
                refine rg tT [4, 5, 6] ?_
                refine WI.nnA ?_
                refine lf ?_
                try rw [List.take_length]
                first | (cases hq; rfl) | (rw [hlp, loop_nil] at hq; cases hq; rfl) | (rw [hlp, loop_fail r n _ c s hc40 (by rw [hx])] at hq; cases hq; rfl) | (rw [hlp, loop_end r n _ s c (cN (k := 41) (by decide) (by simpa using h9))] at hq; cases hq; rfl) | (rw [hlp, loop_no r n _ c s (by rintro rfl; simp at h7) (by rintro rfl; simp at h9)] at hq; cases hq; rfl) -- leaf 1
              · rw [if_neg (fun e => e.elim (fun e => by omega) (fun e => neC (k := 40) (by decide) (by omega) e))] at hq
                have e2 : ((j : Int) + 1).toNat = j + 1 := by omega
                have hv1 : decide (((S.take j).drop 1).length ≤ 900000) = true := decide_eq_true (by rw [List.length_drop, List.length_take]; omega)
                rcases hx : leafR ((S.take j).drop 1) with ⟨k1, a1, v1, h1', m1, t1, l1⟩
                rw [hx] at hq
                have uu := And.intro uu (And.intro e2 (And.intro hv1 hx))
                refine WI.dregB tT [4, 5, 6] ?_
                iterate 2 refine dFS ?_
                refine dFG ?_
                refine dAC ?_
                iterate 2 refine dFS ?_
                iterate 2 refine dFG ?_
                refine dAG ?_
                iterate 2 refine dFS ?_
                refine dN ?_
                refine nz ?_
                refine WI.nnA ?_
                refine lf ?_
                try rw [List.take_length]
                first | (cases hq; rfl) | (rw [hlp, loop_nil] at hq; cases hq; rfl) | (rw [hlp, loop_fail r n _ c s hc40 (by rw [hx])] at hq; cases hq; rfl) | (rw [hlp, loop_end r n _ s c (cN (k := 41) (by decide) (by simpa using h9))] at hq; cases hq; rfl) | (rw [hlp, loop_no r n _ c s (by rintro rfl; simp at h7) (by rintro rfl; simp at h9)] at hq; cases hq; rfl) -- leaf 2
        · rw [if_neg (show ¬ kindR (S.getD 1 0) < 0 by rw [hk]; first | decide | omega | (simp at h4))] at hq
          refine rg tT [0, 1, 4, 9] ?_
          refine rg tT [0, 1, 4, 9] ?_
          refine WI.orderA [1, 4, 9, 0] ?_
          have hd2 : (S.drop 2).length ≤ 900000 := by rw [List.length_drop]; omega
          generalize S.drop 2 = T at hq hd2 ⊢
          refine WI.loop (fun φ os => ∃ (s : Txt) (l : List Flt) (n : Nat), s.length < n ∧ l.length + s.length ≤ T.length ∧ loopF r (T.length + 1) [] T = loopF r n l s ∧ ((l = [] ∧ φ = [(1, .x (.int .i64 (N + 1 : Nat))), (4, .ptr 0 0), (9, .ptr 1 0), (0, .x (.str s))] ∧ os = [.box [.x (.int .i64 0), .x (.str []), .x (.str []), .x (.str []), .x .nils, .x (.str []), .x .nils], .box [.x (.int .i64 (kindR (S.getD 1 0))), .x (.str []), .x (.str []), .x (.str []), .x .nils, .x (.str []), .x .nils]]) ∨ (φ = [(1, .x (.int .i64 (N + 1 : Nat))), (4, .ptr 0 0), (9, .ptr 1 0), (0, .x (.str s))] ∧ os = [.box [.x (.int .i64 0), .x (.str []), .x (.str []), .x (.str []), .x .nils, .x (.str []), .x .nils], .box [.x (.int .i64 (kindR (S.getD 1 0))), .x (.str []), .x (.str []), .x (.str []), .x .nils, .x (.str []), .ref 2 l.length 0 l.length], .rows false 28 7 (rows rFlt l)]))) (fun φ _ => (match get φ 0 with | .x (.str s) => s.length | _ => 0)) ?_ (fun φ os hI => ?_)
          · exact ⟨T, [], T.length + 1, by omega, by simp, rfl, .inl ⟨rfl, rfl, by rw [hk]⟩⟩
          · obtain ⟨s, l', n, hsn, hls, hlp, hcase⟩ := hI
            refine nz ?_
            obtain ⟨n, rfl⟩ : ∃ n', n = n' + 1 := ⟨n - 1, by omega⟩
            rcases hcase with ⟨rfl, rfl, rfl⟩ | ⟨rfl, rfl⟩ <;> rcases s with _ | ⟨c, s⟩
            · refine rg tT [0, 1, 4, 9, 85] ?_
              refine ce (fun h7 => ?_) (fun h7 => ?_)
              · simp at h7
              · refine rg tT [0, 4, 9, 111] ?_
                refine ct (fun h9 => ?_) (fun h9 => ?_)
                · refine rg tT [4, 5, 6] ?_
                  refine WI.nnA ?_
                  refine lf ?_
                  try rw [List.take_length]
                  first | (cases hq; rfl) | (rw [hlp, loop_nil] at hq; cases hq; rfl) | (rw [hlp, loop_fail r n _ c s hc40 (by rw [hx])] at hq; cases hq; rfl) | (rw [hlp, loop_end r n _ s c (cN (k := 41) (by decide) (by simpa using h9))] at hq; cases hq; rfl) | (rw [hlp, loop_no r n _ c s (by rintro rfl; simp at h7) (by rintro rfl; simp at h9)] at hq; cases hq; rfl) -- leaf 3
                · simp at h9
            · have hb8 : c.toNat < 256 := UInt8.toNat_lt _
              have hsl : s.length ≤ 899999 := by simp at hls; omega
              refine rg tT [0, 1, 4, 9, 85] ?_
              refine cd (fun h7 => ?_) (fun h7 => ?_)
              · have hc40 : c = 40 := cN (k := 40) (by decide) (by simpa using h7)
                rcases hx : r (c :: s) with ⟨⟨k1, a1, v1, h1', m1, t1, l1⟩, rest', ok⟩
                have hr1 := hr (c :: s)
                rw [hx] at hr1
                have uu := And.intro uu hx
                refine rg tT [0, 1, 4, 9, 10, 11, 12] ?_
                refine rg tT [0, 1, 4, 9, 10, 11, 95] ?_
                refine cd (fun h8 => ?_) (fun h8 => ?_)
                · obtain rfl : ok = false := by simpa using h8
                  refine rg tT [4, 5, 6] ?_
                  refine WI.nnA ?_
                  refine lf ?_
                  try rw [List.take_length]
                  first | (cases hq; rfl) | (rw [hlp, loop_nil] at hq; cases hq; rfl) | (rw [hlp, loop_fail r n _ c s hc40 (by rw [hx])] at hq; cases hq; rfl) | (rw [hlp, loop_end r n _ s c (cN (k := 41) (by decide) (by simpa using h9))] at hq; cases hq; rfl) | (rw [hlp, loop_no r n _ c s (by rintro rfl; simp at h7) (by rintro rfl; simp at h9)] at hq; cases hq; rfl) -- leaf 4
                · obtain rfl : ok = true := by simpa using h8
                  have hr2 : rest'.length < s.length + 1 := hr1 rfl
                  have hsn' : s.length + 1 < n + 1 := hsn
                  refine rgp tT [1, 4, 9, 11] ?_
                  refine pPick [0, 1, 4] ?_
                  refine pEnd ?_
                  refine nz ?_
                  refine rg tT [0, 1, 4, 9] ?_
                  exact ⟨by first | exact ⟨rest', [.mk k1 a1 v1 h1' m1 t1 l1], n, by omega, by simp at hls ⊢; omega, by rw [hlp, loop_go _ _ _ _ _ hc40 (by rw [hx]), hx, List.nil_append], .inr ⟨rfl, by rw [rows_oneF]; first | done | rfl⟩⟩ | exact ⟨rest', l' ++ [.mk k1 a1 v1 h1' m1 t1 l1], n, by omega, by simp at hls ⊢; omega, by rw [hlp, loop_go _ _ _ _ _ hc40 (by rw [hx]), hx], .inr ⟨by first | rfl | simp, by rw [← rows_snocF]; first | rfl | simp⟩⟩, by show rest'.length < s.length + 1; omega⟩
              · refine rg tT [0, 4, 9, 111] ?_
                refine cd (fun h9 => ?_) (fun h9 => ?_)
                · refine rg tT [4, 5, 6] ?_
                  refine WI.nnA ?_
                  refine lf ?_
                  try rw [List.take_length]
                  first | (cases hq; rfl) | (rw [hlp, loop_nil] at hq; cases hq; rfl) | (rw [hlp, loop_fail r n _ c s hc40 (by rw [hx])] at hq; cases hq; rfl) | (rw [hlp, loop_end r n _ s c (cN (k := 41) (by decide) (by simpa using h9))] at hq; cases hq; rfl) | (rw [hlp, loop_no r n _ c s (by rintro rfl; simp at h7) (by rintro rfl; simp at h9)] at hq; cases hq; rfl) -- leaf 5
                · refine WI.dregB tT [4, 5, 6] ?_
                  refine dAG ?_
                  refine dFS ?_
                  refine dFG ?_
                  refine dAG ?_
                  iterate 2 refine dFS ?_
                  refine dN ?_
                  refine nz ?_
                  refine WI.nnA ?_
                  refine lf ?_
                  try rw [List.take_length]
                  first | (cases hq; rfl) | (rw [hlp, loop_nil] at hq; cases hq; rfl) | (rw [hlp, loop_fail r n _ c s hc40 (by rw [hx])] at hq; cases hq; rfl) | (rw [hlp, loop_end r n _ s c (cN (k := 41) (by decide) (by simpa using h9))] at hq; cases hq; rfl) | (rw [hlp, loop_no r n _ c s (by rintro rfl; simp at h7) (by rintro rfl; simp at h9)] at hq; cases hq; rfl) -- leaf 6
            · refine rg tT [0, 1, 4, 9, 85] ?_
              refine ce (fun h7 => ?_) (fun h7 => ?_)
              · simp at h7
              · refine rg tT [0, 4, 9, 111] ?_
                refine ct (fun h9 => ?_) (fun h9 => ?_)
                · refine rg tT [4, 5, 6] ?_
                  refine WI.nnA ?_
                  refine WI.freezeA [2] ?_
                  refine WI.pickA [0] ?_
                  refine lf ?_
                  try rw [List.take_length]
                  first | (cases hq; rfl) | (rw [hlp, loop_nil] at hq; cases hq; rfl) | (rw [hlp, loop_fail r n _ c s hc40 (by rw [hx])] at hq; cases hq; rfl) | (rw [hlp, loop_end r n _ s c (cN (k := 41) (by decide) (by simpa using h9))] at hq; cases hq; rfl) | (rw [hlp, loop_no r n _ c s (by rintro rfl; simp at h7) (by rintro rfl; simp at h9)] at hq; cases hq; rfl) -- leaf 7
                · simp at h9
            · have hb8 : c.toNat < 256 := UInt8.toNat_lt _
              have hsl : s.length ≤ 899999 := by simp at hls; omega
              refine rg tT [0, 1, 4, 9, 85] ?_
              refine cd (fun h7 => ?_) (fun h7 => ?_)
              · have hc40 : c = 40 := cN (k := 40) (by decide) (by simpa using h7)
                rcases hx : r (c :: s) with ⟨⟨k1, a1, v1, h1', m1, t1, l1⟩, rest', ok⟩
                have hr1 := hr (c :: s)
                rw [hx] at hr1
                have uu := And.intro uu hx
                refine rg tT [0, 1, 4, 9, 10, 11, 12] ?_
                refine rg tT [0, 1, 4, 9, 10, 11, 95] ?_
                refine cd (fun h8 => ?_) (fun h8 => ?_)
                · obtain rfl : ok = false := by simpa using h8
                  refine rg tT [4, 5, 6] ?_
                  refine WI.nnA ?_
                  refine WI.freezeA [2] ?_
                  refine WI.pickA [0] ?_
                  refine lf ?_
                  try rw [List.take_length]
                  first | (cases hq; rfl) | (rw [hlp, loop_nil] at hq; cases hq; rfl) | (rw [hlp, loop_fail r n _ c s hc40 (by rw [hx])] at hq; cases hq; rfl) | (rw [hlp, loop_end r n _ s c (cN (k := 41) (by decide) (by simpa using h9))] at hq; cases hq; rfl) | (rw [hlp, loop_no r n _ c s (by rintro rfl; simp at h7) (by rintro rfl; simp at h9)] at hq; cases hq; rfl) -- leaf 8
                · obtain rfl : ok = true := by simpa using h8
                  have hr2 : rest'.length < s.length + 1 := hr1 rfl
                  have hsn' : s.length + 1 < n + 1 := hsn
                  refine rgp tT [1, 4, 9, 11] ?_
                  refine pPick [0, 1, 2] ?_
                  refine pEnd ?_
                  refine nz ?_
                  refine rg tT [0, 1, 4, 9] ?_
                  exact ⟨by first | exact ⟨rest', [.mk k1 a1 v1 h1' m1 t1 l1], n, by omega, by simp at hls ⊢; omega, by rw [hlp, loop_go _ _ _ _ _ hc40 (by rw [hx]), hx, List.nil_append], .inr ⟨rfl, by rw [rows_oneF]; first | done | rfl⟩⟩ | exact ⟨rest', l' ++ [.mk k1 a1 v1 h1' m1 t1 l1], n, by omega, by simp at hls ⊢; omega, by rw [hlp, loop_go _ _ _ _ _ hc40 (by rw [hx]), hx], .inr ⟨by first | rfl | simp, by rw [← rows_snocF]; first | rfl | simp⟩⟩, by show rest'.length < s.length + 1; omega⟩
              · refine rg tT [0, 4, 9, 111] ?_
                refine cd (fun h9 => ?_) (fun h9 => ?_)
                · refine rg tT [4, 5, 6] ?_
                  refine WI.nnA ?_
                  refine WI.freezeA [2] ?_
                  refine WI.pickA [0] ?_
                  refine lf ?_
                  try rw [List.take_length]
                  first | (cases hq; rfl) | (rw [hlp, loop_nil] at hq; cases hq; rfl) | (rw [hlp, loop_fail r n _ c s hc40 (by rw [hx])] at hq; cases hq; rfl) | (rw [hlp, loop_end r n _ s c (cN (k := 41) (by decide) (by simpa using h9))] at hq; cases hq; rfl) | (rw [hlp, loop_no r n _ c s (by rintro rfl; simp at h7) (by rintro rfl; simp at h9)] at hq; cases hq; rfl) -- leaf 9
                · refine WI.dregB tT [4, 5, 6] ?_
                  refine dAG ?_
                  refine dFS ?_
                  refine dFG ?_
                  refine dAG ?_
                  iterate 2 refine dFS ?_
                  refine dN ?_
                  refine nz ?_
                  refine WI.nnA ?_
                  refine WI.freezeA [2] ?_
                  refine WI.pickA [0] ?_
                  refine lf ?_
                  try rw [List.take_length]
                  first | (cases hq; rfl) | (rw [hlp, loop_nil] at hq; cases hq; rfl) | (rw [hlp, loop_fail r n _ c s hc40 (by rw [hx])] at hq; cases hq; rfl) | (rw [hlp, loop_end r n _ s c (cN (k := 41) (by decide) (by simpa using h9))] at hq; cases hq; rfl) | (rw [hlp, loop_no r n _ c s (by rintro rfl; simp at h7) (by rintro rfl; simp at h9)] at hq; cases hq; rfl) -- leaf 10
      · have n38 : S.getD 1 0 ≠ 38 := fun e => by rw [e] at h1; exact absurd h1 (by decide)
        refine rg tT [0, 1, 4, 7, 28, 31] ?_
        refine cd (fun h2 => ?_) (fun h2 => ?_)
        · have hk : kindR (S.getD 1 0) = 1 := by rw [show S.getD 1 0 = 124 from cN (k := 124) (by decide) (by simpa using h2)]; rfl
          refine rg tT [0, 1, 4, 7] ?_
          refine rg tT [0, 1, 4, 7, 36] ?_
          refine cd (fun h4 => ?_) (fun h4 => ?_)
          · rw [if_pos (show kindR (S.getD 1 0) < 0 by rw [hk]; first | decide | omega | (simp at h4))] at hq
            refine rg tT [0, 4, 8] ?_
            refine WI.loop (fun φ os => ∃ (j : Nat), φ = [(0, .x (.str S)), (4, .ptr 0 0), (8, .x (.int .i64 j))] ∧ os = [.box [.x (.int .i64 0), .x (.str []), .x (.str []), .x (.str []), .x .nils, .x (.str []), .x .nils]] ∧ 1 ≤ j ∧ j ≤ S.length ∧ 1 + brAt (S.drop 1) = j + brAt (S.drop j)) (down S.length 8) ?_ (fun φ os hI => ?_)
            · exact ⟨1, rfl, rfl, by omega, by omega, rfl⟩
            · obtain ⟨j, rfl, rfl, hj1, hj, hat⟩ := hI
              refine nz ?_
              refine rg tT [0, 4, 8, 52] ?_
              refine cd (fun h5 => ?_) (fun h5 => ?_)
              · have hj4 : j < S.length := by omega
                have hst := brAt_step S j hj4 (fun e => e.elim (fun e => neC (k := 41) (by decide) (by omega) e) (fun e => neC (k := 40) (by decide) (by omega) e))
                refine rg tT [0, 4, 8] ?_
                exact ⟨⟨j + 1, rfl, rfl, by omega, by omega, by rw [hat, hst]⟩, by simp [down, Ab.get, D.val, intOf?]; omega⟩
              · have hej : 1 + brAt (S.drop 1) = j := by
                  by_cases hj4 : j < S.length
                  · rw [hat, brAt_stop S j hj4 (if e : ((S.getD j 0).toNat : Int) = 41 then .inl (cN (k := 41) (by decide) e) else .inr (cN (k := 40) (by decide) (by omega)))]; rfl
                  · rw [hat, List.drop_of_length_le (by omega)]; rfl
                rw [hej] at hq
                refine rg tT [0, 4, 8, 64] ?_
                refine cd (fun h6 => ?_) (fun h6 => ?_)
                · rw [if_pos (if e : j = S.length then .inl e else .inr (cN (k := 40) (by decide) (by omega)))] at hq
                  refine rg tT [4, 5, 6] ?_
                  refine WI.nnA ?_
                  refine lf ?_
                  try rw [List.take_length]
                  first | (cases hq; rfl) | (rw [hlp, loop_nil] at hq; cases hq; rfl) | (rw [hlp, loop_fail r n _ c s hc40 (by rw [hx])] at hq; cases hq; rfl) | (rw [hlp, loop_end r n _ s c (cN (k := 41) (by decide) (by simpa using h9))] at hq; cases hq; rfl) | (rw [hlp, loop_no r n _ c s (by rintro rfl; simp at h7) (by rintro rfl; simp at h9)] at hq; cases hq; rfl) -- leaf 11
                · rw [if_neg (fun e => e.elim (fun e => by omega) (fun e => neC (k := 40) (by decide) (by omega) e))] at hq
                  have e2 : ((j : Int) + 1).toNat = j + 1 := by omega
                  have hv1 : decide (((S.take j).drop 1).length ≤ 900000) = true := decide_eq_true (by rw [List.length_drop, List.length_take]; omega)
                  rcases hx : leafR ((S.take j).drop 1) with ⟨k1, a1, v1, h1', m1, t1, l1⟩
                  rw [hx] at hq
                  have uu := And.intro uu (And.intro e2 (And.intro hv1 hx))
                  refine WI.dregB tT [4, 5, 6] ?_
                  iterate 2 refine dFS ?_
                  refine dFG ?_
                  refine dAC ?_
                  iterate 2 refine dFS ?_
                  iterate 2 refine dFG ?_
                  refine dAG ?_
                  iterate 2 refine dFS ?_
                  refine dN ?_
                  refine nz ?_
                  refine WI.nnA ?_
                  refine lf ?_
                  try rw [List.take_length]
                  first | (cases hq; rfl) | (rw [hlp, loop_nil] at hq; cases hq; rfl) | (rw [hlp, loop_fail r n _ c s hc40 (by rw [hx])] at hq; cases hq; rfl) | (rw [hlp, loop_end r n _ s c (cN (k := 41) (by decide) (by simpa using h9))] at hq; cases hq; rfl) | (rw [hlp, loop_no r n _ c s (by rintro rfl; simp at h7) (by rintro rfl; simp at h9)] at hq; cases hq; rfl) -- leaf 12
          · rw [if_neg (show ¬ kindR (S.getD 1 0) < 0 by rw [hk]; first | decide | omega | (simp at h4))] at hq
            refine rg tT [0, 1, 4, 9] ?_
            refine rg tT [0, 1, 4, 9] ?_
            refine WI.orderA [1, 4, 9, 0] ?_
            have hd2 : (S.drop 2).length ≤ 900000 := by rw [List.length_drop]; omega
            generalize S.drop 2 = T at hq hd2 ⊢
            refine WI.loop (fun φ os => ∃ (s : Txt) (l : List Flt) (n : Nat), s.length < n ∧ l.length + s.length ≤ T.length ∧ loopF r (T.length + 1) [] T = loopF r n l s ∧ ((l = [] ∧ φ = [(1, .x (.int .i64 (N + 1 : Nat))), (4, .ptr 0 0), (9, .ptr 1 0), (0, .x (.str s))] ∧ os = [.box [.x (.int .i64 0), .x (.str []), .x (.str []), .x (.str []), .x .nils, .x (.str []), .x .nils], .box [.x (.int .i64 (kindR (S.getD 1 0))), .x (.str []), .x (.str []), .x (.str []), .x .nils, .x (.str []), .x .nils]]) ∨ (φ = [(1, .x (.int .i64 (N + 1 : Nat))), (4, .ptr 0 0), (9, .ptr 1 0), (0, .x (.str s))] ∧ os = [.box [.x (.int .i64 0), .x (.str []), .x (.str []), .x (.str []), .x .nils, .x (.str []), .x .nils], .box [.x (.int .i64 (kindR (S.getD 1 0))), .x (.str []), .x (.str []), .x (.str []), .x .nils, .x (.str []), .ref 2 l.length 0 l.length], .rows false 28 7 (rows rFlt l)]))) (fun φ _ => (match get φ 0 with | .x (.str s) => s.length | _ => 0)) ?_ (fun φ os hI => ?_)
            · exact ⟨T, [], T.length + 1, by omega, by simp, rfl, .inl ⟨rfl, rfl, by rw [hk]⟩⟩
            · obtain ⟨s, l', n, hsn, hls, hlp, hcase⟩ := hI
              refine nz ?_
              obtain ⟨n, rfl⟩ : ∃ n', n = n' + 1 := ⟨n - 1, by omega⟩
              rcases hcase with ⟨rfl, rfl, rfl⟩ | ⟨rfl, rfl⟩ <;> rcases s with _ | ⟨c, s⟩
              · refine rg tT [0, 1, 4, 9, 85] ?_
                refine ce (fun h7 => ?_) (fun h7 => ?_)
                · simp at h7
                · refine rg tT [0, 4, 9, 111] ?_
                  refine ct (fun h9 => ?_) (fun h9 => ?_)
                  · refine rg tT [4, 5, 6] ?_
                    refine WI.nnA ?_
                    refine lf ?_
                    try rw [List.take_length]
                    first | (cases hq; rfl) | (rw [hlp, loop_nil] at hq; cases hq; rfl) | (rw [hlp, loop_fail r n _ c s hc40 (by rw [hx])] at hq; cases hq; rfl) | (rw [hlp, loop_end r n _ s c (cN (k := 41) (by decide) (by simpa using h9))] at hq; cases hq; rfl) | (rw [hlp, loop_no r n _ c s (by rintro rfl; simp at h7) (by rintro rfl; simp at h9)] at hq; cases hq; rfl) -- leaf 13
                  · simp at h9
              · have hb8 : c.toNat < 256 := UInt8.toNat_lt _
                have hsl : s.length ≤ 899999 := by simp at hls; omega
                refine rg tT [0, 1, 4, 9, 85] ?_
                refine cd (fun h7 => ?_) (fun h7 => ?_)
                · have hc40 : c = 40 := cN (k := 40) (by decide) (by simpa using h7)
                  rcases hx : r (c :: s) with ⟨⟨k1, a1, v1, h1', m1, t1, l1⟩, rest', ok⟩
                  have hr1 := hr (c :: s)
                  rw [hx] at hr1
                  have uu := And.intro uu hx
                  refine rg tT [0, 1, 4, 9, 10, 11, 12] ?_
                  refine rg tT [0, 1, 4, 9, 10, 11, 95] ?_
                  refine cd (fun h8 => ?_) (fun h8 => ?_)
                  · obtain rfl : ok = false := by simpa using h8
                    refine rg tT [4, 5, 6] ?_
                    refine WI.nnA ?_
                    refine lf ?_
                    try rw [List.take_length]
                    first | (cases hq; rfl) | (rw [hlp, loop_nil] at hq; cases hq; rfl) | (rw [hlp, loop_fail r n _ c s hc40 (by rw [hx])] at hq; cases hq; rfl) | (rw [hlp, loop_end r n _ s c (cN (k := 41) (by decide) (by simpa using h9))] at hq; cases hq; rfl) | (rw [hlp, loop_no r n _ c s (by rintro rfl; simp at h7) (by rintro rfl; simp at h9)] at hq; cases hq; rfl) -- leaf 14
                  · obtain rfl : ok = true := by simpa using h8
                    have hr2 : rest'.length < s.length + 1 := hr1 rfl
                    have hsn' : s.length + 1 < n + 1 := hsn
                    refine rgp tT [1, 4, 9, 11] ?_
                    refine pPick [0, 1, 4] ?_
                    refine pEnd ?_
                    refine nz ?_
                    refine rg tT [0, 1, 4, 9] ?_
                    exact ⟨by first | exact ⟨rest', [.mk k1 a1 v1 h1' m1 t1 l1], n, by omega, by simp at hls ⊢; omega, by rw [hlp, loop_go _ _ _ _ _ hc40 (by rw [hx]), hx, List.nil_append], .inr ⟨rfl, by rw [rows_oneF]; first | done | rfl⟩⟩ | exact ⟨rest', l' ++ [.mk k1 a1 v1 h1' m1 t1 l1], n, by omega, by simp at hls ⊢; omega, by rw [hlp, loop_go _ _ _ _ _ hc40 (by rw [hx]), hx], .inr ⟨by first | rfl | simp, by rw [← rows_snocF]; first | rfl | simp⟩⟩, by show rest'.length < s.length + 1; omega⟩
                · refine rg tT [0, 4, 9, 111] ?_
                  refine cd (fun h9 => ?_) (fun h9 => ?_)
                  · refine rg tT [4, 5, 6] ?_
                    refine WI.nnA ?_
                    refine lf ?_
                    try rw [List.take_length]
                    first | (cases hq; rfl) | (rw [hlp, loop_nil] at hq; cases hq; rfl) | (rw [hlp, loop_fail r n _ c s hc40 (by rw [hx])] at hq; cases hq; rfl) | (rw [hlp, loop_end r n _ s c (cN (k := 41) (by decide) (by simpa using h9))] at hq; cases hq; rfl) | (rw [hlp, loop_no r n _ c s (by rintro rfl; simp at h7) (by rintro rfl; simp at h9)] at hq; cases hq; rfl) -- leaf 15
                  · refine WI.dregB tT [4, 5, 6] ?_
                    refine dAG ?_
                    refine dFS ?_
                    refine dFG ?_
                    refine dAG ?_
                    iterate 2 refine dFS ?_
                    refine dN ?_
                    refine nz ?_
                    refine WI.nnA ?_
                    refine lf ?_
                    try rw [List.take_length]
                    first | (cases hq; rfl) | (rw [hlp, loop_nil] at hq; cases hq; rfl) | (rw [hlp, loop_fail r n _ c s hc40 (by rw [hx])] at hq; cases hq; rfl) | (rw [hlp, loop_end r n _ s c (cN (k := 41) (by decide) (by simpa using h9))] at hq; cases hq; rfl) | (rw [hlp, loop_no r n _ c s (by rintro rfl; simp at h7) (by rintro rfl; simp at h9)] at hq; cases hq; rfl) -- leaf 16
              · refine rg tT [0, 1, 4, 9, 85] ?_
                refine ce (fun h7 => ?_) (fun h7 => ?_)
                · simp at h7
                · refine rg tT [0, 4, 9, 111] ?_
                  refine ct (fun h9 => ?_) (fun h9 => ?_)
                  · refine rg tT [4, 5, 6] ?_
                    refine WI.nnA ?_
                    refine WI.freezeA [2] ?_
                    refine WI.pickA [0] ?_
                    refine lf ?_
                    try rw [List.take_length]
                    first | (cases hq; rfl) | (rw [hlp, loop_nil] at hq; cases hq; rfl) | (rw [hlp, loop_fail r n _ c s hc40 (by rw [hx])] at hq; cases hq; rfl) | (rw [hlp, loop_end r n _ s c (cN (k := 41) (by decide) (by simpa using h9))] at hq; cases hq; rfl) | (rw [hlp, loop_no r n _ c s (by rintro rfl; simp at h7) (by rintro rfl; simp at h9)] at hq; cases hq; rfl) -- leaf 17
                  · simp at h9
              · have hb8 : c.toNat < 256 := UInt8.toNat_lt _
                have hsl : s.length ≤ 899999 := by simp at hls; omega
                refine rg tT [0, 1, 4, 9, 85] ?_
                refine cd (fun h7 => ?_) (fun h7 => ?_)
                · have hc40 : c = 40 := cN (k := 40) (by decide) (by simpa using h7)
                  rcases hx : r (c :: s) with ⟨⟨k1, a1, v1, h1', m1, t1, l1⟩, rest', ok⟩
                  have hr1 := hr (c :: s)
                  rw [hx] at hr1
                  have uu := And.intro uu hx
                  refine rg tT [0, 1, 4, 9, 10, 11, 12] ?_
                  refine rg tT [0, 1, 4, 9, 10, 11, 95] ?_
                  refine cd (fun h8 => ?_) (fun h8 => ?_)
                  · obtain rfl : ok = false := by simpa using h8
                    refine rg tT [4, 5, 6] ?_
                    refine WI.nnA ?_
                    refine WI.freezeA [2] ?_
                    refine WI.pickA [0] ?_
                    refine lf ?_
                    try rw [List.take_length]
                    first | (cases hq; rfl) | (rw [hlp, loop_nil] at hq; cases hq; rfl) | (rw [hlp, loop_fail r n _ c s hc40 (by rw [hx])] at hq; cases hq; rfl) | (rw [hlp, loop_end r n _ s c (cN (k := 41) (by decide) (by simpa using h9))] at hq; cases hq; rfl) | (rw [hlp, loop_no r n _ c s (by rintro rfl; simp at h7) (by rintro rfl; simp at h9)] at hq; cases hq; rfl) -- leaf 18
                  · obtain rfl : ok = true := by simpa using h8
                    have hr2 : rest'.length < s.length + 1 := hr1 rfl
                    have hsn' : s.length + 1 < n + 1 := hsn
                    refine rgp tT [1, 4, 9, 11] ?_
                    refine pPick [0, 1, 2] ?_
                    refine pEnd ?_
                    refine nz ?_
                    refine rg tT [0, 1, 4, 9] ?_
                    exact ⟨by first | exact ⟨rest', [.mk k1 a1 v1 h1' m1 t1 l1], n, by omega, by simp at hls ⊢; omega, by rw [hlp, loop_go _ _ _ _ _ hc40 (by rw [hx]), hx, List.nil_append], .inr ⟨rfl, by rw [rows_oneF]; first | done | rfl⟩⟩ | exact ⟨rest', l' ++ [.mk k1 a1 v1 h1' m1 t1 l1], n, by omega, by simp at hls ⊢; omega, by rw [hlp, loop_go _ _ _ _ _ hc40 (by rw [hx]), hx], .inr ⟨by first | rfl | simp, by rw [← rows_snocF]; first | rfl | simp⟩⟩, by show rest'.length < s.length + 1; omega⟩
                · refine rg tT [0, 4, 9, 111] ?_
                  refine cd (fun h9 => ?_) (fun h9 => ?_)
                  · refine rg tT [4, 5, 6] ?_
                    refine WI.nnA ?_
                    refine WI.freezeA [2] ?_
                    refine WI.pickA [0] ?_
                    refine lf ?_
                    try rw [List.take_length]
                    first | (cases hq; rfl) | (rw [hlp, loop_nil] at hq; cases hq; rfl) | (rw [hlp, loop_fail r n _ c s hc40 (by rw [hx])] at hq; cases hq; rfl) | (rw [hlp, loop_end r n _ s c (cN (k := 41) (by decide) (by simpa using h9))] at hq; cases hq; rfl) | (rw [hlp, loop_no r n _ c s (by rintro rfl; simp at h7) (by rintro rfl; simp at h9)] at hq; cases hq; rfl) -- leaf 19
                  · refine WI.dregB tT [4, 5, 6] ?_
                    refine dAG ?_
                    refine dFS ?_
                    refine dFG ?_
                    refine dAG ?_
                    iterate 2 refine dFS ?_
                    refine dN ?_
                    refine nz ?_
                    refine WI.nnA ?_
                    refine WI.freezeA [2] ?_
                    refine WI.pickA [0] ?_
                    refine lf ?_
                    try rw [List.take_length]
                    first | (cases hq; rfl) | (rw [hlp, loop_nil] at hq; cases hq; rfl) | (rw [hlp, loop_fail r n _ c s hc40 (by rw [hx])] at hq; cases hq; rfl) | (rw [hlp, loop_end r n _ s c (cN (k := 41) (by decide) (by simpa using h9))] at hq; cases hq; rfl) | (rw [hlp, loop_no r n _ c s (by rintro rfl; simp at h7) (by rintro rfl; simp at h9)] at hq; cases hq; rfl) -- leaf 20
        · have n124 : S.getD 1 0 ≠ 124 := fun e => by rw [e] at h2; exact absurd h2 (by decide)
          refine rg tT [0, 1, 4, 7, 33] ?_
          refine cd (fun h3 => ?_) (fun h3 => ?_)
          · have hk : kindR (S.getD 1 0) = 2 := by rw [show S.getD 1 0 = 33 from cN (k := 33) (by decide) (by simpa using h3)]; rfl
            refine rg tT [0, 1, 4, 7] ?_
            refine rg tT [0, 1, 4, 7, 36] ?_
            refine cd (fun h4 => ?_) (fun h4 => ?_)
            · rw [if_pos (show kindR (S.getD 1 0) < 0 by rw [hk]; first | decide | omega | (simp at h4))] at hq
              refine rg tT [0, 4, 8] ?_
              refine WI.loop (fun φ os => ∃ (j : Nat), φ = [(0, .x (.str S)), (4, .ptr 0 0), (8, .x (.int .i64 j))] ∧ os = [.box [.x (.int .i64 0), .x (.str []), .x (.str []), .x (.str []), .x .nils, .x (.str []), .x .nils]] ∧ 1 ≤ j ∧ j ≤ S.length ∧ 1 + brAt (S.drop 1) = j + brAt (S.drop j)) (down S.length 8) ?_ (fun φ os hI => ?_)
              · exact ⟨1, rfl, rfl, by omega, by omega, rfl⟩
              · obtain ⟨j, rfl, rfl, hj1, hj, hat⟩ := hI
                refine nz ?_
                refine rg tT [0, 4, 8, 52] ?_
                refine cd (fun h5 => ?_) (fun h5 => ?_)
                · have hj4 : j < S.length := by omega
                  have hst := brAt_step S j hj4 (fun e => e.elim (fun e => neC (k := 41) (by decide) (by omega) e) (fun e => neC (k := 40) (by decide) (by omega) e))
                  refine rg tT [0, 4, 8] ?_
                  exact ⟨⟨j + 1, rfl, rfl, by omega, by omega, by rw [hat, hst]⟩, by simp [down, Ab.get, D.val, intOf?]; omega⟩
                · have hej : 1 + brAt (S.drop 1) = j := by
                    by_cases hj4 : j < S.length
                    · rw [hat, brAt_stop S j hj4 (if e : ((S.getD j 0).toNat : Int) = 41 then .inl (cN (k := 41) (by decide) e) else .inr (cN (k := 40) (by decide) (by omega)))]; rfl
                    · rw [hat, List.drop_of_length_le (by omega)]; rfl
                  rw [hej] at hq
                  refine rg tT [0, 4, 8, 64] ?_
                  refine cd (fun h6 => ?_) (fun h6 => ?_)
                  · rw [if_pos (if e : j = S.length then .inl e else .inr (cN (k := 40) (by decide) (by omega)))] at hq
                    refine rg tT [4, 5, 6] ?_
                    refine WI.nnA ?_
                    refine lf ?_
                    try rw [List.take_length]
                    first | (cases hq; rfl) | (rw [hlp, loop_nil] at hq; cases hq; rfl) | (rw [hlp, loop_fail r n _ c s hc40 (by rw [hx])] at hq; cases hq; rfl) | (rw [hlp, loop_end r n _ s c (cN (k := 41) (by decide) (by simpa using h9))] at hq; cases hq; rfl) | (rw [hlp, loop_no r n _ c s (by rintro rfl; simp at h7) (by rintro rfl; simp at h9)] at hq; cases hq; rfl) -- leaf 21
                  · rw [if_neg (fun e => e.elim (fun e => by omega) (fun e => neC (k := 40) (by decide) (by omega) e))] at hq
                    have e2 : ((j : Int) + 1).toNat = j + 1 := by omega
                    have hv1 : decide (((S.take j).drop 1).length ≤ 900000) = true := decide_eq_true (by rw [List.length_drop, List.length_take]; omega)
                    rcases hx : leafR ((S.take j).drop 1) with ⟨k1, a1, v1, h1', m1, t1, l1⟩
                    rw [hx] at hq
                    have uu := And.intro uu (And.intro e2 (And.intro hv1 hx))
                    refine WI.dregB tT [4, 5, 6] ?_
                    iterate 2 refine dFS ?_
                    refine dFG ?_
                    refine dAC ?_
                    iterate 2 refine dFS ?_
                    iterate 2 refine dFG ?_
                    refine dAG ?_
                    iterate 2 refine dFS ?_
                    refine dN ?_
                    refine nz ?_
                    refine WI.nnA ?_
                    refine lf ?_
                    try rw [List.take_length]
                    first | (cases hq; rfl) | (rw [hlp, loop_nil] at hq; cases hq; rfl) | (rw [hlp, loop_fail r n _ c s hc40 (by rw [hx])] at hq; cases hq; rfl) | (rw [hlp, loop_end r n _ s c (cN (k := 41) (by decide) (by simpa using h9))] at hq; cases hq; rfl) | (rw [hlp, loop_no r n _ c s (by rintro rfl; simp at h7) (by rintro rfl; simp at h9)] at hq; cases hq; rfl) -- leaf 22
            · rw [if_neg (show ¬ kindR (S.getD 1 0) < 0 by rw [hk]; first | decide | omega | (simp at h4))] at hq
              refine rg tT [0, 1, 4, 9] ?_
              refine rg tT [0, 1, 4, 9] ?_
              refine WI.orderA [1, 4, 9, 0] ?_
              have hd2 : (S.drop 2).length ≤ 900000 := by rw [List.length_drop]; omega
              generalize S.drop 2 = T at hq hd2 ⊢
              refine WI.loop (fun φ os => ∃ (s : Txt) (l : List Flt) (n : Nat), s.length < n ∧ l.length + s.length ≤ T.length ∧ loopF r (T.length + 1) [] T = loopF r n l s ∧ ((l = [] ∧ φ = [(1, .x (.int .i64 (N + 1 : Nat))), (4, .ptr 0 0), (9, .ptr 1 0), (0, .x (.str s))] ∧ os = [.box [.x (.int .i64 0), .x (.str []), .x (.str []), .x (.str []), .x .nils, .x (.str []), .x .nils], .box [.x (.int .i64 (kindR (S.getD 1 0))), .x (.str []), .x (.str []), .x (.str []), .x .nils, .x (.str []), .x .nils]]) ∨ (φ = [(1, .x (.int .i64 (N + 1 : Nat))), (4, .ptr 0 0), (9, .ptr 1 0), (0, .x (.str s))] ∧ os = [.box [.x (.int .i64 0), .x (.str []), .x (.str []), .x (.str []), .x .nils, .x (.str []), .x .nils], .box [.x (.int .i64 (kindR (S.getD 1 0))), .x (.str []), .x (.str []), .x (.str []), .x .nils, .x (.str []), .ref 2 l.length 0 l.length], .rows false 28 7 (rows rFlt l)]))) (fun φ _ => (match get φ 0 with | .x (.str s) => s.length | _ => 0)) ?_ (fun φ os hI => ?_)
              · exact ⟨T, [], T.length + 1, by omega, by simp, rfl, .inl ⟨rfl, rfl, by rw [hk]⟩⟩
              · obtain ⟨s, l', n, hsn, hls, hlp, hcase⟩ := hI
                refine nz ?_
                obtain ⟨n, rfl⟩ : ∃ n', n = n' + 1 := ⟨n - 1, by omega⟩
                rcases hcase with ⟨rfl, rfl, rfl⟩ | ⟨rfl, rfl⟩ <;> rcases s with _ | ⟨c, s⟩
                · refine rg tT [0, 1, 4, 9, 85] ?_
                  refine ce (fun h7 => ?_) (fun h7 => ?_)
                  · simp at h7
                  · refine rg tT [0, 4, 9, 111] ?_
                    refine ct (fun h9 => ?_) (fun h9 => ?_)
                    · refine rg tT [4, 5, 6] ?_
                      refine WI.nnA ?_
                      refine lf ?_
                      try rw [List.take_length]
                      first | (cases hq; rfl) | (rw [hlp, loop_nil] at hq; cases hq; rfl) | (rw [hlp, loop_fail r n _ c s hc40 (by rw [hx])] at hq; cases hq; rfl) | (rw [hlp, loop_end r n _ s c (cN (k := 41) (by decide) (by simpa using h9))] at hq; cases hq; rfl) | (rw [hlp, loop_no r n _ c s (by rintro rfl; simp at h7) (by rintro rfl; simp at h9)] at hq; cases hq; rfl) -- leaf 23
                    · simp at h9
                · have hb8 : c.toNat < 256 := UInt8.toNat_lt _
                  have hsl : s.length ≤ 899999 := by simp at hls; omega
                  refine rg tT [0, 1, 4, 9, 85] ?_
                  refine cd (fun h7 => ?_) (fun h7 => ?_)
                  · have hc40 : c = 40 := cN (k := 40) (by decide) (by simpa using h7)
                    rcases hx : r (c :: s) with ⟨⟨k1, a1, v1, h1', m1, t1, l1⟩, rest', ok⟩
                    have hr1 := hr (c :: s)
                    rw [hx] at hr1
                    have uu := And.intro uu hx
                    refine rg tT [0, 1, 4, 9, 10, 11, 12] ?_
                    refine rg tT [0, 1, 4, 9, 10, 11, 95] ?_
                    refine cd (fun h8 => ?_) (fun h8 => ?_)
                    · obtain rfl : ok = false := by simpa using h8
                      refine rg tT [4, 5, 6] ?_
                      refine WI.nnA ?_
                      refine lf ?_
                      try rw [List.take_length]
                      first | (cases hq; rfl) | (rw [hlp, loop_nil] at hq; cases hq; rfl) | (rw [hlp, loop_fail r n _ c s hc40 (by rw [hx])] at hq; cases hq; rfl) | (rw [hlp, loop_end r n _ s c (cN (k := 41) (by decide) (by simpa using h9))] at hq; cases hq; rfl) | (rw [hlp, loop_no r n _ c s (by rintro rfl; simp at h7) (by rintro rfl; simp at h9)] at hq; cases hq; rfl) -- leaf 24
                    · obtain rfl : ok = true := by simpa using h8
                      have hr2 : rest'.length < s.length + 1 := hr1 rfl
                      have hsn' : s.length + 1 < n + 1 := hsn
                      refine rgp tT [1, 4, 9, 11] ?_
                      refine pPick [0, 1, 4] ?_
                      refine pEnd ?_
                      refine nz ?_
                      refine rg tT [0, 1, 4, 9] ?_
                      exact ⟨by first | exact ⟨rest', [.mk k1 a1 v1 h1' m1 t1 l1], n, by omega, by simp at hls ⊢; omega, by rw [hlp, loop_go _ _ _ _ _ hc40 (by rw [hx]), hx, List.nil_append], .inr ⟨rfl, by rw [rows_oneF]; first | done | rfl⟩⟩ | exact ⟨rest', l' ++ [.mk k1 a1 v1 h1' m1 t1 l1], n, by omega, by simp at hls ⊢; omega, by rw [hlp, loop_go _ _ _ _ _ hc40 (by rw [hx]), hx], .inr ⟨by first | rfl | simp, by rw [← rows_snocF]; first | rfl | simp⟩⟩, by show rest'.length < s.length + 1; omega⟩
                  · refine rg tT [0, 4, 9, 111] ?_
                    refine cd (fun h9 => ?_) (fun h9 => ?_)
                    · refine rg tT [4, 5, 6] ?_
                      refine WI.nnA ?_
                      refine lf ?_
                      try rw [List.take_length]
                      first | (cases hq; rfl) | (rw [hlp, loop_nil] at hq; cases hq; rfl) | (rw [hlp, loop_fail r n _ c s hc40 (by rw [hx])] at hq; cases hq; rfl) | (rw [hlp, loop_end r n _ s c (cN (k := 41) (by decide) (by simpa using h9))] at hq; cases hq; rfl) | (rw [hlp, loop_no r n _ c s (by rintro rfl; simp at h7) (by rintro rfl; simp at h9)] at hq; cases hq; rfl) -- leaf 25
                    · refine WI.dregB tT [4, 5, 6] ?_
                      refine dAG ?_
                      refine dFS ?_
                      refine dFG ?_
                      refine dAG ?_
                      iterate 2 refine dFS ?_
                      refine dN ?_
                      refine nz ?_
                      refine WI.nnA ?_
                      refine lf ?_
                      try rw [List.take_length]
                      first | (cases hq; rfl) | (rw [hlp, loop_nil] at hq; cases hq; rfl) | (rw [hlp, loop_fail r n _ c s hc40 (by rw [hx])] at hq; cases hq; rfl) | (rw [hlp, loop_end r n _ s c (cN (k := 41) (by decide) (by simpa using h9))] at hq; cases hq; rfl) | (rw [hlp, loop_no r n _ c s (by rintro rfl; simp at h7) (by rintro rfl; simp at h9)] at hq; cases hq; rfl) -- leaf 26
                · refine rg tT [0, 1, 4, 9, 85] ?_
                  refine ce (fun h7 => ?_) (fun h7 => ?_)
                  · simp at h7
                  · refine rg tT [0, 4, 9, 111] ?_
                    refine ct (fun h9 => ?_) (fun h9 => ?_)
                    · refine rg tT [4, 5, 6] ?_
                      refine WI.nnA ?_
                      refine WI.freezeA [2] ?_
                      refine WI.pickA [0] ?_
                      refine lf ?_
                      try rw [List.take_length]
                      first | (cases hq; rfl) | (rw [hlp, loop_nil] at hq; cases hq; rfl) | (rw [hlp, loop_fail r n _ c s hc40 (by rw [hx])] at hq; cases hq; rfl) | (rw [hlp, loop_end r n _ s c (cN (k := 41) (by decide) (by simpa using h9))] at hq; cases hq; rfl) | (rw [hlp, loop_no r n _ c s (by rintro rfl; simp at h7) (by rintro rfl; simp at h9)] at hq; cases hq; rfl) -- leaf 27
                    · simp at h9
                · have hb8 : c.toNat < 256 := UInt8.toNat_lt _
                  have hsl : s.length ≤ 899999 := by simp at hls; omega
                  refine rg tT [0, 1, 4, 9, 85] ?_
                  refine cd (fun h7 => ?_) (fun h7 => ?_)
                  · have hc40 : c = 40 := cN (k := 40) (by decide) (by simpa using h7)
                    rcases hx : r (c :: s) with ⟨⟨k1, a1, v1, h1', m1, t1, l1⟩, rest', ok⟩
                    have hr1 := hr (c :: s)
                    rw [hx] at hr1
                    have uu := And.intro uu hx
                    refine rg tT [0, 1, 4, 9, 10, 11, 12] ?_
                    refine rg tT [0, 1, 4, 9, 10, 11, 95] ?_
                    refine cd (fun h8 => ?_) (fun h8 => ?_)
                    · obtain rfl : ok = false := by simpa using h8
                      refine rg tT [4, 5, 6] ?_
                      refine WI.nnA ?_
                      refine WI.freezeA [2] ?_
                      refine WI.pickA [0] ?_
                      refine lf ?_
                      try rw [List.take_length]
                      first | (cases hq; rfl) | (rw [hlp, loop_nil] at hq; cases hq; rfl) | (rw [hlp, loop_fail r n _ c s hc40 (by rw [hx])] at hq; cases hq; rfl) | (rw [hlp, loop_end r n _ s c (cN (k := 41) (by decide) (by simpa using h9))] at hq; cases hq; rfl) | (rw [hlp, loop_no r n _ c s (by rintro rfl; simp at h7) (by rintro rfl; simp at h9)] at hq; cases hq; rfl) -- leaf 28
                    · obtain rfl : ok = true := by simpa using h8
                      have hr2 : rest'.length < s.length + 1 := hr1 rfl
                      have hsn' : s.length + 1 < n + 1 := hsn
                      refine rgp tT [1, 4, 9, 11] ?_
                      refine pPick [0, 1, 2] ?_
                      refine pEnd ?_
                      refine nz ?_
                      refine rg tT [0, 1, 4, 9] ?_
                      exact ⟨by first | exact ⟨rest', [.mk k1 a1 v1 h1' m1 t1 l1], n, by omega, by simp at hls ⊢; omega, by rw [hlp, loop_go _ _ _ _ _ hc40 (by rw [hx]), hx, List.nil_append], .inr ⟨rfl, by rw [rows_oneF]; first | done | rfl⟩⟩ | exact ⟨rest', l' ++ [.mk k1 a1 v1 h1' m1 t1 l1], n, by omega, by simp at hls ⊢; omega, by rw [hlp, loop_go _ _ _ _ _ hc40 (by rw [hx]), hx], .inr ⟨by first | rfl | simp, by rw [← rows_snocF]; first | rfl | simp⟩⟩, by show rest'.length < s.length + 1; omega⟩
                  · refine rg tT [0, 4, 9, 111] ?_
                    refine cd (fun h9 => ?_) (fun h9 => ?_)
                    · refine rg tT [4, 5, 6] ?_
                      refine WI.nnA ?_
                      refine WI.freezeA [2] ?_
                      refine WI.pickA [0] ?_
                      refine lf ?_
                      try rw [List.take_length]
                      first | (cases hq; rfl) | (rw [hlp, loop_nil] at hq; cases hq; rfl) | (rw [hlp, loop_fail r n _ c s hc40 (by rw [hx])] at hq; cases hq; rfl) | (rw [hlp, loop_end r n _ s c (cN (k := 41) (by decide) (by simpa using h9))] at hq; cases hq; rfl) | (rw [hlp, loop_no r n _ c s (by rintro rfl; simp at h7) (by rintro rfl; simp at h9)] at hq; cases hq; rfl) -- leaf 29
                    · refine WI.dregB tT [4, 5, 6] ?_
                      refine dAG ?_
                      refine dFS ?_
                      refine dFG ?_
                      refine dAG ?_
                      iterate 2 refine dFS ?_
                      refine dN ?_
                      refine nz ?_
                      refine WI.nnA ?_
                      refine WI.freezeA [2] ?_
                      refine WI.pickA [0] ?_
                      refine lf ?_
                      try rw [List.take_length]
                      first | (cases hq; rfl) | (rw [hlp, loop_nil] at hq; cases hq; rfl) | (rw [hlp, loop_fail r n _ c s hc40 (by rw [hx])] at hq; cases hq; rfl) | (rw [hlp, loop_end r n _ s c (cN (k := 41) (by decide) (by simpa using h9))] at hq; cases hq; rfl) | (rw [hlp, loop_no r n _ c s (by rintro rfl; simp at h7) (by rintro rfl; simp at h9)] at hq; cases hq; rfl) -- leaf 30
          · have n33 : S.getD 1 0 ≠ 33 := fun e => by rw [e] at h3; exact absurd h3 (by decide)
            have hk : kindR (S.getD 1 0) = -1 := by unfold kindR; rw [if_neg n38, if_neg n124, if_neg n33]
            refine rg tT [0, 1, 4, 7, 36] ?_
            refine cd (fun h4 => ?_) (fun h4 => ?_)
            · rw [if_pos (show kindR (S.getD 1 0) < 0 by rw [hk]; first | decide | omega | (simp at h4))] at hq
              refine rg tT [0, 4, 8] ?_
              refine WI.loop (fun φ os => ∃ (j : Nat), φ = [(0, .x (.str S)), (4, .ptr 0 0), (8, .x (.int .i64 j))] ∧ os = [.box [.x (.int .i64 0), .x (.str []), .x (.str []), .x (.str []), .x .nils, .x (.str []), .x .nils]] ∧ 1 ≤ j ∧ j ≤ S.length ∧ 1 + brAt (S.drop 1) = j + brAt (S.drop j)) (down S.length 8) ?_ (fun φ os hI => ?_)
              · exact ⟨1, rfl, rfl, by omega, by omega, rfl⟩
              · obtain ⟨j, rfl, rfl, hj1, hj, hat⟩ := hI
                refine nz ?_
                refine rg tT [0, 4, 8, 52] ?_
                refine cd (fun h5 => ?_) (fun h5 => ?_)
                · have hj4 : j < S.length := by omega
                  have hst := brAt_step S j hj4 (fun e => e.elim (fun e => neC (k := 41) (by decide) (by omega) e) (fun e => neC (k := 40) (by decide) (by omega) e))
                  refine rg tT [0, 4, 8] ?_
                  exact ⟨⟨j + 1, rfl, rfl, by omega, by omega, by rw [hat, hst]⟩, by simp [down, Ab.get, D.val, intOf?]; omega⟩
                · have hej : 1 + brAt (S.drop 1) = j := by
                    by_cases hj4 : j < S.length
                    · rw [hat, brAt_stop S j hj4 (if e : ((S.getD j 0).toNat : Int) = 41 then .inl (cN (k := 41) (by decide) e) else .inr (cN (k := 40) (by decide) (by omega)))]; rfl
                    · rw [hat, List.drop_of_length_le (by omega)]; rfl
                  rw [hej] at hq
                  refine rg tT [0, 4, 8, 64] ?_
                  refine cd (fun h6 => ?_) (fun h6 => ?_)
                  · rw [if_pos (if e : j = S.length then .inl e else .inr (cN (k := 40) (by decide) (by omega)))] at hq
                    refine rg tT [4, 5, 6] ?_
                    refine WI.nnA ?_
                    refine lf ?_
                    try rw [List.take_length]
                    first | (cases hq; rfl) | (rw [hlp, loop_nil] at hq; cases hq; rfl) | (rw [hlp, loop_fail r n _ c s hc40 (by rw [hx])] at hq; cases hq; rfl) | (rw [hlp, loop_end r n _ s c (cN (k := 41) (by decide) (by simpa using h9))] at hq; cases hq; rfl) | (rw [hlp, loop_no r n _ c s (by rintro rfl; simp at h7) (by rintro rfl; simp at h9)] at hq; cases hq; rfl) -- leaf 31
                  · rw [if_neg (fun e => e.elim (fun e => by omega) (fun e => neC (k := 40) (by decide) (by omega) e))] at hq
                    have e2 : ((j : Int) + 1).toNat = j + 1 := by omega
                    have hv1 : decide (((S.take j).drop 1).length ≤ 900000) = true := decide_eq_true (by rw [List.length_drop, List.length_take]; omega)
                    rcases hx : leafR ((S.take j).drop 1) with ⟨k1, a1, v1, h1', m1, t1, l1⟩
                    rw [hx] at hq
                    have uu := And.intro uu (And.intro e2 (And.intro hv1 hx))
                    refine WI.dregB tT [4, 5, 6] ?_
                    iterate 2 refine dFS ?_
                    refine dFG ?_
                    refine dAC ?_
                    iterate 2 refine dFS ?_
                    iterate 2 refine dFG ?_
                    refine dAG ?_
                    iterate 2 refine dFS ?_
                    refine dN ?_
                    refine nz ?_
                    refine WI.nnA ?_
                    refine lf ?_
                    try rw [List.take_length]
                    first | (cases hq; rfl) | (rw [hlp, loop_nil] at hq; cases hq; rfl) | (rw [hlp, loop_fail r n _ c s hc40 (by rw [hx])] at hq; cases hq; rfl) | (rw [hlp, loop_end r n _ s c (cN (k := 41) (by decide) (by simpa using h9))] at hq; cases hq; rfl) | (rw [hlp, loop_no r n _ c s (by rintro rfl; simp at h7) (by rintro rfl; simp at h9)] at hq; cases hq; rfl) -- leaf 32
            · rw [if_neg (show ¬ kindR (S.getD 1 0) < 0 by rw [hk]; first | decide | omega | (simp at h4))] at hq
              refine rg tT [0, 1, 4, 9] ?_
              refine rg tT [0, 1, 4, 9] ?_
              refine WI.orderA [1, 4, 9, 0] ?_
              have hd2 : (S.drop 2).length ≤ 900000 := by rw [List.length_drop]; omega
              generalize S.drop 2 = T at hq hd2 ⊢
              refine WI.loop (fun φ os => ∃ (s : Txt) (l : List Flt) (n : Nat), s.length < n ∧ l.length + s.length ≤ T.length ∧ loopF r (T.length + 1) [] T = loopF r n l s ∧ ((l = [] ∧ φ = [(1, .x (.int .i64 (N + 1 : Nat))), (4, .ptr 0 0), (9, .ptr 1 0), (0, .x (.str s))] ∧ os = [.box [.x (.int .i64 0), .x (.str []), .x (.str []), .x (.str []), .x .nils, .x (.str []), .x .nils], .box [.x (.int .i64 (kindR (S.getD 1 0))), .x (.str []), .x (.str []), .x (.str []), .x .nils, .x (.str []), .x .nils]]) ∨ (φ = [(1, .x (.int .i64 (N + 1 : Nat))), (4, .ptr 0 0), (9, .ptr 1 0), (0, .x (.str s))] ∧ os = [.box [.x (.int .i64 0), .x (.str []), .x (.str []), .x (.str []), .x .nils, .x (.str []), .x .nils], .box [.x (.int .i64 (kindR (S.getD 1 0))), .x (.str []), .x (.str []), .x (.str []), .x .nils, .x (.str []), .ref 2 l.length 0 l.length], .rows false 28 7 (rows rFlt l)]))) (fun φ _ => (match get φ 0 with | .x (.str s) => s.length | _ => 0)) ?_ (fun φ os hI => ?_)
              · exact ⟨T, [], T.length + 1, by omega, by simp, rfl, .inl ⟨rfl, rfl, by rw [hk]⟩⟩
              · obtain ⟨s, l', n, hsn, hls, hlp, hcase⟩ := hI
                refine nz ?_
                obtain ⟨n, rfl⟩ : ∃ n', n = n' + 1 := ⟨n - 1, by omega⟩
                rcases hcase with ⟨rfl, rfl, rfl⟩ | ⟨rfl, rfl⟩ <;> rcases s with _ | ⟨c, s⟩
                · refine rg tT [0, 1, 4, 9, 85] ?_
                  refine ce (fun h7 => ?_) (fun h7 => ?_)
                  · simp at h7
                  · refine rg tT [0, 4, 9, 111] ?_
                    refine ct (fun h9 => ?_) (fun h9 => ?_)
                    · refine rg tT [4, 5, 6] ?_
                      refine WI.nnA ?_
                      refine lf ?_
                      try rw [List.take_length]
                      first | (cases hq; rfl) | (rw [hlp, loop_nil] at hq; cases hq; rfl) | (rw [hlp, loop_fail r n _ c s hc40 (by rw [hx])] at hq; cases hq; rfl) | (rw [hlp, loop_end r n _ s c (cN (k := 41) (by decide) (by simpa using h9))] at hq; cases hq; rfl) | (rw [hlp, loop_no r n _ c s (by rintro rfl; simp at h7) (by rintro rfl; simp at h9)] at hq; cases hq; rfl) -- leaf 33
                    · simp at h9
                · have hb8 : c.toNat < 256 := UInt8.toNat_lt _
                  have hsl : s.length ≤ 899999 := by simp at hls; omega
                  refine rg tT [0, 1, 4, 9, 85] ?_
                  refine cd (fun h7 => ?_) (fun h7 => ?_)
                  · have hc40 : c = 40 := cN (k := 40) (by decide) (by simpa using h7)
                    rcases hx : r (c :: s) with ⟨⟨k1, a1, v1, h1', m1, t1, l1⟩, rest', ok⟩
                    have hr1 := hr (c :: s)
                    rw [hx] at hr1
                    have uu := And.intro uu hx
                    refine rg tT [0, 1, 4, 9, 10, 11, 12] ?_
                    refine rg tT [0, 1, 4, 9, 10, 11, 95] ?_
                    refine cd (fun h8 => ?_) (fun h8 => ?_)
                    · obtain rfl : ok = false := by simpa using h8
                      refine rg tT [4, 5, 6] ?_
                      refine WI.nnA ?_
                      refine lf ?_
                      try rw [List.take_length]
                      first | (cases hq; rfl) | (rw [hlp, loop_nil] at hq; cases hq; rfl) | (rw [hlp, loop_fail r n _ c s hc40 (by rw [hx])] at hq; cases hq; rfl) | (rw [hlp, loop_end r n _ s c (cN (k := 41) (by decide) (by simpa using h9))] at hq; cases hq; rfl) | (rw [hlp, loop_no r n _ c s (by rintro rfl; simp at h7) (by rintro rfl; simp at h9)] at hq; cases hq; rfl) -- leaf 34
                    · obtain rfl : ok = true := by simpa using h8
                      have hr2 : rest'.length < s.length + 1 := hr1 rfl
                      have hsn' : s.length + 1 < n + 1 := hsn
                      refine rgp tT [1, 4, 9, 11] ?_
                      refine pPick [0, 1, 4] ?_
                      refine pEnd ?_
                      refine nz ?_
                      refine rg tT [0, 1, 4, 9] ?_
                      exact ⟨by first | exact ⟨rest', [.mk k1 a1 v1 h1' m1 t1 l1], n, by omega, by simp at hls ⊢; omega, by rw [hlp, loop_go _ _ _ _ _ hc40 (by rw [hx]), hx, List.nil_append], .inr ⟨rfl, by rw [rows_oneF]; first | done | rfl⟩⟩ | exact ⟨rest', l' ++ [.mk k1 a1 v1 h1' m1 t1 l1], n, by omega, by simp at hls ⊢; omega, by rw [hlp, loop_go _ _ _ _ _ hc40 (by rw [hx]), hx], .inr ⟨by first | rfl | simp, by rw [← rows_snocF]; first | rfl | simp⟩⟩, by show rest'.length < s.length + 1; omega⟩
                  · refine rg tT [0, 4, 9, 111] ?_
                    refine cd (fun h9 => ?_) (fun h9 => ?_)
                    · refine rg tT [4, 5, 6] ?_
                      refine WI.nnA ?_
                      refine lf ?_
                      try rw [List.take_length]
                      first | (cases hq; rfl) | (rw [hlp, loop_nil] at hq; cases hq; rfl) | (rw [hlp, loop_fail r n _ c s hc40 (by rw [hx])] at hq; cases hq; rfl) | (rw [hlp, loop_end r n _ s c (cN (k := 41) (by decide) (by simpa using h9))] at hq; cases hq; rfl) | (rw [hlp, loop_no r n _ c s (by rintro rfl; simp at h7) (by rintro rfl; simp at h9)] at hq; cases hq; rfl) -- leaf 35
                    · refine WI.dregB tT [4, 5, 6] ?_
                      refine dAG ?_
                      refine dFS ?_
                      refine dFG ?_
                      refine dAG ?_
                      iterate 2 refine dFS ?_
                      refine dN ?_
                      refine nz ?_
                      refine WI.nnA ?_
                      refine lf ?_
                      try rw [List.take_length]
                      first | (cases hq; rfl) | (rw [hlp, loop_nil] at hq; cases hq; rfl) | (rw [hlp, loop_fail r n _ c s hc40 (by rw [hx])] at hq; cases hq; rfl) | (rw [hlp, loop_end r n _ s c (cN (k := 41) (by decide) (by simpa using h9))] at hq; cases hq; rfl) | (rw [hlp, loop_no r n _ c s (by rintro rfl; simp at h7) (by rintro rfl; simp at h9)] at hq; cases hq; rfl) -- leaf 36
                · refine rg tT [0, 1, 4, 9, 85] ?_
                  refine ce (fun h7 => ?_) (fun h7 => ?_)
                  · simp at h7
                  · refine rg tT [0, 4, 9, 111] ?_
                    refine ct (fun h9 => ?_) (fun h9 => ?_)
                    · refine rg tT [4, 5, 6] ?_
                      refine WI.nnA ?_
                      refine WI.freezeA [2] ?_
                      refine WI.pickA [0] ?_
                      refine lf ?_
                      try rw [List.take_length]
                      first | (cases hq; rfl) | (rw [hlp, loop_nil] at hq; cases hq; rfl) | (rw [hlp, loop_fail r n _ c s hc40 (by rw [hx])] at hq; cases hq; rfl) | (rw [hlp, loop_end r n _ s c (cN (k := 41) (by decide) (by simpa using h9))] at hq; cases hq; rfl) | (rw [hlp, loop_no r n _ c s (by rintro rfl; simp at h7) (by rintro rfl; simp at h9)] at hq; cases hq; rfl) -- leaf 37
                    · simp at h9
                · have hb8 : c.toNat < 256 := UInt8.toNat_lt _
                  have hsl : s.length ≤ 899999 := by simp at hls; omega
                  refine rg tT [0, 1, 4, 9, 85] ?_
                  refine cd (fun h7 => ?_) (fun h7 => ?_)
                  · have hc40 : c = 40 := cN (k := 40) (by decide) (by simpa using h7)
                    rcases hx : r (c :: s) with ⟨⟨k1, a1, v1, h1', m1, t1, l1⟩, rest', ok⟩
                    have hr1 := hr (c :: s)
                    rw [hx] at hr1
                    have uu := And.intro uu hx
                    refine rg tT [0, 1, 4, 9, 10, 11, 12] ?_
                    refine rg tT [0, 1, 4, 9, 10, 11, 95] ?_
                    refine cd (fun h8 => ?_) (fun h8 => ?_)
                    · obtain rfl : ok = false := by simpa using h8
                      refine rg tT [4, 5, 6] ?_
                      refine WI.nnA ?_
                      refine WI.freezeA [2] ?_
                      refine WI.pickA [0] ?_
                      refine lf ?_
                      try rw [List.take_length]
                      first | (cases hq; rfl) | (rw [hlp, loop_nil] at hq; cases hq; rfl) | (rw [hlp, loop_fail r n _ c s hc40 (by rw [hx])] at hq; cases hq; rfl) | (rw [hlp, loop_end r n _ s c (cN (k := 41) (by decide) (by simpa using h9))] at hq; cases hq; rfl) | (rw [hlp, loop_no r n _ c s (by rintro rfl; simp at h7) (by rintro rfl; simp at h9)] at hq; cases hq; rfl) -- leaf 38
                    · obtain rfl : ok = true := by simpa using h8
                      have hr2 : rest'.length < s.length + 1 := hr1 rfl
                      have hsn' : s.length + 1 < n + 1 := hsn
                      refine rgp tT [1, 4, 9, 11] ?_
                      refine pPick [0, 1, 2] ?_
                      refine pEnd ?_
                      refine nz ?_
                      refine rg tT [0, 1, 4, 9] ?_
                      exact ⟨by first | exact ⟨rest', [.mk k1 a1 v1 h1' m1 t1 l1], n, by omega, by simp at hls ⊢; omega, by rw [hlp, loop_go _ _ _ _ _ hc40 (by rw [hx]), hx, List.nil_append], .inr ⟨rfl, by rw [rows_oneF]; first | done | rfl⟩⟩ | exact ⟨rest', l' ++ [.mk k1 a1 v1 h1' m1 t1 l1], n, by omega, by simp at hls ⊢; omega, by rw [hlp, loop_go _ _ _ _ _ hc40 (by rw [hx]), hx], .inr ⟨by first | rfl | simp, by rw [← rows_snocF]; first | rfl | simp⟩⟩, by show rest'.length < s.length + 1; omega⟩
                  · refine rg tT [0, 4, 9, 111] ?_
                    refine cd (fun h9 => ?_) (fun h9 => ?_)
                    · refine rg tT [4, 5, 6] ?_
                      refine WI.nnA ?_
                      refine WI.freezeA [2] ?_
                      refine WI.pickA [0] ?_
                      refine lf ?_
                      try rw [List.take_length]
                      first | (cases hq; rfl) | (rw [hlp, loop_nil] at hq; cases hq; rfl) | (rw [hlp, loop_fail r n _ c s hc40 (by rw [hx])] at hq; cases hq; rfl) | (rw [hlp, loop_end r n _ s c (cN (k := 41) (by decide) (by simpa using h9))] at hq; cases hq; rfl) | (rw [hlp, loop_no r n _ c s (by rintro rfl; simp at h7) (by rintro rfl; simp at h9)] at hq; cases hq; rfl) -- leaf 39
                    · refine WI.dregB tT [4, 5, 6] ?_
                      refine dAG ?_
                      refine dFS ?_
                      refine dFG ?_
                      refine dAG ?_
                      iterate 2 refine dFS ?_
                      refine dN ?_
                      refine nz ?_
                      refine WI.nnA ?_
                      refine WI.freezeA [2] ?_
                      refine WI.pickA [0] ?_
                      refine lf ?_
                      try rw [List.take_length]
                      first | (cases hq; rfl) | (rw [hlp, loop_nil] at hq; cases hq; rfl) | (rw [hlp, loop_fail r n _ c s hc40 (by rw [hx])] at hq; cases hq; rfl) | (rw [hlp, loop_end r n _ s c (cN (k := 41) (by decide) (by simpa using h9))] at hq; cases hq; rfl) | (rw [hlp, loop_no r n _ c s (by rintro rfl; simp at h7) (by rintro rfl; simp at h9)] at hq; cases hq; rfl) -- leaf 40
def readR20G : List D → Option (Bool × D)
  | [.x (.str s), .x (.int .i64 20)] => some (decide (s.length ≤ 900000), .tup [fltD (readR 20 s).1, .x (.str (readR 20 s).2.1), .x (.bool (readR 20 s).2.2)])
  | _ => none
theorem readR20G_ok : ∀ args r, readR20G args = some (true, r) → PCalls Tryd.prog 22 args r := by
  intro args r h
  unfold readR20G at h
  split at h
  · rename_i s
    simp only [Option.some.injEq, Prod.mk.injEq, Bool.and_eq_true, decide_eq_true_eq, true_and] at h
    obtain ⟨h1, rfl⟩ := h
    exact (readR_c 20 (by omega) s h1)
  · cases h
end Go.Proofs.YtmlpbojoekmfaaaDoor
end
section
/- Ftext: whether a filter may be: its fields. -/
set_option linter.unusedSimpArgs false
set_option linter.unusedVariables false
namespace Go.Proofs.YtmlpbojoekmfaaaDoor
open Go.RowKit Go.Bo Go.Ab

def noneB (h : Txt) (m : List Txt) (t : Txt) : Bool := decide (h = []) && decide (t = []) && decide (m.length = 0)
def partsB (h : Txt) (m : List Txt) (t : Txt) : Bool := decide (m.length ≤ 16) && !decide ([] ∈ m) && (decide (h ≠ []) || decide (t ≠ []) || decide (m.length > 0))
theorem fnone_c (h : Txt) (m : List Txt) (t : Txt) : PCalls Tryd.prog 110 [.agg [.x (.str h), .x (.sl (rows rStr m)), .x (.str t)]] (.x (.bool (noneB h m t))) := by
  unfold noneB
  refine FCalls.pure (fcallsG (fz := true) G_ok (p := i110) rfl _ (Nat.le_of_ble_eq_true rfl) _ (fun C0 E0 => ?_)) rfl
  dsimp only [i110, qt, qi, qs, qb, qm, qn, qa, qg, argsφ]
  have uu := trivial
  have tT := (noTabs_ok : SsOk Tryd.prog noTabs)
  refine nz ?_
  refine rg tT [1] ?_
  refine rg tT [2] ?_
  refine lf ?_
  congr 2; rw [Bool.eq_iff_iff]; simp -- leaf 0
def fnoneG : List D → Option (Bool × D)
  | [.agg [.x (.str hd), .x (.sl M), .x (.str t)]] => (unrows rStr M).bind fun m => some (true, .x (.bool (noneB hd m t)))
  | _ => none
theorem fnoneG_ok : ∀ args r, fnoneG args = some (true, r) → PCalls Tryd.prog 110 args r := by
  intro args r h
  unfold fnoneG at h
  split at h
  · rename_i hd M t
    obtain ⟨m, hr0, h⟩ := Option.bind_eq_some_iff.1 h
    simp only [Option.some.injEq, Prod.mk.injEq, Bool.and_eq_true, decide_eq_true_eq, true_and] at h
    obtain rfl := h
    rw [← rows_unrows good_rStr hr0]
    exact (fnone_c hd m t)
  · cases h
def tabFxA : Tabs := addQ (noTabs) 120 contG
theorem tabFxA_ok : SsOk Tryd.prog tabFxA := addQ_ok (noTabs_ok) cont_enters contG_ok
theorem tabFxA_q120 (a : List D) : tabFxA.q 120 a = contG a := rfl
theorem tabFxA_r (f : FuncId) (a : List D) (o : List Ob) : tabFxA.r f a o = none := rfl
theorem tabFxA_k (f : FuncId) (a : List D) (o : List Ob) : tabFxA.k f a o = none := rfl
theorem fparts_c (h : Txt) (m : List Txt) (t : Txt) : PCalls Tryd.prog 111 [.agg [.x (.str h), .x (.sl (rows rStr m)), .x (.str t)]] (.x (.bool (partsB h m t))) := by
  unfold partsB
  refine PCalls.wfA (fun hw => ?_)
  have hl : m.length ≤ maxLen := by have := (hw 0 1 _ rfl).1; rwa [rows_len] at this
  clear hw
  simp only [maxLen] at hl
  refine FCalls.pure (fcallsG (fz := true) G_ok (p := i111) rfl _ (Nat.le_of_ble_eq_true rfl) _ (fun C0 E0 => ?_)) rfl
  dsimp only [i111, qt, qi, qs, qb, qm, qn, qa, qg, argsφ]
  have uu := And.intro @contG.eq_1 (And.intro @contG.eq_2 (And.intro @un_T (And.intro @tabFxA_r (And.intro @tabFxA_k (@tabFxA_q120)))))
  have tT := tabFxA_ok
  refine nz ?_
  refine WI.regB tT [1] ?_
  refine oG ?_
  refine oS ?_
  refine oN ?_
  refine nz ?_
  refine WI.regB tT [2] ?_
  refine oS ?_
  iterate 3 refine oG (hok := by first | exact sd | (by_cases hm : m.length ≤ 16 <;> by_cases h1 : h = [] <;> by_cases h2 : t = [] <;> by_cases h3 : [] ∈ m <;> simp [hm, h1, h2, h3] <;> omega)) ?_
  refine oS ?_
  iterate 2 refine oG (hok := by first | exact sd | (by_cases hm : m.length ≤ 16 <;> by_cases h1 : h = [] <;> by_cases h2 : t = [] <;> by_cases h3 : [] ∈ m <;> simp [hm, h1, h2, h3] <;> omega)) ?_
  refine oC (hok := by first | exact sd | (by_cases hm : m.length ≤ 16 <;> by_cases h1 : h = [] <;> by_cases h2 : t = [] <;> by_cases h3 : [] ∈ m <;> simp [hm, h1, h2, h3] <;> omega)) ?_
  iterate 2 refine oG (hok := by first | exact sd | (by_cases hm : m.length ≤ 16 <;> by_cases h1 : h = [] <;> by_cases h2 : t = [] <;> by_cases h3 : [] ∈ m <;> simp [hm, h1, h2, h3] <;> omega)) ?_
  refine oS ?_
  iterate 15 refine oG (hok := by first | exact sd | (by_cases hm : m.length ≤ 16 <;> by_cases h1 : h = [] <;> by_cases h2 : t = [] <;> by_cases h3 : [] ∈ m <;> simp [hm, h1, h2, h3] <;> omega)) ?_
  refine oS ?_
  refine oN ?_
  refine nz ?_
  refine lf ?_
  congr 2; rw [Bool.eq_iff_iff]; by_cases h1 : m.length ≤ 16 <;> by_cases h2 : [] ∈ m <;> by_cases h3 : h = [] <;> by_cases h4 : t = [] <;> by_cases h5 : m = [] <;> simp [h1, h2, h3, h4, h5, List.length_pos_iff] <;> first | omega -- leaf 0
def fpartsG : List D → Option (Bool × D)
  | [.agg [.x (.str hd), .x (.sl M), .x (.str t)]] => (unrows rStr M).bind fun m => some (true, .x (.bool (partsB hd m t)))
  | _ => none
theorem fpartsG_ok : ∀ args r, fpartsG args = some (true, r) → PCalls Tryd.prog 111 args r := by
  intro args r h
  unfold fpartsG at h
  split at h
  · rename_i hd M t
    obtain ⟨m, hr0, h⟩ := Option.bind_eq_some_iff.1 h
    simp only [Option.some.injEq, Prod.mk.injEq, Bool.and_eq_true, decide_eq_true_eq, true_and] at h
    obtain rfl := h
    rw [← rows_unrows good_rStr hr0]
    exact (fparts_c hd m t)
  · cases h
def fitsB (k : Int) (a v h : Txt) (m : List Txt) (t : Txt) (n : Nat) : Bool :=
  if k = 0 ∨ k = 1 ∨ k = 2 then decide (a = []) && decide (v = []) && noneB h m t && (decide (k ≠ 2) || decide (n = 1))
  else if k = 4 then decide (n = 0) && decide (v = []) && partsB h m t
  else if k = 7 then decide (n = 0) && decide (v = []) && noneB h m t
  else decide (n = 0) && noneB h m t
def tabFxB : Tabs := addQ (addQ (noTabs) 110 fnoneG) 111 fpartsG
theorem tabFxB_ok : SsOk Tryd.prog tabFxB := addQ_ok (addQ_ok (noTabs_ok) (G_enters G_ok (p := i110) rfl) fnoneG_ok) (G_enters G_ok (p := i111) rfl) fpartsG_ok
theorem tabFxB_q110 (a : List D) : tabFxB.q 110 a = fnoneG a := rfl
theorem tabFxB_q111 (a : List D) : tabFxB.q 111 a = fpartsG a := rfl
theorem tabFxB_r (f : FuncId) (a : List D) (o : List Ob) : tabFxB.r f a o = none := rfl
theorem tabFxB_k (f : FuncId) (a : List D) (o : List Ob) : tabFxB.k f a o = none := rfl
theorem fits_c (k : Int) (a v h : Txt) (m : List Txt) (t : Txt) (l : List Flt) : PCalls Tryd.prog 90 [.agg [.x (.int .i64 k), .x (.str a), .x (.str v), .x (.str h), .x (.sl (rows rStr m)), .x (.str t), .x (.sl (rows rFlt l))]] (.x (.bool (fitsB k a v h m t l.length))) := by
  unfold fitsB
  refine FCalls.pure (fcallsG (fz := true) G_ok (p := i90) rfl _ (Nat.le_of_ble_eq_true rfl) _ (fun C0 E0 => ?_)) rfl
  dsimp only [i90, qt, qi, qs, qb, qm, qn, qa, qg, argsφ]
  have uu := And.intro @fnoneG.eq_1 (And.intro @fnoneG.eq_2 (And.intro @fpartsG.eq_1 (And.intro @fpartsG.eq_2 (And.intro @un_T (And.intro @tabFxB_r (And.intro @tabFxB_k (And.intro @tabFxB_q110 (@tabFxB_q111))))))))
  have tT := tabFxB_ok
  refine nz ?_
  obtain rfl | rfl | rfl | rfl | rfl | hk : k = 0 ∨ k = 1 ∨ k = 2 ∨ k = 4 ∨ k = 7 ∨ (k ≠ 0 ∧ k ≠ 1 ∧ k ≠ 2 ∧ k ≠ 4 ∧ k ≠ 7) := by omega
  · refine WI.regB tT [1] ?_
    refine oG ?_
    refine oS ?_
    refine oN ?_
    refine nz ?_
    refine WI.regB tT [1, 4] ?_
    refine oS ?_
    refine oG (hok := by first | exact sd | (by_cases h1 : a = [] <;> by_cases h2 : v = [] <;> cases h3 : noneB h m t <;> simp [h1, h2])) ?_
    refine oN ?_
    refine nz ?_
    refine WI.regB tT [1, 4, 5] ?_
    refine oG (hok := by first | exact sd | (by_cases h1 : a = [] <;> by_cases h2 : v = [] <;> cases h3 : noneB h m t <;> simp [h1, h2])) ?_
    refine oS ?_
    refine oN ?_
    refine nz ?_
    refine ct (fun h0 => ?_) (fun h0 => ?_)
    · refine ct (fun h2 => ?_) (fun h2 => ?_)
      · refine WI.regB tT [2] ?_
        refine oS ?_
        iterate 2 refine oG (hok := by first | exact sd | (by_cases h1 : a = [] <;> by_cases h2 : v = [] <;> cases h3 : noneB h m t <;> simp [h1, h2])) ?_
        refine oS ?_
        iterate 4 refine oG (hok := by first | exact sd | (by_cases h1 : a = [] <;> by_cases h2 : v = [] <;> cases h3 : noneB h m t <;> simp [h1, h2])) ?_
        refine oS ?_
        iterate 2 refine oG (hok := by first | exact sd | (by_cases h1 : a = [] <;> by_cases h2 : v = [] <;> cases h3 : noneB h m t <;> simp [h1, h2])) ?_
        refine oC (hok := by first | exact sd | (by_cases h1 : a = [] <;> by_cases h2 : v = [] <;> cases h3 : noneB h m t <;> simp [h1, h2])) ?_
        refine oG (hok := by first | exact sd | (by_cases h1 : a = [] <;> by_cases h2 : v = [] <;> cases h3 : noneB h m t <;> simp [h1, h2])) ?_
        refine oS ?_
        iterate 10 refine oG (hok := by first | exact sd | (by_cases h1 : a = [] <;> by_cases h2 : v = [] <;> cases h3 : noneB h m t <;> simp [h1, h2])) ?_
        refine oS ?_
        refine oN ?_
        refine nz ?_
        refine lf ?_
        congr 2; rw [Bool.eq_iff_iff]; simp_all <;> (intros; omega) -- leaf 0
      · simp at h2
    · simp at h0
  · refine WI.regB tT [1] ?_
    refine oG ?_
    refine oS ?_
    refine oN ?_
    refine nz ?_
    refine WI.regB tT [1, 4] ?_
    refine oS ?_
    refine oG (hok := by first | exact sd | (by_cases h1 : a = [] <;> by_cases h2 : v = [] <;> cases h3 : noneB h m t <;> simp [h1, h2])) ?_
    refine oN ?_
    refine nz ?_
    refine WI.regB tT [1, 4, 5] ?_
    refine oG (hok := by first | exact sd | (by_cases h1 : a = [] <;> by_cases h2 : v = [] <;> cases h3 : noneB h m t <;> simp [h1, h2])) ?_
    refine oS ?_
    refine oN ?_
    refine nz ?_
    refine ce (fun h0 => ?_) (fun h0 => ?_)
    · simp at h0
    · refine WI.regB tT [1, 4, 5] ?_
      refine oG (hok := by first | exact sd | (by_cases h1 : a = [] <;> by_cases h2 : v = [] <;> cases h3 : noneB h m t <;> simp [h1, h2])) ?_
      refine oS ?_
      refine oN ?_
      refine nz ?_
      refine ct (fun h1 => ?_) (fun h1 => ?_)
      · refine ct (fun h2 => ?_) (fun h2 => ?_)
        · refine WI.regB tT [2] ?_
          refine oS ?_
          iterate 2 refine oG (hok := by first | exact sd | (by_cases h1 : a = [] <;> by_cases h2 : v = [] <;> cases h3 : noneB h m t <;> simp [h1, h2])) ?_
          refine oS ?_
          iterate 4 refine oG (hok := by first | exact sd | (by_cases h1 : a = [] <;> by_cases h2 : v = [] <;> cases h3 : noneB h m t <;> simp [h1, h2])) ?_
          refine oS ?_
          iterate 2 refine oG (hok := by first | exact sd | (by_cases h1 : a = [] <;> by_cases h2 : v = [] <;> cases h3 : noneB h m t <;> simp [h1, h2])) ?_
          refine oC (hok := by first | exact sd | (by_cases h1 : a = [] <;> by_cases h2 : v = [] <;> cases h3 : noneB h m t <;> simp [h1, h2])) ?_
          refine oG (hok := by first | exact sd | (by_cases h1 : a = [] <;> by_cases h2 : v = [] <;> cases h3 : noneB h m t <;> simp [h1, h2])) ?_
          refine oS ?_
          iterate 10 refine oG (hok := by first | exact sd | (by_cases h1 : a = [] <;> by_cases h2 : v = [] <;> cases h3 : noneB h m t <;> simp [h1, h2])) ?_
          refine oS ?_
          refine oN ?_
          refine nz ?_
          refine lf ?_
          congr 2; rw [Bool.eq_iff_iff]; simp_all <;> (intros; omega) -- leaf 1
        · simp at h2
      · simp at h1
  · refine WI.regB tT [1] ?_
    refine oG ?_
    refine oS ?_
    refine oN ?_
    refine nz ?_
    refine WI.regB tT [1, 4] ?_
    refine oS ?_
    refine oG (hok := by first | exact sd | (by_cases h1 : a = [] <;> by_cases h2 : v = [] <;> cases h3 : noneB h m t <;> simp [h1, h2])) ?_
    refine oN ?_
    refine nz ?_
    refine WI.regB tT [1, 4, 5] ?_
    refine oG (hok := by first | exact sd | (by_cases h1 : a = [] <;> by_cases h2 : v = [] <;> cases h3 : noneB h m t <;> simp [h1, h2])) ?_
    refine oS ?_
    refine oN ?_
    refine nz ?_
    refine ce (fun h0 => ?_) (fun h0 => ?_)
    · simp at h0
    · refine WI.regB tT [1, 4, 5] ?_
      refine oG (hok := by first | exact sd | (by_cases h1 : a = [] <;> by_cases h2 : v = [] <;> cases h3 : noneB h m t <;> simp [h1, h2])) ?_
      refine oS ?_
      refine oN ?_
      refine nz ?_
      refine ce (fun h1 => ?_) (fun h1 => ?_)
      · simp at h1
      · refine WI.regB tT [1, 4, 5] ?_
        refine oG (hok := by first | exact sd | (by_cases h1 : a = [] <;> by_cases h2 : v = [] <;> cases h3 : noneB h m t <;> simp [h1, h2])) ?_
        refine oS ?_
        refine oN ?_
        refine nz ?_
        refine ct (fun h2 => ?_) (fun h2 => ?_)
        · refine WI.regB tT [2] ?_
          refine oS ?_
          iterate 2 refine oG (hok := by first | exact sd | (by_cases h1 : a = [] <;> by_cases h2 : v = [] <;> cases h3 : noneB h m t <;> simp [h1, h2])) ?_
          refine oS ?_
          iterate 4 refine oG (hok := by first | exact sd | (by_cases h1 : a = [] <;> by_cases h2 : v = [] <;> cases h3 : noneB h m t <;> simp [h1, h2])) ?_
          refine oS ?_
          iterate 2 refine oG (hok := by first | exact sd | (by_cases h1 : a = [] <;> by_cases h2 : v = [] <;> cases h3 : noneB h m t <;> simp [h1, h2])) ?_
          refine oC (hok := by first | exact sd | (by_cases h1 : a = [] <;> by_cases h2 : v = [] <;> cases h3 : noneB h m t <;> simp [h1, h2])) ?_
          refine oG (hok := by first | exact sd | (by_cases h1 : a = [] <;> by_cases h2 : v = [] <;> cases h3 : noneB h m t <;> simp [h1, h2])) ?_
          refine oS ?_
          iterate 10 refine oG (hok := by first | exact sd | (by_cases h1 : a = [] <;> by_cases h2 : v = [] <;> cases h3 : noneB h m t <;> simp [h1, h2])) ?_
          refine oS ?_
          refine oN ?_
          refine nz ?_
          refine lf ?_
          congr 2; rw [Bool.eq_iff_iff]; simp_all <;> (intros; omega) -- leaf 2
        · simp at h2
  · refine WI.regB tT [1] ?_
    refine oG ?_
    refine oS ?_
    refine oN ?_
    refine nz ?_
    refine WI.regB tT [1, 4] ?_
    refine oS ?_
    refine oG (hok := by first | exact sd | (by_cases h1 : a = [] <;> by_cases h2 : v = [] <;> cases h3 : noneB h m t <;> simp [h1, h2])) ?_
    refine oN ?_
    refine nz ?_
    refine WI.regB tT [1, 4, 5] ?_
    refine oG (hok := by first | exact sd | (by_cases h1 : a = [] <;> by_cases h2 : v = [] <;> cases h3 : noneB h m t <;> simp [h1, h2])) ?_
    refine oS ?_
    refine oN ?_
    refine nz ?_
    refine ce (fun h0 => ?_) (fun h0 => ?_)
    · simp at h0
    · refine WI.regB tT [1, 4, 5] ?_
      refine oG (hok := by first | exact sd | (by_cases h1 : a = [] <;> by_cases h2 : v = [] <;> cases h3 : noneB h m t <;> simp [h1, h2])) ?_
      refine oS ?_
      refine oN ?_
      refine nz ?_
      refine ce (fun h1 => ?_) (fun h1 => ?_)
      · simp at h1
      · refine WI.regB tT [1, 4, 5] ?_
        refine oG (hok := by first | exact sd | (by_cases h1 : a = [] <;> by_cases h2 : v = [] <;> cases h3 : noneB h m t <;> simp [h1, h2])) ?_
        refine oS ?_
        refine oN ?_
        refine nz ?_
        refine ce (fun h2 => ?_) (fun h2 => ?_)
        · simp at h2
        · refine WI.regB tT [1, 4, 33] ?_
          refine oG (hok := by first | exact sd | (by_cases h1 : a = [] <;> by_cases h2 : v = [] <;> cases h3 : noneB h m t <;> simp [h1, h2])) ?_
          refine oS ?_
          refine oN ?_
          refine nz ?_
          refine ct (fun h3 => ?_) (fun h3 => ?_)
          · refine WI.regB tT [2] ?_
            refine oS ?_
            iterate 3 refine oG (hok := by first | exact sd | (by_cases h1 : a = [] <;> by_cases h2 : v = [] <;> cases h3 : noneB h m t <;> simp [h1, h2])) ?_
            refine oS ?_
            iterate 4 refine oG (hok := by first | exact sd | (by_cases h1 : a = [] <;> by_cases h2 : v = [] <;> cases h3 : noneB h m t <;> simp [h1, h2])) ?_
            refine oS ?_
            iterate 2 refine oG (hok := by first | exact sd | (by_cases h1 : a = [] <;> by_cases h2 : v = [] <;> cases h3 : noneB h m t <;> simp [h1, h2])) ?_
            refine oC (hok := by first | exact sd | (by_cases h1 : a = [] <;> by_cases h2 : v = [] <;> cases h3 : noneB h m t <;> simp [h1, h2])) ?_
            refine oG (hok := by first | exact sd | (by_cases h1 : a = [] <;> by_cases h2 : v = [] <;> cases h3 : noneB h m t <;> simp [h1, h2])) ?_
            refine oS ?_
            refine oN ?_
            refine nz ?_
            refine lf ?_
            congr 2; rw [Bool.eq_iff_iff]; simp_all <;> (intros; omega) -- leaf 3
          · simp at h3
  · refine WI.regB tT [1] ?_
    refine oG ?_
    refine oS ?_
    refine oN ?_
    refine nz ?_
    refine WI.regB tT [1, 4] ?_
    refine oS ?_
    refine oG (hok := by first | exact sd | (by_cases h1 : a = [] <;> by_cases h2 : v = [] <;> cases h3 : noneB h m t <;> simp [h1, h2])) ?_
    refine oN ?_
    refine nz ?_
    refine WI.regB tT [1, 4, 5] ?_
    refine oG (hok := by first | exact sd | (by_cases h1 : a = [] <;> by_cases h2 : v = [] <;> cases h3 : noneB h m t <;> simp [h1, h2])) ?_
    refine oS ?_
    refine oN ?_
    refine nz ?_
    refine ce (fun h0 => ?_) (fun h0 => ?_)
    · simp at h0
    · refine WI.regB tT [1, 4, 5] ?_
      refine oG (hok := by first | exact sd | (by_cases h1 : a = [] <;> by_cases h2 : v = [] <;> cases h3 : noneB h m t <;> simp [h1, h2])) ?_
      refine oS ?_
      refine oN ?_
      refine nz ?_
      refine ce (fun h1 => ?_) (fun h1 => ?_)
      · simp at h1
      · refine WI.regB tT [1, 4, 5] ?_
        refine oG (hok := by first | exact sd | (by_cases h1 : a = [] <;> by_cases h2 : v = [] <;> cases h3 : noneB h m t <;> simp [h1, h2])) ?_
        refine oS ?_
        refine oN ?_
        refine nz ?_
        refine ce (fun h2 => ?_) (fun h2 => ?_)
        · simp at h2
        · refine WI.regB tT [1, 4, 33] ?_
          refine oG (hok := by first | exact sd | (by_cases h1 : a = [] <;> by_cases h2 : v = [] <;> cases h3 : noneB h m t <;> simp [h1, h2])) ?_
          refine oS ?_
          refine oN ?_
          refine nz ?_
          refine ce (fun h3 => ?_) (fun h3 => ?_)
          · simp at h3
          · refine WI.regB tT [1, 49] ?_
            refine oG (hok := by first | exact sd | (by_cases h1 : a = [] <;> by_cases h2 : v = [] <;> cases h3 : noneB h m t <;> simp [h1, h2])) ?_
            refine oS ?_
            refine oN ?_
            refine nz ?_
            refine ct (fun h4 => ?_) (fun h4 => ?_)
            · refine WI.regB tT [2] ?_
              refine oS ?_
              iterate 3 refine oG (hok := by first | exact sd | (by_cases h1 : a = [] <;> by_cases h2 : v = [] <;> cases h3 : noneB h m t <;> simp [h1, h2])) ?_
              refine oS ?_
              iterate 4 refine oG (hok := by first | exact sd | (by_cases h1 : a = [] <;> by_cases h2 : v = [] <;> cases h3 : noneB h m t <;> simp [h1, h2])) ?_
              refine oS ?_
              iterate 2 refine oG (hok := by first | exact sd | (by_cases h1 : a = [] <;> by_cases h2 : v = [] <;> cases h3 : noneB h m t <;> simp [h1, h2])) ?_
              refine oC (hok := by first | exact sd | (by_cases h1 : a = [] <;> by_cases h2 : v = [] <;> cases h3 : noneB h m t <;> simp [h1, h2])) ?_
              refine oG (hok := by first | exact sd | (by_cases h1 : a = [] <;> by_cases h2 : v = [] <;> cases h3 : noneB h m t <;> simp [h1, h2])) ?_
              refine oS ?_
              refine oN ?_
              refine nz ?_
              refine lf ?_
              congr 2; rw [Bool.eq_iff_iff]; simp_all <;> (intros; omega) -- leaf 4
            · simp at h4
  · refine WI.regB tT [1] ?_
    refine oG ?_
    refine oS ?_
    refine oN ?_
    refine nz ?_
    refine WI.regB tT [1, 4] ?_
    refine oS ?_
    refine oG (hok := by first | exact sd | (by_cases h1 : a = [] <;> by_cases h2 : v = [] <;> cases h3 : noneB h m t <;> simp [h1, h2])) ?_
    refine oN ?_
    refine nz ?_
    refine WI.regB tT [1, 4, 5] ?_
    refine oG (hok := by first | exact sd | (by_cases h1 : a = [] <;> by_cases h2 : v = [] <;> cases h3 : noneB h m t <;> simp [h1, h2])) ?_
    refine oS ?_
    refine oN ?_
    refine nz ?_
    refine ce (fun h0 => ?_) (fun h0 => ?_)
    · simp at h0; omega
    · refine WI.regB tT [1, 4, 5] ?_
      refine oG (hok := by first | exact sd | (by_cases h1 : a = [] <;> by_cases h2 : v = [] <;> cases h3 : noneB h m t <;> simp [h1, h2])) ?_
      refine oS ?_
      refine oN ?_
      refine nz ?_
      refine ce (fun h1 => ?_) (fun h1 => ?_)
      · simp at h1; omega
      · refine WI.regB tT [1, 4, 5] ?_
        refine oG (hok := by first | exact sd | (by_cases h1 : a = [] <;> by_cases h2 : v = [] <;> cases h3 : noneB h m t <;> simp [h1, h2])) ?_
        refine oS ?_
        refine oN ?_
        refine nz ?_
        refine ce (fun h2 => ?_) (fun h2 => ?_)
        · simp at h2; omega
        · refine WI.regB tT [1, 4, 33] ?_
          refine oG (hok := by first | exact sd | (by_cases h1 : a = [] <;> by_cases h2 : v = [] <;> cases h3 : noneB h m t <;> simp [h1, h2])) ?_
          refine oS ?_
          refine oN ?_
          refine nz ?_
          refine ce (fun h3 => ?_) (fun h3 => ?_)
          · simp at h3; omega
          · refine WI.regB tT [1, 49] ?_
            refine oG (hok := by first | exact sd | (by_cases h1 : a = [] <;> by_cases h2 : v = [] <;> cases h3 : noneB h m t <;> simp [h1, h2])) ?_
            refine oS ?_
            refine oN ?_
            refine nz ?_
            refine ce (fun h4 => ?_) (fun h4 => ?_)
            · simp at h4; omega
            · refine WI.regB tT [2] ?_
              refine oS ?_
              iterate 3 refine oG (hok := by first | exact sd | (by_cases h1 : a = [] <;> by_cases h2 : v = [] <;> cases h3 : noneB h m t <;> simp [h1, h2])) ?_
              refine oS ?_
              iterate 2 refine oG (hok := by first | exact sd | (by_cases h1 : a = [] <;> by_cases h2 : v = [] <;> cases h3 : noneB h m t <;> simp [h1, h2])) ?_
              refine oC (hok := by first | exact sd | (by_cases h1 : a = [] <;> by_cases h2 : v = [] <;> cases h3 : noneB h m t <;> simp [h1, h2])) ?_
              refine oG (hok := by first | exact sd | (by_cases h1 : a = [] <;> by_cases h2 : v = [] <;> cases h3 : noneB h m t <;> simp [h1, h2])) ?_
              refine oS ?_
              refine oN ?_
              refine nz ?_
              refine lf ?_
              congr 2; rw [Bool.eq_iff_iff]; simp_all <;> (intros; omega) -- leaf 5
end Go.Proofs.YtmlpbojoekmfaaaDoor
end
section
/- Ftext: whether a filter may be: one by itself. -/
set_option linter.unusedSimpArgs false
set_option linter.unusedVariables false
namespace Go.Proofs.YtmlpbojoekmfaaaDoor
open Go.RowKit Go.Bo Go.Ab

theorem textsL_c (h : Txt) (m : List Txt) (t : Txt) (hm : m.length ≤ 1000000) : MCalls Tryd.prog 92 [.agg [.x (.str h), .x (.sl (rows rStr m)), .x (.str t)]] [] (.ref 0 (m.length + 2) 0 (m.length + 2)) [.rows false 9 1 (rows rStr (h :: t :: m))] := by
  refine FCalls.mcalls (fcallsG (fz := false) G_ok (p := i92) rfl _ (Nat.le_of_ble_eq_true rfl) _ (fun C0 E0 => ?_))
  dsimp only [i92, qt, qi, qs, qb, qm, qn, qa, qg, argsφ]
  have uu := trivial
  have tT := (noTabs_ok : SsOk Tryd.prog noTabs)
  refine nz ?_
  refine rg tT [1] ?_
  refine rg tT [2] ?_
  refine WI.pickA [1] ?_
  refine lf ?_
  rw [Nat.add_comm 2]; exact And.intro rfl rfl -- leaf 0
def textsLK : List D → List Ob → Option (Bool × D × Ob)
  | [.agg [.x (.str h), .x (.sl M), .x (.str t)]], [] => (unrows rStr M).bind fun m => some (decide (m.length ≤ 1000000), .ref 0 (m.length + 2) 0 (m.length + 2), .rows false 9 1 (rows rStr (h :: t :: m)))
  | _, _ => none
theorem textsLK_ok : ∀ args os r ob, textsLK args os = some (true, r, ob) → (∃ fz e sz rs, ob = .rows fz e sz rs) ∧ MCalls Tryd.prog 92 args os r (os ++ [ob]) := by
  intro args os r ob h
  unfold textsLK at h
  split at h
  · obtain ⟨m, hr, h⟩ := Option.bind_eq_some_iff.1 h
    simp only [Option.some.injEq, Prod.mk.injEq, decide_eq_true_eq] at h
    obtain ⟨h1, rfl, rfl⟩ := h
    rw [← rows_unrows good_rStr hr]
    exact ⟨⟨_, _, _, _, rfl⟩, textsL_c _ _ _ h1⟩
  · cases h
def fitsG : List D → Option (Bool × D)
  | [.agg [.x (.int .i64 k), .x (.str a), .x (.str v), .x (.str hd), .x (.sl M), .x (.str t), .x (.sl L)]] => (unrows rStr M).bind fun m => (unrows rFlt L).bind fun l => some (true, .x (.bool (fitsB k a v hd m t l.length)))
  | _ => none
theorem fitsG_ok : ∀ args r, fitsG args = some (true, r) → PCalls Tryd.prog 90 args r := by
  intro args r h
  unfold fitsG at h
  split at h
  · rename_i k a v hd M t L
    obtain ⟨m, hr0, h⟩ := Option.bind_eq_some_iff.1 h
    obtain ⟨l, hr1, h⟩ := Option.bind_eq_some_iff.1 h
    simp only [Option.some.injEq, Prod.mk.injEq, Bool.and_eq_true, decide_eq_true_eq, true_and] at h
    obtain rfl := h
    rw [← rows_unrows good_rStr hr0]
    rw [← rows_unrows good_rFlt hr1]
    exact (fits_c k a v hd m t l)
  · cases h
def tabFxC : Tabs := addK (addQ (addQ (noTabs) 90 fitsG) 91 typedG) 92 textsLK
theorem tabFxC_ok : SsOk Tryd.prog tabFxC := addK_ok (addQ_ok (addQ_ok (noTabs_ok) (G_enters G_ok (p := i90) rfl) fitsG_ok) (G_enters G_ok (p := i91) rfl) typedG_ok) (G_enters G_ok (p := i92) rfl) textsLK_ok
theorem tabFxC_q90 (a : List D) : tabFxC.q 90 a = fitsG a := rfl
theorem tabFxC_q91 (a : List D) : tabFxC.q 91 a = typedG a := rfl
theorem tabFxC_q92 (a : List D) : tabFxC.q 92 a = none := rfl
theorem tabFxC_t92 (a : List D) (o : List Ob) : tabFxC.t 92 a o = liftT (fun args os => (textsLK args os).map fun q => (q.1, q.2.1, os ++ [q.2.2])) a o := rfl
theorem tabFxC_k92 (a : List D) (o : List Ob) : tabFxC.k 92 a o = newT textsLK a o := rfl
theorem tabFxC_r (f : FuncId) (a : List D) (o : List Ob) : tabFxC.r f a o = none := rfl
def lensB (v h t : Txt) (m : List Txt) : Prop := ∃ s ∈ (h :: t :: m) ++ [v], s.length > 1024
instance (v h t : Txt) (m : List Txt) : Decidable (lensB v h t m) := by unfold lensB; infer_instance
def oneF (k : Int) (a v h : Txt) (m : List Txt) (t : Txt) (n : Nat) : Int :=
  if k < 0 ∨ k > 8 then 1 else if n > 64 then 3 else if fitsB k a v h m t n = false then 5 else if k > 2 ∧ typB a = false then 13 else if lensB v h t m then 3 else 0
theorem rows_snocB (l : List Txt) (x : Txt) : rows rStr l ++ [[X.str x]] = rows rStr (l ++ [x]) := by simp [rows, rStr]
theorem fits_m (k : Int) (a v h : Txt) (m : List Txt) (t : Txt) (n : Nat) (e : fitsB k a v h m t n = true) : m.length ≤ 16 := by
  unfold fitsB noneB partsB at e
  split at e
  · simp at e; have := e.1.2.2; simp [this]
  · split at e
    · simp at e; omega
    · split at e
      · simp at e; simp [e.2.2]
      · simp at e; simp [e.2.2]
theorem one_c (k : Int) (a v h : Txt) (m : List Txt) (t : Txt) (l : List Flt) (ha : a.length ≤ 1000000) : PCalls Tryd.prog 67 [.agg [.x (.int .i64 k), .x (.str a), .x (.str v), .x (.str h), .x (.sl (rows rStr m)), .x (.str t), .x (.sl (rows rFlt l))]] (.x (.int .i64 (oneF k a v h m t l.length))) := by
  unfold oneF
  refine FCalls.pure (fcallsG (fz := true) G_ok (p := i67) rfl _ (Nat.le_of_ble_eq_true rfl) _ (fun C0 E0 => ?_)) rfl
  dsimp only [i67, qt, qi, qs, qb, qm, qn, qa, qg, argsφ]
  have uu := And.intro @fitsG.eq_1 (And.intro @fitsG.eq_2 (And.intro @typedG.eq_1 (And.intro @typedG.eq_2 (And.intro @un_T (And.intro @un_F (And.intro @textsLK.eq_1 (And.intro @textsLK.eq_2 (And.intro @tabFxC_r (And.intro @tabFxC_k92 (And.intro @tabFxC_q90 (And.intro @tabFxC_q91 (And.intro @tabFxC_q92 (@tabFxC_t92)))))))))))))
  have tT := tabFxC_ok
  refine nz ?_
  refine rg tT [1] ?_
  refine rg tT [1, 5] ?_
  refine cd (fun h0 => ?_) (fun h0 => ?_)
  · refine rg tT [2] ?_
    refine lf ?_
    clear uu; congr 2; grind -- leaf 0
  · refine rg tT [1, 14] ?_
    refine cd (fun h1 => ?_) (fun h1 => ?_)
    · refine rg tT [2] ?_
      refine lf ?_
      clear uu; congr 2; grind -- leaf 1
    · refine rg tT [1, 19] ?_
      refine cd (fun h2 => ?_) (fun h2 => ?_)
      · refine rg tT [2] ?_
        refine lf ?_
        clear uu; congr 2; grind -- leaf 2
      · have hm16 := fits_m k a v h m t l.length (by simpa using h2)
        refine rg tT [1, 23] ?_
        refine cd (fun h3 => ?_) (fun h3 => ?_)
        · refine rg tT [2] ?_
          refine lf ?_
          clear uu; congr 2; grind -- leaf 3
        · refine WI.post ?_
          refine WI.dregB tT [39, 40, 41] ?_
          refine dFS ?_
          refine dQG (hok := by first | exact sd | (exact decide_eq_true (by omega)) | (simp [rows]; done)) ?_
          refine dKC (hok := by first | exact sd | (exact decide_eq_true (by omega)) | (simp [rows]; done)) ?_
          refine dFS ?_
          refine dQG (hok := by first | exact sd | (exact decide_eq_true (by omega)) | (simp [rows]; done)) ?_
          refine dKG (hok := by first | exact sd | (exact decide_eq_true (by omega)) | (simp [rows]; done)) ?_
          iterate 2 refine dAG (hok := by first | exact sd | (exact decide_eq_true (by omega)) | (simp [rows]; done)) ?_
          refine dFS ?_
          refine dP ?_
          refine pPick [0, 1] ?_
          refine pEnd ?_
          refine nz ?_
          rw [rows_snocB, show m.length + 2 + 1 = (h :: t :: m ++ [v]).length by simp]
          have hL : lensB v h t m ↔ ∃ s ∈ (h :: t :: m ++ [v]), s.length > 1024 := Iff.rfl
          have hql : (h :: t :: m ++ [v]).length ≤ 100 := by simp; omega
          generalize h :: t :: m ++ [v] = q at hL hql ⊢
          refine WI.loop (fun φ os => ∃ (j : Nat), φ = [(39, .ref 1 q.length 0 q.length), (40, .x (.int .i64 q.length)), (41, .x (.int .i64 j))] ∧ os = [.box [.x (.int .i64 k), .x (.str a), .x (.str v), .x (.str h), .x (.sl (rows rStr m)), .x (.str t), .x (.sl (rows rFlt l))], .rows false 9 1 (rows rStr q)] ∧ j ≤ q.length ∧ (∀ s ∈ q.take j, ¬ s.length > 1024)) (down q.length 41) ?_ (fun φ os hI => ?_)
          · exact ⟨0, rfl, rfl, by omega, by simp⟩
          · obtain ⟨j, rfl, rfl, hj, hall⟩ := hI
            refine nz ?_
            refine rg tT [39, 40, 41, 42] ?_
            refine cd (fun h4 => ?_) (fun h4 => ?_)
            · have hj4 : j < q.length := by omega
              refine rg tT [4, 39, 40, 41] ?_
              refine rg tT [39, 40, 41, 47] ?_
              refine cd (fun h5 => ?_) (fun h5 => ?_)
              · refine rg tT [2] ?_
                refine lf ?_
                have hy : lensB v h t m := hL.2 ⟨q[j], List.getElem_mem hj4, by omega⟩
                clear uu; congr 2; grind -- leaf 4
              · refine rg tT [39, 40, 41] ?_
                exact ⟨⟨j + 1, rfl, rfl, by omega, by rw [List.take_succ_eq_append_getElem hj4]; intro s hs; rcases List.mem_append.1 hs with hs | hs; exact hall s hs; rw [List.mem_singleton] at hs; subst hs; omega⟩, by simp [down, Ab.get, D.val, intOf?]; omega⟩
            · refine rg tT [2] ?_
              refine lf ?_
              have hy : ¬ lensB v h t m := fun hh => by obtain ⟨s, h1, h2⟩ := hL.1 hh; exact hall s (by rw [List.take_of_length_le (by omega)]; exact h1) h2
              clear uu; congr 2; grind -- leaf 5
end Go.Proofs.YtmlpbojoekmfaaaDoor
end
section
/- Ftext: whether a filter may be: all of it; the document's. -/
set_option linter.unusedSimpArgs false
set_option linter.unusedVariables false
namespace Go.Proofs.YtmlpbojoekmfaaaDoor
open Go.RowKit Go.Bo Go.Ab

mutual
/-- Names are not too long for the machine. -/
def smF : Flt → Prop
  | .mk _ a _ _ _ _ l => a.length ≤ 900000 ∧ smFL l
def smFL : List Flt → Prop
  | [] => True
  | f :: l => smF f ∧ smFL l
end
theorem smFL_get : ∀ (l : List Flt) (i : Nat) (h : i < l.length), smFL l → smF l[i]
  | f :: l, 0, _, h => by rw [smFL] at h; exact h.1
  | f :: l, i + 1, hi, h => by rw [smFL] at h; exact smFL_get l i (by simpa using hi) h.2
mutual
instance smF_dec : ∀ f : Flt, Decidable (smF f)
  | .mk k a v h m t l => by rw [smF]; exact @instDecidableAnd _ _ _ (smFL_dec l)
instance smFL_dec : ∀ l : List Flt, Decidable (smFL l)
  | [] => by rw [smFL]; infer_instance
  | f :: l => by rw [smFL]; exact @instDecidableAnd _ _ (smF_dec f) (smFL_dec l)
end
mutual
def allF : Flt → Int
  | .mk k a v h m t l => if oneF k a v h m t l.length = 0 then allFL l else oneF k a v h m t l.length
def allFL : List Flt → Int
  | [] => 0
  | x :: l => if allF x = 0 then allFL l else allF x
end
def oneG : List D → Option (Bool × D)
  | [.agg [.x (.int .i64 k), .x (.str a), .x (.str v), .x (.str hd), .x (.sl M), .x (.str t), .x (.sl L)]] => (unrows rStr M).bind fun m => (unrows rFlt L).bind fun l => some (decide (a.length ≤ 1000000), .x (.int .i64 (oneF k a v hd m t l.length)))
  | _ => none
theorem oneG_ok : ∀ args r, oneG args = some (true, r) → PCalls Tryd.prog 67 args r := by
  intro args r h
  unfold oneG at h
  split at h
  · rename_i k a v hd M t L
    obtain ⟨m, hr0, h⟩ := Option.bind_eq_some_iff.1 h
    obtain ⟨l, hr1, h⟩ := Option.bind_eq_some_iff.1 h
    simp only [Option.some.injEq, Prod.mk.injEq, Bool.and_eq_true, decide_eq_true_eq, true_and] at h
    obtain ⟨h1, rfl⟩ := h
    rw [← rows_unrows good_rStr hr0]
    rw [← rows_unrows good_rFlt hr1]
    exact (one_c k a v hd m t l h1)
  · cases h
def allmG (N : Nat) : List D → Option (Bool × D)
  | [.agg [.x (.int .i64 k), .x (.str a), .x (.str v), .x (.str hd), .x (.sl M), .x (.str t), .x (.sl L)]] => (unrows rStr M).bind fun mm => (unrows rFlt L).bind fun l => some (decide (szF (.mk k a v hd mm t l) ≤ N ∧ smF (.mk k a v hd mm t l)), .x (.int .i64 (allF (.mk k a v hd mm t l))))
  | _ => none
theorem allmG_ok (N : Nat) (ih : ∀ (f : Flt), szF f ≤ N ∧ smF f → PCalls Tryd.prog 44 [fltD f] (.x (.int .i64 (allF f)))) : ∀ args r, allmG N args = some (true, r) → PCalls Tryd.prog 44 args r := by
  intro args r h
  unfold allmG at h
  split at h
  · rename_i k a v hd M t L
    obtain ⟨mm, hr0, h⟩ := Option.bind_eq_some_iff.1 h
    obtain ⟨l, hr1, h⟩ := Option.bind_eq_some_iff.1 h
    simp only [Option.some.injEq, Prod.mk.injEq, Bool.and_eq_true, decide_eq_true_eq, true_and] at h
    obtain ⟨h1, rfl⟩ := h
    rw [← rows_unrows good_rStr hr0]
    rw [← rows_unrows good_rFlt hr1]
    exact ih (.mk k a v hd mm t l) h1
  · cases h
def tabFxD (g : List D → Option (Bool × D)) : Tabs := addQ (addQ (noTabs) 67 oneG) 44 g
theorem tabFxD_ok (g : List D → Option (Bool × D)) (hg : ∀ args r, g args = some (true, r) → PCalls Tryd.prog 44 args r) : SsOk Tryd.prog (tabFxD g) := addQ_ok (addQ_ok (noTabs_ok) (G_enters G_ok (p := i67) rfl) oneG_ok) (G_enters G_ok (p := i44) rfl) hg
theorem tabFxD_q67 (g : List D → Option (Bool × D)) (a : List D) : (tabFxD g).q 67 a = oneG a := rfl
theorem tabFxD_q44 (g : List D → Option (Bool × D)) (a : List D) : (tabFxD g).q 44 a = g a := rfl
theorem tabFxD_r (g : List D → Option (Bool × D)) (f : FuncId) (a : List D) (o : List Ob) : (tabFxD g).r f a o = none := rfl
theorem tabFxD_k (g : List D → Option (Bool × D)) (f : FuncId) (a : List D) (o : List Ob) : (tabFxD g).k f a o = none := rfl
theorem all_c : ∀ (N : Nat) (f : Flt), szF f ≤ N ∧ smF f → PCalls Tryd.prog 44 [fltD f] (.x (.int .i64 (allF f)))
  | 0, .mk k a v h mm t l, hs => by have := hs.1; simp only [szF] at this; omega
  | N + 1, .mk k a v h mm t l, hs => by
    have ih := all_c N
    have hsz : szFL l ≤ N := by have := hs.1; simp only [szF] at this; omega
    have hsm : a.length ≤ 900000 ∧ smFL l := by have := hs.2; rwa [smF] at this
    have hal := hsm.1
    clear hs
    refine PCalls.wfA (fun hw => ?_)
    have hl : l.length ≤ maxLen := by have := (hw 0 6 _ rfl).1; rwa [rows_len] at this
    clear hw
    simp only [maxLen] at hl
    dsimp only [fltD]
    rw [allF]
    refine FCalls.pure (fcallsG (fz := true) G_ok (p := i44) rfl _ (Nat.le_of_ble_eq_true rfl) _ (fun C0 E0 => ?_)) rfl
    dsimp only [i44, qt, qi, qs, qb, qm, qn, qa, qg, argsφ]
    have uu := And.intro @oneG.eq_1 (And.intro @oneG.eq_2 (And.intro @allmG.eq_1 (And.intro @allmG.eq_2 (And.intro @un_F (And.intro @un_T (And.intro @enc_rFlt (And.intro @tabFxD_r (And.intro @tabFxD_k (And.intro @tabFxD_q44 (@tabFxD_q67))))))))))
    have tT := (tabFxD_ok (allmG N) (allmG_ok N ih))
    refine nz ?_
    refine rg tT [1] ?_
    refine rg tT [1, 3] ?_
    refine rg tT [1, 3, 10] ?_
    refine cd (fun h0 => ?_) (fun h0 => ?_)
    · refine rg tT [2] ?_
      refine lf ?_
      clear uu; congr 2; grind -- leaf 0
    · refine rg tT [13, 14, 15] ?_
      refine WI.loop (fun φ os => ∃ (j : Nat), φ = [(13, .x (.sl (rows rFlt l))), (14, .x (.int .i64 l.length)), (15, .x (.int .i64 j))] ∧ os = [.box [.x (.int .i64 k), .x (.str a), .x (.str v), .x (.str h), .x (.sl (rows rStr mm)), .x (.str t), .x (.sl (rows rFlt l))]] ∧ j ≤ l.length ∧ allFL l = allFL (l.drop j)) (down l.length 15) ?_ (fun φ os hI => ?_)
      · exact ⟨0, rfl, rfl, by omega, rfl⟩
      · obtain ⟨j, rfl, rfl, hj, hd⟩ := hI
        refine nz ?_
        refine rg tT [13, 14, 15, 16] ?_
        refine cd (fun h1 => ?_) (fun h1 => ?_)
        · have hj4 : j < l.length := by omega
          have hs2 := smFL_get l j hj4 hsm.2
          have hs1 : szF l[j] ≤ N := Nat.le_trans (szFL_get l j hj4) hsz
          rcases hx : l[j] with ⟨k1, a1, v1, h1', m1, t1, l1⟩
          rw [hx] at hs1 hs2
          have uu := And.intro uu (And.intro hx (show decide (szF (.mk k1 a1 v1 h1' m1 t1 l1) ≤ N ∧ smF (.mk k1 a1 v1 h1' m1 t1 l1)) = true from decide_eq_true ⟨hs1, hs2⟩))
          refine rg tT [5, 13, 14, 15] ?_
          refine rgp tT [6, 13, 14, 15] ?_
          refine pPick [0] ?_
          refine pEnd ?_
          refine nz ?_
          refine rg tT [6, 13, 14, 15, 22] ?_
          refine cd (fun h2 => ?_) (fun h2 => ?_)
          · refine rg tT [2] ?_
            refine lf ?_
            rw [if_pos (by simpa using h0), hd, List.drop_eq_getElem_cons hj4, allFL, hx, if_neg (by simpa using h2)] -- leaf 1
          · refine rg tT [13, 14, 15] ?_
            exact ⟨⟨j + 1, rfl, rfl, by omega, by rw [hd, List.drop_eq_getElem_cons hj4, allFL, hx, if_pos h2]⟩, by simp [down, Ab.get, D.val, intOf?]; omega⟩
        · refine rg tT [2] ?_
          refine lf ?_
          rw [if_pos (by simpa using h0), hd, List.drop_of_length_le (by omega), allFL] -- leaf 2
end Go.Proofs.YtmlpbojoekmfaaaDoor
end
section
/- Ftext: whether a filter may be: the document's. -/
set_option linter.unusedSimpArgs false
set_option linter.unusedVariables false
namespace Go.Proofs.YtmlpbojoekmfaaaDoor
open Go.RowKit Go.Bo Go.Ab

theorem subsD_c (h : Txt) (m : List Txt) (t : Txt) : PCalls Tryd.prog 121 [.agg [.x (.str h), .x (.sl (rows rStr m)), .x (.str t)]] (.x (.int .i64 (if partsB h m t = true then 0 else 5))) := by
  refine PCalls.wfA (fun hw => ?_)
  have hl : m.length ≤ maxLen := by have := (hw 0 1 _ rfl).1; rwa [rows_len] at this
  clear hw
  simp only [maxLen] at hl
  have hp : partsB h m t = (decide (m.length ≤ 16) && !decide ([] ∈ m) && (decide (h ≠ []) || decide (t ≠ []) || decide (m.length > 0))) := rfl
  refine FCalls.pure (fcallsG (fz := true) G_ok (p := i121) rfl _ (Nat.le_of_ble_eq_true rfl) _ (fun C0 E0 => ?_)) rfl
  dsimp only [i121, qt, qi, qs, qb, qm, qn, qa, qg, argsφ]
  have uu := trivial
  have tT := (noTabs_ok : SsOk Tryd.prog noTabs)
  refine nz ?_
  refine WI.regB tT [1] ?_
  refine oG ?_
  refine oS ?_
  refine oN ?_
  refine nz ?_
  refine WI.regB tT [1, 23] ?_
  refine oS ?_
  iterate 2 refine oG (hok := by first | exact sd | (clear uu; grind)) ?_
  refine oS ?_
  iterate 4 refine oG (hok := by first | exact sd | (clear uu; grind)) ?_
  refine oS ?_
  iterate 5 refine oG (hok := by first | exact sd | (clear uu; grind)) ?_
  refine oS ?_
  iterate 5 refine oG (hok := by first | exact sd | (clear uu; grind)) ?_
  refine oN ?_
  refine nz ?_
  refine cd (fun h0 => ?_) (fun h0 => ?_)
  · refine WI.regB tT [2] ?_
    refine oS ?_
    refine oN ?_
    refine nz ?_
    refine lf ?_
    clear uu; congr 2; grind -- leaf 0
  · refine WI.regB tT [1, 3] ?_
    refine oS ?_
    refine oN ?_
    refine nz ?_
    refine WI.loop (fun φ os => ∃ (j : Nat), φ = [(1, .ptr 0 0), (3, .x (.int .i64 j))] ∧ os = [.box [.x (.str h), .x (.sl (rows rStr m)), .x (.str t)]] ∧ j ≤ m.length ∧ [] ∉ m.take j) (down m.length 3) ?_ (fun φ os hI => ?_)
    · exact ⟨0, rfl, rfl, by omega, by simp⟩
    · obtain ⟨j, rfl, rfl, hj, hall⟩ := hI
      refine nz ?_
      refine WI.regB tT [1, 3, 28] ?_
      iterate 2 refine oS ?_
      iterate 3 refine oG (hok := by first | exact sd | (clear uu; grind)) ?_
      refine oN ?_
      refine nz ?_
      refine cd (fun h1 => ?_) (fun h1 => ?_)
      · have hj4 : j < m.length := by omega
        refine WI.regB tT [1, 3, 36] ?_
        refine oS ?_
        refine oG (hok := by first | exact sd | (clear uu; grind)) ?_
        refine oS ?_
        iterate 3 refine oG (hok := by first | exact sd | (clear uu; grind)) ?_
        refine oN ?_
        refine nz ?_
        refine cd (fun h2 => ?_) (fun h2 => ?_)
        · refine WI.regB tT [2] ?_
          refine oS ?_
          refine oN ?_
          refine nz ?_
          refine lf ?_
          have hin : [] ∈ m := by have := List.getElem_mem hj4; rwa [show m[j] = [] by simpa using h2] at this
          clear uu; congr 2; grind -- leaf 1
        · refine WI.regB tT [1, 3] ?_
          refine oS ?_
          refine oG (hok := by first | exact sd | (clear uu; grind)) ?_
          refine oS ?_
          refine oN ?_
          refine nz ?_
          exact ⟨⟨j + 1, rfl, rfl, by omega, by rw [List.take_succ_eq_append_getElem hj4, List.mem_append, List.mem_singleton]; rintro (hs | hs); exact hall hs; rw [← hs] at h2; simp at h2⟩, by simp [down, Ab.get, D.val, intOf?]; omega⟩
      · refine WI.regB tT [2] ?_
        refine oS ?_
        refine oN ?_
        refine nz ?_
        refine lf ?_
        rw [List.take_of_length_le (by omega)] at hall
        have hm0 : m.length > 0 ∨ m = [] := by rcases m with _ | ⟨x, m⟩; exact .inr rfl; exact .inl (by simp)
        clear uu; congr 2; grind -- leaf 2
def subsDG : List D → Option (Bool × D)
  | [.agg [.x (.str hd), .x (.sl M), .x (.str t)]] => (unrows rStr M).bind fun m => some (true, .x (.int .i64 (if partsB hd m t = true then 0 else 5)))
  | _ => none
theorem subsDG_ok : ∀ args r, subsDG args = some (true, r) → PCalls Tryd.prog 121 args r := by
  intro args r h
  unfold subsDG at h
  split at h
  · rename_i hd M t
    obtain ⟨m, hr0, h⟩ := Option.bind_eq_some_iff.1 h
    simp only [Option.some.injEq, Prod.mk.injEq, Bool.and_eq_true, decide_eq_true_eq, true_and] at h
    obtain rfl := h
    rw [← rows_unrows good_rStr hr0]
    exact (subsD_c hd m t)
  · cases h
def tabFxE : Tabs := addQ (noTabs) 121 subsDG
theorem tabFxE_ok : SsOk Tryd.prog tabFxE := addQ_ok (noTabs_ok) (G_enters G_ok (p := i121) rfl) subsDG_ok
theorem tabFxE_q121 (a : List D) : tabFxE.q 121 a = subsDG a := rfl
theorem tabFxE_r (f : FuncId) (a : List D) (o : List Ob) : tabFxE.r f a o = none := rfl
theorem tabFxE_k (f : FuncId) (a : List D) (o : List Ob) : tabFxE.k f a o = none := rfl
theorem fields_c (k : Int) (a v h : Txt) (m : List Txt) (t : Txt) (l : List Flt) (hk : 0 ≤ k ∧ k ≤ 8) : PCalls Tryd.prog 112 [.agg [.x (.int .i64 k), .x (.str a), .x (.str v), .x (.str h), .x (.sl (rows rStr m)), .x (.str t), .x (.sl (rows rFlt l))]] (.x (.bool (fitsB k a v h m t l.length))) := by
  have hf : fitsB k a v h m t l.length = (if k = 0 ∨ k = 1 ∨ k = 2 then decide (a = []) && decide (v = []) && noneB h m t && (decide (k ≠ 2) || decide (l.length = 1))
  else if k = 4 then decide (l.length = 0) && decide (v = []) && partsB h m t
  else if k = 7 then decide (l.length = 0) && decide (v = []) && noneB h m t
  else decide (l.length = 0) && noneB h m t) := rfl
  have hn : noneB h m t = (decide (h = []) && decide (t = []) && decide (m.length = 0)) := rfl
  refine FCalls.pure (fcallsG (fz := true) G_ok (p := i112) rfl _ (Nat.le_of_ble_eq_true rfl) _ (fun C0 E0 => ?_)) rfl
  dsimp only [i112, qt, qi, qs, qb, qm, qn, qa, qg, argsφ]
  have uu := And.intro @subsDG.eq_1 (And.intro @subsDG.eq_2 (And.intro @un_T (And.intro @tabFxE_r (And.intro @tabFxE_k (@tabFxE_q121)))))
  have tT := tabFxE_ok
  refine nz ?_
  refine WI.regB tT [1] ?_
  refine oG ?_
  refine oS ?_
  refine oN ?_
  refine nz ?_
  refine WI.regB tT [1, 3] ?_
  refine oS ?_
  refine oG (hok := by first | exact sd | (clear uu; grind)) ?_
  refine oS ?_
  refine oN ?_
  refine nz ?_
  refine WI.regB tT [1, 3, 4] ?_
  refine oS ?_
  refine oG (hok := by first | exact sd | (clear uu; grind)) ?_
  refine oS ?_
  iterate 3 refine oG (hok := by first | exact sd | (clear uu; grind)) ?_
  refine oS ?_
  iterate 3 refine oG (hok := by first | exact sd | (clear uu; grind)) ?_
  refine oS ?_
  refine oN ?_
  refine nz ?_
  refine WI.regB tT [1, 3, 4, 5] ?_
  refine oS ?_
  refine oG (hok := by first | exact sd | (clear uu; grind)) ?_
  refine oS ?_
  iterate 3 refine oG (hok := by first | exact sd | (clear uu; grind)) ?_
  refine oS ?_
  iterate 3 refine oG (hok := by first | exact sd | (clear uu; grind)) ?_
  refine oS ?_
  iterate 3 refine oG (hok := by first | exact sd | (clear uu; grind)) ?_
  refine oS ?_
  refine oN ?_
  refine nz ?_
  refine WI.regB tT [1, 3, 66] ?_
  refine oS ?_
  refine oG (hok := by first | exact sd | (clear uu; grind)) ?_
  refine oS ?_
  iterate 5 refine oG (hok := by first | exact sd | (clear uu; grind)) ?_
  refine oS ?_
  iterate 7 refine oG (hok := by first | exact sd | (clear uu; grind)) ?_
  refine oS ?_
  iterate 8 refine oG (hok := by first | exact sd | (clear uu; grind)) ?_
  refine oS ?_
  iterate 9 refine oG (hok := by first | exact sd | (clear uu; grind)) ?_
  refine oN ?_
  refine nz ?_
  refine cd (fun h0 => ?_) (fun h0 => ?_)
  · refine WI.regB tT [2] ?_
    refine oS ?_
    refine oN ?_
    refine nz ?_
    refine lf ?_
    clear uu; congr 2; grind -- leaf 0
  · refine WI.regB tT [1, 68] ?_
    refine oS ?_
    refine oG (hok := by first | exact sd | (clear uu; grind)) ?_
    refine oN ?_
    refine nz ?_
    refine cd (fun h1 => ?_) (fun h1 => ?_)
    · refine WI.regB tT [2] ?_
      refine oS ?_
      refine oG (hok := by first | exact sd | (clear uu; grind)) ?_
      refine oC (hok := by first | exact sd | (clear uu; grind)) ?_
      refine oG (hok := by first | exact sd | (clear uu; grind)) ?_
      refine oS ?_
      refine oN ?_
      refine nz ?_
      refine lf ?_
      clear uu; congr 2; have h1' : k = 4 := by simpa using h1
      subst h1'; rw [hf]; clear hf h1 hn; revert h0; cases partsB h m t <;> simp <;> grind -- leaf 1
    · refine WI.regB tT [2] ?_
      iterate 2 refine oS ?_
      iterate 2 refine oG (hok := by first | exact sd | (clear uu; grind)) ?_
      refine oS ?_
      iterate 5 refine oG (hok := by first | exact sd | (clear uu; grind)) ?_
      refine oS ?_
      iterate 6 refine oG (hok := by first | exact sd | (clear uu; grind)) ?_
      refine oS ?_
      refine oN ?_
      refine nz ?_
      refine lf ?_
      clear uu; congr 2; have h1' : k ≠ 4 := by simpa using h1
      have h01 := h0.1.1; have h02 := h0.1.2; have h03 := h0.2; clear h0; rw [hf, hn]; clear hf hn h1
      have h04 : l.length = 0 ∨ l.length ≠ 0 := by omega
      have h05 : k = 0 ∨ k = 1 ∨ k = 2 ∨ (k ≠ 0 ∧ k ≠ 1 ∧ k ≠ 2) := by omega
      rcases h05 with rfl | rfl | rfl | h05 <;> grind (splits := 20) -- leaf 2
def fieldsG : List D → Option (Bool × D)
  | [.agg [.x (.int .i64 k), .x (.str a), .x (.str v), .x (.str hd), .x (.sl M), .x (.str t), .x (.sl L)]] => (unrows rStr M).bind fun m => (unrows rFlt L).bind fun l => some (decide (0 ≤ k ∧ k ≤ 8), .x (.bool (fitsB k a v hd m t l.length)))
  | _ => none
theorem fieldsG_ok : ∀ args r, fieldsG args = some (true, r) → PCalls Tryd.prog 112 args r := by
  intro args r h
  unfold fieldsG at h
  split at h
  · rename_i k a v hd M t L
    obtain ⟨m, hr0, h⟩ := Option.bind_eq_some_iff.1 h
    obtain ⟨l, hr1, h⟩ := Option.bind_eq_some_iff.1 h
    simp only [Option.some.injEq, Prod.mk.injEq, Bool.and_eq_true, decide_eq_true_eq, true_and] at h
    obtain ⟨h1, rfl⟩ := h
    rw [← rows_unrows good_rStr hr0]
    rw [← rows_unrows good_rFlt hr1]
    exact (fields_c k a v hd m t l h1)
  · cases h
def tabFxF : Tabs := addQ (addQ (noTabs) 112 fieldsG) 31 TypedG
theorem tabFxF_ok : SsOk Tryd.prog tabFxF := addQ_ok (addQ_ok (noTabs_ok) (G_enters G_ok (p := i112) rfl) fieldsG_ok) (G_enters G_ok (p := i31) rfl) TypedG_ok
theorem tabFxF_q112 (a : List D) : tabFxF.q 112 a = fieldsG a := rfl
theorem tabFxF_q31 (a : List D) : tabFxF.q 31 a = TypedG a := rfl
theorem tabFxF_r (f : FuncId) (a : List D) (o : List Ob) : tabFxF.r f a o = none := rfl
theorem tabFxF_k (f : FuncId) (a : List D) (o : List Ob) : tabFxF.k f a o = none := rfl
theorem oneD_c (k : Int) (a v h : Txt) (m : List Txt) (t : Txt) (l : List Flt) (ha : a.length ≤ 1000000) : PCalls Tryd.prog 95 [.agg [.x (.int .i64 k), .x (.str a), .x (.str v), .x (.str h), .x (.sl (rows rStr m)), .x (.str t), .x (.sl (rows rFlt l))]] (.x (.int .i64 (oneF k a v h m t l.length))) := by
  have hL : lensB v h t m ↔ ((v.length > 1024 ∨ h.length > 1024) ∨ t.length > 1024) ∨ ∃ s ∈ m, s.length > 1024 := by
    unfold lensB; constructor
    · rintro ⟨s, h1, h2⟩; simp at h1; rcases h1 with rfl | rfl | h1 | rfl; exact .inl (.inl (.inr h2)); exact .inl (.inr h2); exact .inr ⟨s, h1, h2⟩; exact .inl (.inl (.inl h2))
    · rintro (((h1 | h1) | h1) | ⟨s, h1, h2⟩); exact ⟨v, by simp, h1⟩; exact ⟨h, by simp, h1⟩; exact ⟨t, by simp, h1⟩; exact ⟨s, by simp [h1], h2⟩
  refine PCalls.wfA (fun hw => ?_)
  have hl : m.length ≤ maxLen := by have := (hw 0 4 _ rfl).1; rwa [rows_len] at this
  clear hw
  simp only [maxLen] at hl
  unfold oneF
  refine FCalls.pure (fcallsG (fz := true) G_ok (p := i95) rfl _ (Nat.le_of_ble_eq_true rfl) _ (fun C0 E0 => ?_)) rfl
  dsimp only [i95, qt, qi, qs, qb, qm, qn, qa, qg, argsφ]
  have uu := And.intro @fieldsG.eq_1 (And.intro @fieldsG.eq_2 (And.intro @TypedG.eq_1 (And.intro @TypedG.eq_2 (And.intro @un_T (And.intro @un_F (And.intro @tabFxF_r (And.intro @tabFxF_k (And.intro @tabFxF_q112 (@tabFxF_q31)))))))))
  have tT := tabFxF_ok
  refine nz ?_
  refine WI.regB tT [1] ?_
  refine oG ?_
  refine oS ?_
  refine oN ?_
  refine nz ?_
  refine WI.regB tT [1, 4] ?_
  refine oS ?_
  iterate 2 refine oG (hok := by first | exact sd | (clear uu; grind)) ?_
  refine oS ?_
  iterate 4 refine oG (hok := by first | exact sd | (clear uu; grind)) ?_
  refine oS ?_
  refine oN ?_
  refine nz ?_
  refine cd (fun h0 => ?_) (fun h0 => ?_)
  · refine WI.regB tT [2] ?_
    refine oS ?_
    refine oN ?_
    refine nz ?_
    refine lf ?_
    clear uu; congr 2; grind -- leaf 0
  · refine WI.regB tT [1, 13] ?_
    refine oS ?_
    iterate 3 refine oG (hok := by first | exact sd | (clear uu; grind)) ?_
    refine oS ?_
    refine oN ?_
    refine nz ?_
    refine cd (fun h1 => ?_) (fun h1 => ?_)
    · refine WI.regB tT [2] ?_
      refine oS ?_
      refine oN ?_
      refine nz ?_
      refine lf ?_
      clear uu; congr 2; grind -- leaf 1
    · refine WI.regB tT [1, 18] ?_
      refine oG (hok := by first | exact sd | (clear uu; grind)) ?_
      refine oC (hok := by first | exact sd | (clear uu; grind)) ?_
      refine oG (hok := by first | exact sd | (clear uu; grind)) ?_
      refine oS ?_
      refine oN ?_
      refine nz ?_
      refine cd (fun h2 => ?_) (fun h2 => ?_)
      · refine WI.regB tT [2] ?_
        refine oS ?_
        refine oN ?_
        refine nz ?_
        refine lf ?_
        clear uu; congr 2; grind -- leaf 2
      · refine WI.regB tT [1, 22] ?_
        refine oS ?_
        iterate 2 refine oG (hok := by first | exact sd | (clear uu; grind)) ?_
        refine oS ?_
        iterate 2 refine oG (hok := by first | exact sd | (clear uu; grind)) ?_
        refine oC (hok := by first | exact sd | (clear uu; grind)) ?_
        iterate 2 refine oG (hok := by first | exact sd | (clear uu; grind)) ?_
        refine oS ?_
        refine oN ?_
        refine nz ?_
        refine cd (fun h3 => ?_) (fun h3 => ?_)
        · refine WI.regB tT [2] ?_
          refine oS ?_
          refine oN ?_
          refine nz ?_
          refine lf ?_
          clear uu; congr 2; grind -- leaf 3
        · refine WI.regB tT [1, 32] ?_
          refine oS ?_
          iterate 3 refine oG (hok := by first | exact sd | (clear uu; grind)) ?_
          refine oS ?_
          iterate 6 refine oG (hok := by first | exact sd | (clear uu; grind)) ?_
          refine oS ?_
          iterate 6 refine oG (hok := by first | exact sd | (clear uu; grind)) ?_
          refine oS ?_
          refine oN ?_
          refine nz ?_
          refine cd (fun h4 => ?_) (fun h4 => ?_)
          · refine WI.regB tT [2] ?_
            refine oS ?_
            refine oN ?_
            refine nz ?_
            refine lf ?_
            clear uu; congr 2; grind -- leaf 4
          · refine WI.regB tT [1, 3] ?_
            refine oS ?_
            refine oN ?_
            refine nz ?_
            refine WI.loop (fun φ os => ∃ (j : Nat), φ = [(1, .ptr 0 0), (3, .x (.int .i64 j))] ∧ os = [.box [.x (.int .i64 k), .x (.str a), .x (.str v), .x (.str h), .x (.sl (rows rStr m)), .x (.str t), .x (.sl (rows rFlt l))]] ∧ j ≤ m.length ∧ (∀ s ∈ m.take j, ¬ s.length > 1024)) (down m.length 3) ?_ (fun φ os hI => ?_)
            · exact ⟨0, rfl, rfl, by omega, by simp⟩
            · obtain ⟨j, rfl, rfl, hj, hall⟩ := hI
              refine nz ?_
              refine WI.regB tT [1, 3, 56] ?_
              iterate 3 refine oS ?_
              iterate 3 refine oG (hok := by first | exact sd | (clear uu; grind)) ?_
              refine oN ?_
              refine nz ?_
              refine cd (fun h5 => ?_) (fun h5 => ?_)
              · have hj4 : j < m.length := by omega
                refine WI.regB tT [1, 3, 66] ?_
                iterate 2 refine oS ?_
                refine oG (hok := by first | exact sd | (clear uu; grind)) ?_
                refine oS ?_
                iterate 4 refine oG (hok := by first | exact sd | (clear uu; grind)) ?_
                refine oN ?_
                refine nz ?_
                refine cd (fun h6 => ?_) (fun h6 => ?_)
                · refine WI.regB tT [2] ?_
                  refine oS ?_
                  refine oN ?_
                  refine nz ?_
                  refine lf ?_
                  have hy : lensB v h t m := hL.2 (.inr ⟨m[j], List.getElem_mem hj4, by omega⟩)
                  clear uu; congr 2; grind -- leaf 5
                · refine WI.regB tT [1, 3] ?_
                  refine oS ?_
                  refine oG (hok := by first | exact sd | (clear uu; grind)) ?_
                  refine oS ?_
                  refine oN ?_
                  refine nz ?_
                  exact ⟨⟨j + 1, rfl, rfl, by omega, by rw [List.take_succ_eq_append_getElem hj4]; intro s hs; rcases List.mem_append.1 hs with hs | hs; exact hall s hs; rw [List.mem_singleton] at hs; subst hs; omega⟩, by simp [down, Ab.get, D.val, intOf?]; omega⟩
              · refine WI.regB tT [2] ?_
                refine oS ?_
                refine oN ?_
                refine nz ?_
                refine lf ?_
                have hy : ¬ ∃ s ∈ m, s.length > 1024 := fun ⟨s, h1, h2⟩ => hall s (by rw [List.take_of_length_le (by omega)]; exact h1) h2
                clear uu; congr 2; grind -- leaf 6
def oneDG : List D → Option (Bool × D)
  | [.agg [.x (.int .i64 k), .x (.str a), .x (.str v), .x (.str hd), .x (.sl M), .x (.str t), .x (.sl L)]] => (unrows rStr M).bind fun m => (unrows rFlt L).bind fun l => some (decide (a.length ≤ 1000000), .x (.int .i64 (oneF k a v hd m t l.length)))
  | _ => none
theorem oneDG_ok : ∀ args r, oneDG args = some (true, r) → PCalls Tryd.prog 95 args r := by
  intro args r h
  unfold oneDG at h
  split at h
  · rename_i k a v hd M t L
    obtain ⟨m, hr0, h⟩ := Option.bind_eq_some_iff.1 h
    obtain ⟨l, hr1, h⟩ := Option.bind_eq_some_iff.1 h
    simp only [Option.some.injEq, Prod.mk.injEq, Bool.and_eq_true, decide_eq_true_eq, true_and] at h
    obtain ⟨h1, rfl⟩ := h
    rw [← rows_unrows good_rStr hr0]
    rw [← rows_unrows good_rFlt hr1]
    exact (oneD_c k a v hd m t l h1)
  · cases h
def allDmG (N : Nat) : List D → Option (Bool × D)
  | [.agg [.x (.int .i64 k), .x (.str a), .x (.str v), .x (.str hd), .x (.sl M), .x (.str t), .x (.sl L)]] => (unrows rStr M).bind fun mm => (unrows rFlt L).bind fun l => some (decide (szF (.mk k a v hd mm t l) ≤ N ∧ smF (.mk k a v hd mm t l)), .x (.int .i64 (allF (.mk k a v hd mm t l))))
  | _ => none
theorem allDmG_ok (N : Nat) (ih : ∀ (f : Flt), szF f ≤ N ∧ smF f → PCalls Tryd.prog 71 [fltD f] (.x (.int .i64 (allF f)))) : ∀ args r, allDmG N args = some (true, r) → PCalls Tryd.prog 71 args r := by
  intro args r h
  unfold allDmG at h
  split at h
  · rename_i k a v hd M t L
    obtain ⟨mm, hr0, h⟩ := Option.bind_eq_some_iff.1 h
    obtain ⟨l, hr1, h⟩ := Option.bind_eq_some_iff.1 h
    simp only [Option.some.injEq, Prod.mk.injEq, Bool.and_eq_true, decide_eq_true_eq, true_and] at h
    obtain ⟨h1, rfl⟩ := h
    rw [← rows_unrows good_rStr hr0]
    rw [← rows_unrows good_rFlt hr1]
    exact ih (.mk k a v hd mm t l) h1
  · cases h
def tabFxG (g : List D → Option (Bool × D)) : Tabs := addQ (addQ (noTabs) 95 oneDG) 71 g
theorem tabFxG_ok (g : List D → Option (Bool × D)) (hg : ∀ args r, g args = some (true, r) → PCalls Tryd.prog 71 args r) : SsOk Tryd.prog (tabFxG g) := addQ_ok (addQ_ok (noTabs_ok) (G_enters G_ok (p := i95) rfl) oneDG_ok) (G_enters G_ok (p := i71) rfl) hg
theorem tabFxG_q95 (g : List D → Option (Bool × D)) (a : List D) : (tabFxG g).q 95 a = oneDG a := rfl
theorem tabFxG_q71 (g : List D → Option (Bool × D)) (a : List D) : (tabFxG g).q 71 a = g a := rfl
theorem tabFxG_r (g : List D → Option (Bool × D)) (f : FuncId) (a : List D) (o : List Ob) : (tabFxG g).r f a o = none := rfl
theorem tabFxG_k (g : List D → Option (Bool × D)) (f : FuncId) (a : List D) (o : List Ob) : (tabFxG g).k f a o = none := rfl
theorem allD_c : ∀ (N : Nat) (f : Flt), szF f ≤ N ∧ smF f → PCalls Tryd.prog 71 [fltD f] (.x (.int .i64 (allF f)))
  | 0, .mk k a v h mm t l, hs => by have := hs.1; simp only [szF] at this; omega
  | N + 1, .mk k a v h mm t l, hs => by
    have ih := allD_c N
    have hsz : szFL l ≤ N := by have := hs.1; simp only [szF] at this; omega
    have hsm : a.length ≤ 900000 ∧ smFL l := by have := hs.2; rwa [smF] at this
    have hal := hsm.1
    clear hs
    refine PCalls.wfA (fun hw => ?_)
    have hl : l.length ≤ maxLen := by have := (hw 0 6 _ rfl).1; rwa [rows_len] at this
    clear hw
    simp only [maxLen] at hl
    dsimp only [fltD]
    rw [allF]
    refine FCalls.pure (fcallsG (fz := true) G_ok (p := i71) rfl _ (Nat.le_of_ble_eq_true rfl) _ (fun C0 E0 => ?_)) rfl
    dsimp only [i71, qt, qi, qs, qb, qm, qn, qa, qg, argsφ]
    have uu := And.intro @oneDG.eq_1 (And.intro @oneDG.eq_2 (And.intro @allDmG.eq_1 (And.intro @allDmG.eq_2 (And.intro @un_F (And.intro @un_T (And.intro @enc_rFlt (And.intro @tabFxG_r (And.intro @tabFxG_k (And.intro @tabFxG_q71 (@tabFxG_q95))))))))))
    have tT := (tabFxG_ok (allDmG N) (allDmG_ok N ih))
    refine nz ?_
    refine rg tT [1] ?_
    refine rg tT [1, 3] ?_
    refine rg tT [1, 3, 9] ?_
    refine cd (fun h0 => ?_) (fun h0 => ?_)
    · refine rg tT [2] ?_
      refine lf ?_
      clear uu; congr 2; grind -- leaf 0
    · refine rg tT [1, 4] ?_
      refine WI.loop (fun φ os => ∃ (j : Nat), φ = [(1, .ptr 0 0), (4, .x (.int .i64 j))] ∧ os = [.box [.x (.int .i64 k), .x (.str a), .x (.str v), .x (.str h), .x (.sl (rows rStr mm)), .x (.str t), .x (.sl (rows rFlt l))]] ∧ j ≤ l.length ∧ allFL l = allFL (l.drop j)) (down l.length 4) ?_ (fun φ os hI => ?_)
      · exact ⟨0, rfl, rfl, by omega, rfl⟩
      · obtain ⟨j, rfl, rfl, hj, hd⟩ := hI
        refine nz ?_
        refine rg tT [1, 4, 15] ?_
        refine cd (fun h1 => ?_) (fun h1 => ?_)
        · have hj4 : j < l.length := by omega
          have hs2 := smFL_get l j hj4 hsm.2
          have hs1 : szF l[j] ≤ N := Nat.le_trans (szFL_get l j hj4) hsz
          rcases hx : l[j] with ⟨k1, a1, v1, h1', m1, t1, l1⟩
          rw [hx] at hs1 hs2
          have uu := And.intro uu (And.intro hx (show decide (szF (.mk k1 a1 v1 h1' m1 t1 l1) ≤ N ∧ smF (.mk k1 a1 v1 h1' m1 t1 l1)) = true from decide_eq_true ⟨hs1, hs2⟩))
          refine rg tT [1, 4, 5] ?_
          refine rg tT [1, 4, 5, 25] ?_
          refine cd (fun h2 => ?_) (fun h2 => ?_)
          · refine rg tT [2] ?_
            refine lf ?_
            rw [if_pos (by simpa using h0), hd, List.drop_eq_getElem_cons hj4, allFL, hx, if_neg (by simpa using h2)] -- leaf 1
          · refine rg tT [1, 4] ?_
            exact ⟨⟨j + 1, rfl, rfl, by omega, by rw [hd, List.drop_eq_getElem_cons hj4, allFL, hx, if_pos h2]⟩, by simp [down, Ab.get, D.val, intOf?]; omega⟩
        · refine rg tT [2] ?_
          refine lf ?_
          rw [if_pos (by simpa using h0), hd, List.drop_of_length_le (by omega), allFL] -- leaf 2
/-! ### how deep, by the document -/
def deepmG (N : Nat) : List D → Option (Bool × D)
  | [.agg [.x (.int .i64 k), .x (.str a), .x (.str v), .x (.str hd), .x (.sl M), .x (.str t), .x (.sl L)], .x (.int .i64 m)] => (unrows rStr M).bind fun mm => (unrows rFlt L).bind fun l => some (decide (szF (.mk k a v hd mm t l) ≤ N ∧ 0 ≤ m ∧ m ≤ 64), .x (.int .i64 (depF (.mk k a v hd mm t l) m.toNat : Nat)))
  | _ => none
theorem deepmG_ok (N : Nat) (ih : ∀ (f : Flt) (m : Int), szF f ≤ N ∧ 0 ≤ m ∧ m ≤ 64 → PCalls Tryd.prog 94 [fltD f, .x (.int .i64 m)] (.x (.int .i64 (depF f m.toNat : Nat)))) : ∀ args r, deepmG N args = some (true, r) → PCalls Tryd.prog 94 args r := by
  intro args r h
  unfold deepmG at h
  split at h
  · rename_i k a v hd M t L m
    obtain ⟨mm, hr0, h⟩ := Option.bind_eq_some_iff.1 h
    obtain ⟨l, hr1, h⟩ := Option.bind_eq_some_iff.1 h
    simp only [Option.some.injEq, Prod.mk.injEq, Bool.and_eq_true, decide_eq_true_eq, true_and] at h
    obtain ⟨h1, rfl⟩ := h
    rw [← rows_unrows good_rStr hr0]
    rw [← rows_unrows good_rFlt hr1]
    exact ih (.mk k a v hd mm t l) m h1
  · cases h
def tabFxH (g : List D → Option (Bool × D)) : Tabs := addQ (noTabs) 94 g
theorem tabFxH_ok (g : List D → Option (Bool × D)) (hg : ∀ args r, g args = some (true, r) → PCalls Tryd.prog 94 args r) : SsOk Tryd.prog (tabFxH g) := addQ_ok (noTabs_ok) (G_enters G_ok (p := i94) rfl) hg
theorem tabFxH_q94 (g : List D → Option (Bool × D)) (a : List D) : (tabFxH g).q 94 a = g a := rfl
theorem tabFxH_r (g : List D → Option (Bool × D)) (f : FuncId) (a : List D) (o : List Ob) : (tabFxH g).r f a o = none := rfl
theorem tabFxH_k (g : List D → Option (Bool × D)) (f : FuncId) (a : List D) (o : List Ob) : (tabFxH g).k f a o = none := rfl
theorem deep_c : ∀ (N : Nat) (f : Flt) (m : Int), szF f ≤ N ∧ 0 ≤ m ∧ m ≤ 64 → PCalls Tryd.prog 94 [fltD f, .x (.int .i64 m)] (.x (.int .i64 (depF f m.toNat : Nat)))
  | 0, .mk k a v h mm t l, m, hs => by have := hs.1; simp only [szF] at this; omega
  | N + 1, .mk k a v h mm t l, m, hs => by
    have ih := deep_c N
    have hsz : szFL l ≤ N := by have := hs.1; simp only [szF] at this; omega
    have hm := hs.2
    clear hs
    refine PCalls.wfA (fun hw => ?_)
    have hl : l.length ≤ maxLen := by have := (hw 0 6 _ rfl).1; rwa [rows_len] at this
    clear hw
    simp only [maxLen] at hl
    dsimp only [fltD]
    obtain ⟨q, rfl⟩ : ∃ q : Nat, m = q := ⟨m.toNat, by omega⟩
    rw [Int.toNat_natCast]
    rcases q with _ | q
    · rw [depF]
      refine FCalls.pure (fcallsG (fz := true) G_ok (p := i94) rfl _ (Nat.le_of_ble_eq_true rfl) _ (fun C0 E0 => ?_)) rfl
      dsimp only [i94, qt, qi, qs, qb, qm, qn, qa, qg, argsφ]
      have uu := @un_F
      have tT := (noTabs_ok : SsOk Tryd.prog noTabs)
      refine nz ?_
      refine WI.regB tT [1, 2] ?_
      refine oG ?_
      refine oS ?_
      refine oN ?_
      refine nz ?_
      refine WI.regB tT [1, 2, 5] ?_
      refine oS ?_
      refine oN ?_
      refine nz ?_
      refine WI.regB tT [1, 2, 5, 6] ?_
      refine oS ?_
      refine oN ?_
      refine nz ?_
      refine WI.loop (fun φ os => φ = [(1, .x (.int .i64 (0 : Nat))), (2, .ptr 0 0), (5, .x (.int .i64 0)), (6, .x (.int .i64 0))] ∧ os = [.box [.x (.int .i64 k), .x (.str a), .x (.str v), .x (.str h), .x (.sl (rows rStr mm)), .x (.str t), .x (.sl (rows rFlt l))]]) (down 0 6) ?_ (fun φ os hI => ?_)
      · exact ⟨rfl, rfl⟩
      · obtain ⟨rfl, rfl⟩ := hI
        refine nz ?_
        refine WI.regB tT [1, 2, 5, 6, 15] ?_
        iterate 2 refine oS ?_
        iterate 3 refine oG (hok := by first | exact sd | (clear uu; grind)) ?_
        refine oS ?_
        iterate 3 refine oG (hok := by first | exact sd | (clear uu; grind)) ?_
        refine oN ?_
        refine nz ?_
        refine ce (fun h0 => ?_) (fun h0 => ?_)
        · simp at h0
        · refine WI.regB tT [4] ?_
          refine oS ?_
          refine oG (hok := by first | exact sd | (clear uu; grind)) ?_
          refine oS ?_
          refine oN ?_
          refine nz ?_
          refine lf ?_
          first | rfl | exact ⟨rfl, rfl⟩ | trivial -- leaf 0
    · rw [depF]
      have hdb := fun x => depF_b x q
      have e1 : ((q + 1 : Nat) : Int) - 1 = (q : Int) := by omega
      have hfb := depFL_b l q
      refine FCalls.pure (fcallsG (fz := true) G_ok (p := i94) rfl _ (Nat.le_of_ble_eq_true rfl) _ (fun C0 E0 => ?_)) rfl
      dsimp only [i94, qt, qi, qs, qb, qm, qn, qa, qg, argsφ]
      have uu := And.intro @deepmG.eq_1 (And.intro @deepmG.eq_2 (And.intro @un_F (And.intro @un_T (And.intro @enc_rFlt (And.intro @e1 (And.intro @tabFxH_r (And.intro @tabFxH_k (@tabFxH_q94))))))))
      have tT := (tabFxH_ok (deepmG N) (deepmG_ok N ih))
      refine nz ?_
      refine WI.regB tT [1, 2] ?_
      refine oG ?_
      refine oS ?_
      refine oN ?_
      refine nz ?_
      refine WI.regB tT [1, 2, 5] ?_
      refine oS ?_
      refine oN ?_
      refine nz ?_
      refine WI.regB tT [1, 2, 5, 6] ?_
      refine oS ?_
      refine oN ?_
      refine nz ?_
      refine WI.loop (fun φ os => ∃ (j : Nat), φ = [(1, .x (.int .i64 (q + 1 : Nat))), (2, .ptr 0 0), (5, .x (.int .i64 (depFL (l.take j) q : Nat))), (6, .x (.int .i64 j))] ∧ os = [.box [.x (.int .i64 k), .x (.str a), .x (.str v), .x (.str h), .x (.sl (rows rStr mm)), .x (.str t), .x (.sl (rows rFlt l))]] ∧ j ≤ l.length) (down l.length 6) ?_ (fun φ os hI => ?_)
      · exact ⟨0, rfl, rfl, by omega⟩
      · obtain ⟨j, rfl, rfl, hj⟩ := hI
        refine nz ?_
        refine WI.regB tT [1, 2, 5, 6, 15] ?_
        iterate 2 refine oS ?_
        iterate 3 refine oG (hok := by first | exact sd | (clear uu; grind)) ?_
        refine oS ?_
        iterate 3 refine oG (hok := by first | exact sd | (clear uu; grind)) ?_
        refine oN ?_
        refine nz ?_
        refine cd (fun h0 => ?_) (fun h0 => ?_)
        · have hj4 : j < l.length := by omega
          have hst := depFL_snoc (l.take j) l[j] q
          rw [← List.take_succ_eq_append_getElem hj4] at hst
          rcases hx : l[j] with ⟨k1, a1, v1, h1', m1, t1, l1⟩
          have hs1 : szF l[j] ≤ N := Nat.le_trans (szFL_get l j hj4) hsz
          rw [hx] at hs1 hst
          have uu := And.intro uu hx
          refine WI.regB tT [1, 2, 5, 6] ?_
          iterate 2 refine oS ?_
          refine oG (hok := by first | exact sd | (clear uu; grind)) ?_
          refine oS ?_
          iterate 2 refine oG (hok := by first | exact sd | (clear uu; grind)) ?_
          refine oS ?_
          refine oG (hok := by first | exact sd | (clear uu; grind)) ?_
          refine oC (hok := by first | exact sd | (clear uu; grind)) ?_
          refine oG (hok := by first | exact sd | (clear uu; grind)) ?_
          refine oS ?_
          refine oN ?_
          refine nz ?_
          refine WI.regB tT [1, 2, 5, 6] ?_
          refine oS ?_
          refine oG (hok := by first | exact sd | (clear uu; grind)) ?_
          refine oS ?_
          refine oN ?_
          refine nz ?_
          exact ⟨⟨j + 1, by rw [hst]; first | rfl | (rw [mx_eq]; rfl), rfl, by omega⟩, by simp [down, Ab.get, D.val, intOf?]; omega⟩
        · refine WI.regB tT [4] ?_
          refine oS ?_
          refine oG (hok := by first | exact sd | (clear uu; grind)) ?_
          refine oS ?_
          refine oN ?_
          refine nz ?_
          refine lf ?_
          rw [List.take_of_length_le (by omega), IntWalk.i64_in _ (by omega)]; rfl -- leaf 0
end Go.Proofs.YtmlpbojoekmfaaaDoor
end
section
/- Ftext: a filter's text, by the document. -/
set_option linter.unusedSimpArgs false
set_option linter.unusedVariables false
namespace Go.Proofs.YtmlpbojoekmfaaaDoor
open Go.RowKit Go.Bo Go.Ab

def midW (m : List Txt) : Nat := (m.map fun x => x.length + 1).sum
mutual
/-- How great a filter is. -/
def wF : Flt → Nat
  | .mk _ a v h m t l => a.length + v.length + h.length + t.length + midW m + 5 + wFL l
def wFL : List Flt → Nat
  | [] => 0
  | f :: l => wF f + wFL l
end
theorem wFL_get : ∀ (l : List Flt) (i : Nat) (h : i < l.length), wF l[i] ≤ wFL l
  | f :: l, 0, _ => by rw [wFL]; simp
  | f :: l, i + 1, hi => by have := wFL_get l i (by simpa using hi); rw [wFL]; simp; omega
theorem wFL_app : ∀ (l m : List Flt), wFL (l ++ m) = wFL l + wFL m
  | [], m => by simp [wFL]
  | f :: l, m => by simp [wFL, wFL_app l m]; omega
mutual
theorem sm_w : ∀ f : Flt, wF f ≤ 900000 → smF f
  | .mk k a v h m t l, e => by rw [wF] at e; rw [smF]; exact ⟨by omega, smL_w l (by omega)⟩
theorem smL_w : ∀ l : List Flt, wFL l ≤ 900000 → smFL l
  | [], _ => by rw [smFL]; trivial
  | f :: l, e => by rw [wFL] at e; rw [smFL]; exact ⟨sm_w f (by omega), smL_w l (by omega)⟩
end
def midX (m : List Txt) : Txt := m.flatMap fun x => escS x ++ [42]
def hdX (k : Int) (a v h : Txt) (m : List Txt) (t : Txt) : Txt :=
  if k = 0 then [38] else if k = 1 then [124] else if k = 2 then [33] else if k = 3 then a ++ [61] ++ escS v else if k = 5 then a ++ [62, 61] ++ escS v
  else if k = 6 then a ++ [60, 61] ++ escS v else if k = 8 then a ++ [126, 61] ++ escS v else if k = 7 then a ++ [61, 42]
  else a ++ [61] ++ escS h ++ [42] ++ midX m ++ escS t
mutual
/-- A filter's text. -/
def putX : Flt → Txt
  | .mk k a v h m t l => [40] ++ hdX k a v h m t ++ putXL l ++ [41]
def putXL : List Flt → Txt
  | [] => []
  | f :: l => putX f ++ putXL l
end
theorem midX_len (m : List Txt) : (midX m).length ≤ 3 * midW m := by
  induction m with
  | nil => simp [midX]
  | cons x m ih =>
    have h1 := escS_len x
    unfold midX midW at ih ⊢
    simp only [List.flatMap_cons, List.length_append, List.map_cons, List.sum_cons, List.length_cons, List.length_nil]
    omega
theorem hdX_len (k : Int) (a v h : Txt) (m : List Txt) (t : Txt) : (hdX k a v h m t).length ≤ 3 * (a.length + v.length + h.length + t.length + midW m) + 2 := by
  have h1 := escS_len v
  have h2 := escS_len h
  have h3 := escS_len t
  have h4 := midX_len m
  unfold hdX
  split; simp
  split; simp
  split; simp
  split; simp; omega
  split; simp; omega
  split; simp; omega
  split; simp; omega
  split; simp; omega
  simp; omega
mutual
theorem putX_len : ∀ f : Flt, (putX f).length ≤ 3 * wF f
  | .mk k a v h m t l => by
    have h1 := hdX_len k a v h m t
    have h2 := putXL_len l
    rw [putX, wF]; simp only [List.length_append, List.length_cons, List.length_nil]; omega
theorem putXL_len : ∀ l : List Flt, (putXL l).length ≤ 3 * wFL l
  | [] => by simp [putXL]
  | f :: l => by
    have h1 := putX_len f
    have h2 := putXL_len l
    rw [putXL, wFL, List.length_append]; omega
end
theorem putXL_snoc : ∀ (l : List Flt) (x : Flt), putXL (l ++ [x]) = putXL l ++ putX x
  | [], x => by simp [putXL]
  | y :: l, x => by rw [List.cons_append, putXL, putXL, putXL_snoc l x, List.append_assoc]
theorem midX_snoc (m : List Txt) (x : Txt) : midX (m ++ [x]) = midX m ++ (escS x ++ [42]) := by simp [midX]
theorem midW_app (l m : List Txt) : midW (l ++ m) = midW l + midW m := by simp [midW]
theorem wFL_take (l : List Flt) (j : Nat) : wFL (l.take j) ≤ wFL l := by
  have := wFL_app (l.take j) (l.drop j); rw [List.take_append_drop] at this; omega
theorem midW_take (l : List Txt) (j : Nat) : midW (l.take j) ≤ midW l := by
  have := midW_app (l.take j) (l.drop j); rw [List.take_append_drop] at this; omega
theorem midW_get (m : List Txt) (j : Nat) (h : j < m.length) : m[j].length ≤ midW m := by
  have h1 := midW_take m (j + 1)
  rw [List.take_succ_eq_append_getElem h, midW_app] at h1
  simp [midW] at h1 ⊢; omega
def putmG (N : Nat) : List D → Option (Bool × D)
  | [.agg [.x (.int .i64 k), .x (.str a), .x (.str v), .x (.str hd), .x (.sl M), .x (.str t), .x (.sl L)]] => (unrows rStr M).bind fun mm => (unrows rFlt L).bind fun l => some (decide (szF (.mk k a v hd mm t l) ≤ N ∧ wF (.mk k a v hd mm t l) ≤ 300000), .x (.str (putX (.mk k a v hd mm t l))))
  | _ => none
theorem putmG_ok (N : Nat) (ih : ∀ (f : Flt), szF f ≤ N ∧ wF f ≤ 300000 → PCalls Tryd.prog 47 [fltD f] (.x (.str (putX f)))) : ∀ args r, putmG N args = some (true, r) → PCalls Tryd.prog 47 args r := by
  intro args r h
  unfold putmG at h
  split at h
  · rename_i k a v hd M t L
    obtain ⟨mm, hr0, h⟩ := Option.bind_eq_some_iff.1 h
    obtain ⟨l, hr1, h⟩ := Option.bind_eq_some_iff.1 h
    simp only [Option.some.injEq, Prod.mk.injEq, Bool.and_eq_true, decide_eq_true_eq, true_and] at h
    obtain ⟨h1, rfl⟩ := h
    rw [← rows_unrows good_rStr hr0]
    rw [← rows_unrows good_rFlt hr1]
    exact ih (.mk k a v hd mm t l) h1
  · cases h
def tabFxI (g : List D → Option (Bool × D)) : Tabs := addQ (addQ (noTabs) 72 escRG) 47 g
theorem tabFxI_ok (g : List D → Option (Bool × D)) (hg : ∀ args r, g args = some (true, r) → PCalls Tryd.prog 47 args r) : SsOk Tryd.prog (tabFxI g) := addQ_ok (addQ_ok (noTabs_ok) (G_enters G_ok (p := i72) rfl) escRG_ok) (G_enters G_ok (p := i47) rfl) hg
theorem tabFxI_q72 (g : List D → Option (Bool × D)) (a : List D) : (tabFxI g).q 72 a = escRG a := rfl
theorem tabFxI_q47 (g : List D → Option (Bool × D)) (a : List D) : (tabFxI g).q 47 a = g a := rfl
theorem tabFxI_r (g : List D → Option (Bool × D)) (f : FuncId) (a : List D) (o : List Ob) : (tabFxI g).r f a o = none := rfl
theorem tabFxI_k (g : List D → Option (Bool × D)) (f : FuncId) (a : List D) (o : List Ob) : (tabFxI g).k f a o = none := rfl
set_option maxHeartbeats 1000000 in
theorem putR_c : ∀ (N : Nat) (f : Flt), szF f ≤ N ∧ wF f ≤ 300000 → PCalls Tryd.prog 47 [fltD f] (.x (.str (putX f)))
  | 0, .mk k a v h mm t l, hs => by have := hs.1; simp only [szF] at this; omega
  | N + 1, .mk k a v h mm t l, hs => by
    have ih := putR_c N
    have hsz : szFL l ≤ N := by have := hs.1; simp only [szF] at this; omega
    have hwf : a.length + v.length + h.length + t.length + midW mm + 5 + wFL l ≤ 300000 := by have := hs.2; rwa [wF] at this
    have hmx := midX_len mm
    have hpl := putXL_len l
    have hev := escS_len v
    have heh := escS_len h
    have het := escS_len t
    clear hs
    refine PCalls.wfA (fun hw => ?_)
    have hl : l.length ≤ maxLen := by have := (hw 0 6 _ rfl).1; rwa [rows_len] at this
    have hml : mm.length ≤ maxLen := by have := (hw 0 4 _ rfl).1; rwa [rows_len] at this
    clear hw
    simp only [maxLen] at hl hml
    dsimp only [fltD]
    rw [putX]
    refine FCalls.pure (fcallsG (fz := true) G_ok (p := i47) rfl _ (Nat.le_of_ble_eq_true rfl) _ (fun C0 E0 => ?_)) rfl
    dsimp only [i47, qt, qi, qs, qb, qm, qn, qa, qg, argsφ]
    have uu := And.intro @escRG.eq_1 (And.intro @escRG.eq_2 (And.intro @putmG.eq_1 (And.intro @putmG.eq_2 (And.intro @un_F (And.intro @un_T (And.intro @enc_rFlt (And.intro @tabFxI_r (And.intro @tabFxI_k (And.intro @tabFxI_q47 (@tabFxI_q72))))))))))
    refine WI.seq ?_
    refine WI.regB (tabFxI_ok (putmG N) (putmG_ok N ih)) [1] ?_
    refine oG ?_
    refine oS ?_
    refine oN ?_
    refine thenQ_normal ?_
    refine WI.seq ?_
    refine WI.regB (tabFxI_ok (putmG N) (putmG_ok N ih)) [1, 3] ?_
    refine oS ?_
    refine oN ?_
    refine thenQ_normal ?_
    refine WI.join (fun φ os => φ = [(1, .ptr 0 0), (3, .x (.str (40 :: hdX k a v h mm t)))] ∧ os = [.box [.x (.int .i64 k), .x (.str a), .x (.str v), .x (.str h), .x (.sl (rows rStr mm)), .x (.str t), .x (.sl (rows rFlt l))]]) ?_ (fun φ os hJ => ?_)
    · refine WI.seq ?_
      refine WI.regB (tabFxI_ok (putmG N) (putmG_ok N ih)) [1, 3, 7] ?_
      refine oS ?_
      refine oG (hok := by first | exact sd | (rw [decide_eq_true_eq]; simp only [List.length_append, List.length_cons, List.length_nil]; omega)) ?_
      refine oN ?_
      refine thenQ_normal ?_
      refine WI.block ?_
      refine WI.seq ?_
      refine WI.regB (tabFxI_ok (putmG N) (putmG_ok N ih)) [1, 3, 7, 43] ?_
      refine oG (hok := by first | exact sd | (rw [decide_eq_true_eq]; simp only [List.length_append, List.length_cons, List.length_nil]; omega)) ?_
      refine oS ?_
      refine oN ?_
      refine thenQ_normal ?_
      refine WI.cond (b := _) rfl rfl (fun h0 => ?_) (fun h0 => ?_)
      · try simp only [zB] at h0
        refine WI.regB (tabFxI_ok (putmG N) (putmG_ok N ih)) [1, 3] ?_
        refine oS ?_
        refine oG (hok := by first | exact sd | (rw [decide_eq_true_eq]; simp only [List.length_append, List.length_cons, List.length_nil]; omega)) ?_
        refine oS ?_
        refine oN ?_
        refine blockQ_normal ?_
        refine thenQ_normal ?_
        refine ⟨?_, rfl⟩; clear uu; simp only [hdX]; (repeat' split) <;> first | rfl | (exfalso; omega) | (try rw [List.take_of_length_le (by omega)]; simp)
      · try simp only [zB] at h0
        refine WI.seq ?_
        refine WI.regB (tabFxI_ok (putmG N) (putmG_ok N ih)) [1, 3, 7, 47] ?_
        refine oG (hok := by first | exact sd | (rw [decide_eq_true_eq]; simp only [List.length_append, List.length_cons, List.length_nil]; omega)) ?_
        refine oS ?_
        refine oN ?_
        refine thenQ_normal ?_
        refine WI.cond (b := _) rfl rfl (fun h1 => ?_) (fun h1 => ?_)
        · try simp only [zB] at h1
          refine WI.regB (tabFxI_ok (putmG N) (putmG_ok N ih)) [1, 3] ?_
          refine oS ?_
          refine oG (hok := by first | exact sd | (rw [decide_eq_true_eq]; simp only [List.length_append, List.length_cons, List.length_nil]; omega)) ?_
          refine oS ?_
          refine oN ?_
          refine blockQ_normal ?_
          refine thenQ_normal ?_
          refine ⟨?_, rfl⟩; clear uu; simp only [hdX]; (repeat' split) <;> first | rfl | (exfalso; omega) | (try rw [List.take_of_length_le (by omega)]; simp)
        · try simp only [zB] at h1
          refine WI.seq ?_
          refine WI.regB (tabFxI_ok (putmG N) (putmG_ok N ih)) [1, 3, 7, 51] ?_
          refine oG (hok := by first | exact sd | (rw [decide_eq_true_eq]; simp only [List.length_append, List.length_cons, List.length_nil]; omega)) ?_
          refine oS ?_
          refine oN ?_
          refine thenQ_normal ?_
          refine WI.cond (b := _) rfl rfl (fun h2 => ?_) (fun h2 => ?_)
          · try simp only [zB] at h2
            refine WI.regB (tabFxI_ok (putmG N) (putmG_ok N ih)) [1, 3] ?_
            refine oS ?_
            refine oG (hok := by first | exact sd | (rw [decide_eq_true_eq]; simp only [List.length_append, List.length_cons, List.length_nil]; omega)) ?_
            refine oS ?_
            refine oN ?_
            refine blockQ_normal ?_
            refine thenQ_normal ?_
            refine ⟨?_, rfl⟩; clear uu; simp only [hdX]; (repeat' split) <;> first | rfl | (exfalso; omega) | (try rw [List.take_of_length_le (by omega)]; simp)
          · try simp only [zB] at h2
            refine WI.seq ?_
            refine WI.regB (tabFxI_ok (putmG N) (putmG_ok N ih)) [1, 3, 7, 55] ?_
            refine oG (hok := by first | exact sd | (rw [decide_eq_true_eq]; simp only [List.length_append, List.length_cons, List.length_nil]; omega)) ?_
            refine oS ?_
            refine oN ?_
            refine thenQ_normal ?_
            refine WI.cond (b := _) rfl rfl (fun h3 => ?_) (fun h3 => ?_)
            · try simp only [zB] at h3
              refine WI.dregB (tabFxI_ok (putmG N) (putmG_ok N ih)) [1, 3] ?_
              iterate 2 refine dFS ?_
              refine dQG (hok := by first | exact sd | (rw [decide_eq_true_eq]; simp only [List.length_append, List.length_cons, List.length_nil]; omega)) ?_
              iterate 2 refine dFG (hok := by first | exact sd | (rw [decide_eq_true_eq]; simp only [List.length_append, List.length_cons, List.length_nil]; omega)) ?_
              refine dFS ?_
              refine dQG (hok := by first | exact sd | (rw [decide_eq_true_eq]; simp only [List.length_append, List.length_cons, List.length_nil]; omega)) ?_
              refine dQC (hok := by first | exact sd | (rw [decide_eq_true_eq]; simp only [List.length_append, List.length_cons, List.length_nil]; omega)) ?_
              refine dFG (hok := by first | exact sd | (rw [decide_eq_true_eq]; simp only [List.length_append, List.length_cons, List.length_nil]; omega)) ?_
              refine dFS ?_
              refine dN ?_
              refine blockQ_normal ?_
              refine thenQ_normal ?_
              refine ⟨?_, rfl⟩; clear uu; simp only [hdX]; (repeat' split) <;> first | rfl | (exfalso; omega) | (try rw [List.take_of_length_le (by omega)]; simp)
            · try simp only [zB] at h3
              refine WI.seq ?_
              refine WI.regB (tabFxI_ok (putmG N) (putmG_ok N ih)) [1, 3, 7, 66] ?_
              refine oG (hok := by first | exact sd | (rw [decide_eq_true_eq]; simp only [List.length_append, List.length_cons, List.length_nil]; omega)) ?_
              refine oS ?_
              refine oN ?_
              refine thenQ_normal ?_
              refine WI.cond (b := _) rfl rfl (fun h4 => ?_) (fun h4 => ?_)
              · try simp only [zB] at h4
                refine WI.dregB (tabFxI_ok (putmG N) (putmG_ok N ih)) [1, 3] ?_
                iterate 2 refine dFS ?_
                refine dQG (hok := by first | exact sd | (rw [decide_eq_true_eq]; simp only [List.length_append, List.length_cons, List.length_nil]; omega)) ?_
                iterate 2 refine dFG (hok := by first | exact sd | (rw [decide_eq_true_eq]; simp only [List.length_append, List.length_cons, List.length_nil]; omega)) ?_
                refine dFS ?_
                refine dQG (hok := by first | exact sd | (rw [decide_eq_true_eq]; simp only [List.length_append, List.length_cons, List.length_nil]; omega)) ?_
                refine dQC (hok := by first | exact sd | (rw [decide_eq_true_eq]; simp only [List.length_append, List.length_cons, List.length_nil]; omega)) ?_
                refine dFG (hok := by first | exact sd | (rw [decide_eq_true_eq]; simp only [List.length_append, List.length_cons, List.length_nil]; omega)) ?_
                refine dFS ?_
                refine dN ?_
                refine blockQ_normal ?_
                refine thenQ_normal ?_
                refine ⟨?_, rfl⟩; clear uu; simp only [hdX]; (repeat' split) <;> first | rfl | (exfalso; omega) | (try rw [List.take_of_length_le (by omega)]; simp)
              · try simp only [zB] at h4
                refine WI.seq ?_
                refine WI.regB (tabFxI_ok (putmG N) (putmG_ok N ih)) [1, 3, 7, 77] ?_
                refine oG (hok := by first | exact sd | (rw [decide_eq_true_eq]; simp only [List.length_append, List.length_cons, List.length_nil]; omega)) ?_
                refine oS ?_
                refine oN ?_
                refine thenQ_normal ?_
                refine WI.cond (b := _) rfl rfl (fun h5 => ?_) (fun h5 => ?_)
                · try simp only [zB] at h5
                  refine WI.dregB (tabFxI_ok (putmG N) (putmG_ok N ih)) [1, 3] ?_
                  iterate 2 refine dFS ?_
                  refine dQG (hok := by first | exact sd | (rw [decide_eq_true_eq]; simp only [List.length_append, List.length_cons, List.length_nil]; omega)) ?_
                  iterate 2 refine dFG (hok := by first | exact sd | (rw [decide_eq_true_eq]; simp only [List.length_append, List.length_cons, List.length_nil]; omega)) ?_
                  refine dFS ?_
                  refine dQG (hok := by first | exact sd | (rw [decide_eq_true_eq]; simp only [List.length_append, List.length_cons, List.length_nil]; omega)) ?_
                  refine dQC (hok := by first | exact sd | (rw [decide_eq_true_eq]; simp only [List.length_append, List.length_cons, List.length_nil]; omega)) ?_
                  refine dFG (hok := by first | exact sd | (rw [decide_eq_true_eq]; simp only [List.length_append, List.length_cons, List.length_nil]; omega)) ?_
                  refine dFS ?_
                  refine dN ?_
                  refine blockQ_normal ?_
                  refine thenQ_normal ?_
                  refine ⟨?_, rfl⟩; clear uu; simp only [hdX]; (repeat' split) <;> first | rfl | (exfalso; omega) | (try rw [List.take_of_length_le (by omega)]; simp)
                · try simp only [zB] at h5
                  refine WI.seq ?_
                  refine WI.regB (tabFxI_ok (putmG N) (putmG_ok N ih)) [1, 3, 7, 88] ?_
                  refine oG (hok := by first | exact sd | (rw [decide_eq_true_eq]; simp only [List.length_append, List.length_cons, List.length_nil]; omega)) ?_
                  refine oS ?_
                  refine oN ?_
                  refine thenQ_normal ?_
                  refine WI.cond (b := _) rfl rfl (fun h6 => ?_) (fun h6 => ?_)
                  · try simp only [zB] at h6
                    refine WI.dregB (tabFxI_ok (putmG N) (putmG_ok N ih)) [1, 3] ?_
                    iterate 2 refine dFS ?_
                    refine dQG (hok := by first | exact sd | (rw [decide_eq_true_eq]; simp only [List.length_append, List.length_cons, List.length_nil]; omega)) ?_
                    iterate 2 refine dFG (hok := by first | exact sd | (rw [decide_eq_true_eq]; simp only [List.length_append, List.length_cons, List.length_nil]; omega)) ?_
                    refine dFS ?_
                    refine dQG (hok := by first | exact sd | (rw [decide_eq_true_eq]; simp only [List.length_append, List.length_cons, List.length_nil]; omega)) ?_
                    refine dQC (hok := by first | exact sd | (rw [decide_eq_true_eq]; simp only [List.length_append, List.length_cons, List.length_nil]; omega)) ?_
                    refine dFG (hok := by first | exact sd | (rw [decide_eq_true_eq]; simp only [List.length_append, List.length_cons, List.length_nil]; omega)) ?_
                    refine dFS ?_
                    refine dN ?_
                    refine blockQ_normal ?_
                    refine thenQ_normal ?_
                    refine ⟨?_, rfl⟩; clear uu; simp only [hdX]; (repeat' split) <;> first | rfl | (exfalso; omega) | (try rw [List.take_of_length_le (by omega)]; simp)
                  · try simp only [zB] at h6
                    refine WI.seq ?_
                    refine WI.regB (tabFxI_ok (putmG N) (putmG_ok N ih)) [1, 3, 99] ?_
                    refine oG (hok := by first | exact sd | (rw [decide_eq_true_eq]; simp only [List.length_append, List.length_cons, List.length_nil]; omega)) ?_
                    refine oS ?_
                    refine oN ?_
                    refine thenQ_normal ?_
                    refine WI.cond (b := _) rfl rfl (fun h7 => ?_) (fun h7 => ?_)
                    · try simp only [zB] at h7
                      refine WI.regB (tabFxI_ok (putmG N) (putmG_ok N ih)) [1, 3] ?_
                      iterate 2 refine oS ?_
                      iterate 3 refine oG (hok := by first | exact sd | (rw [decide_eq_true_eq]; simp only [List.length_append, List.length_cons, List.length_nil]; omega)) ?_
                      refine oS ?_
                      refine oN ?_
                      refine blockQ_normal ?_
                      refine thenQ_normal ?_
                      refine ⟨?_, rfl⟩; clear uu; simp only [hdX]; (repeat' split) <;> first | rfl | (exfalso; omega) | (try rw [List.take_of_length_le (by omega)]; simp)
                    · try simp only [zB] at h7
                      refine WI.seq ?_
                      refine WI.dregB (tabFxI_ok (putmG N) (putmG_ok N ih)) [1, 3] ?_
                      iterate 2 refine dFS ?_
                      refine dQG (hok := by first | exact sd | (rw [decide_eq_true_eq]; simp only [List.length_append, List.length_cons, List.length_nil]; omega)) ?_
                      iterate 2 refine dFG (hok := by first | exact sd | (rw [decide_eq_true_eq]; simp only [List.length_append, List.length_cons, List.length_nil]; omega)) ?_
                      iterate 2 refine dFS ?_
                      refine dQG (hok := by first | exact sd | (rw [decide_eq_true_eq]; simp only [List.length_append, List.length_cons, List.length_nil]; omega)) ?_
                      refine dQC (hok := by first | exact sd | (rw [decide_eq_true_eq]; simp only [List.length_append, List.length_cons, List.length_nil]; omega)) ?_
                      iterate 2 refine dFG (hok := by first | exact sd | (rw [decide_eq_true_eq]; simp only [List.length_append, List.length_cons, List.length_nil]; omega)) ?_
                      refine dFS ?_
                      refine dN ?_
                      refine thenQ_normal ?_
                      refine WI.seq ?_
                      refine WI.seq ?_
                      refine WI.regB (tabFxI_ok (putmG N) (putmG_ok N ih)) [1, 3, 4] ?_
                      refine oS ?_
                      refine oN ?_
                      refine thenQ_normal ?_
                      refine WI.block ?_
                      refine WI.loop (fun φ os => ∃ (j : Nat), φ = [(1, .ptr 0 0), (3, .x (.str (40 :: (a ++ ([61] ++ (escS h ++ ([42] ++ midX (mm.take j)))))))), (4, .x (.int .i64 j))] ∧ os = [.box [.x (.int .i64 k), .x (.str a), .x (.str v), .x (.str h), .x (.sl (rows rStr mm)), .x (.str t), .x (.sl (rows rFlt l))]] ∧ j ≤ mm.length) (down mm.length 4) ?_ (fun φ os hI => ?_)
                      · exact ⟨0, by simp [midX], rfl, by omega⟩
                      · obtain ⟨j, rfl, rfl, hj⟩ := hI
                        refine WI.seq ?_
                        refine WI.seq ?_
                        refine WI.regB (tabFxI_ok (putmG N) (putmG_ok N ih)) [1, 3, 4, 24] ?_
                        iterate 3 refine oS ?_
                        iterate 3 refine oG (hok := by first | exact sd | (rw [decide_eq_true_eq]; simp only [List.length_append, List.length_cons, List.length_nil]; omega)) ?_
                        refine oN ?_
                        refine thenQ_normal ?_
                        refine WI.cond (b := _) rfl rfl (fun h8 => ?_) (fun h8 => ?_)
                        · try simp only [zB] at h8
                          refine WI.skip ?_
                          refine thenQ_normal ?_
                          refine WI.seq ?_
                          refine WI.block ?_
                          have hj4 : j < mm.length := by omega
                          have hjl := midX_len (mm.take j)
                          have hjw := midW_take mm j
                          have hjg := midW_get mm j hj4
                          have hje := escS_len mm[j]
                          have hst := midX_snoc (mm.take j) mm[j]
                          rw [← List.take_succ_eq_append_getElem hj4] at hst
                          refine WI.regB (tabFxI_ok (putmG N) (putmG_ok N ih)) [1, 3, 4] ?_
                          iterate 3 refine oS ?_
                          refine oG (hok := by first | exact sd | (rw [decide_eq_true_eq]; simp only [List.length_append, List.length_cons, List.length_nil]; omega)) ?_
                          refine oS ?_
                          iterate 2 refine oG (hok := by first | exact sd | (rw [decide_eq_true_eq]; simp only [List.length_append, List.length_cons, List.length_nil]; omega)) ?_
                          refine oC (hok := by first | exact sd | (rw [decide_eq_true_eq]; simp only [List.length_append, List.length_cons, List.length_nil]; omega)) ?_
                          iterate 2 refine oG (hok := by first | exact sd | (rw [decide_eq_true_eq]; simp only [List.length_append, List.length_cons, List.length_nil]; omega)) ?_
                          refine oS ?_
                          refine oN ?_
                          refine blockQ_normal ?_
                          refine thenQ_normal ?_
                          refine WI.regB (tabFxI_ok (putmG N) (putmG_ok N ih)) [1, 3, 4] ?_
                          refine oS ?_
                          refine oG (hok := by first | exact sd | (rw [decide_eq_true_eq]; simp only [List.length_append, List.length_cons, List.length_nil]; omega)) ?_
                          refine oS ?_
                          refine oN ?_
                          refine thenQ_normal ?_
                          exact ⟨⟨j + 1, by rw [hst]; simp, rfl, by omega⟩, by simp [down, Ab.get, D.val, intOf?]; omega⟩
                        · try simp only [zB] at h8
                          refine WI.exit ?_
                          refine thenQ_exit ?_
                          refine thenQ_exit ?_
                          refine blockQ_hit ?_
                          refine thenQ_normal ?_
                          refine WI.regB (tabFxI_ok (putmG N) (putmG_ok N ih)) [1, 3] ?_
                          iterate 3 refine oS ?_
                          refine oG (hok := by first | exact sd | (rw [decide_eq_true_eq]; simp only [List.length_append, List.length_cons, List.length_nil]; omega)) ?_
                          refine oC (hok := by first | exact sd | (rw [decide_eq_true_eq]; simp only [List.length_append, List.length_cons, List.length_nil]; omega)) ?_
                          refine oG (hok := by first | exact sd | (rw [decide_eq_true_eq]; simp only [List.length_append, List.length_cons, List.length_nil]; omega)) ?_
                          refine oS ?_
                          refine oN ?_
                          refine blockQ_normal ?_
                          refine thenQ_normal ?_
                          refine ⟨?_, rfl⟩; clear uu; simp only [hdX]; (repeat' split) <;> first | rfl | (exfalso; omega) | (try rw [List.take_of_length_le (by omega)]; simp)
    · obtain ⟨rfl, rfl⟩ := hJ
      refine WI.seq ?_
      refine WI.seq ?_
      refine WI.regB (tabFxI_ok (putmG N) (putmG_ok N ih)) [1, 3, 5] ?_
      refine oS ?_
      refine oN ?_
      refine thenQ_normal ?_
      refine WI.block ?_
      refine WI.loop (fun φ os => ∃ (j : Nat), φ = [(1, .ptr 0 0), (3, .x (.str (40 :: (hdX k a v h mm t ++ putXL (l.take j))))), (5, .x (.int .i64 j))] ∧ os = [.box [.x (.int .i64 k), .x (.str a), .x (.str v), .x (.str h), .x (.sl (rows rStr mm)), .x (.str t), .x (.sl (rows rFlt l))]] ∧ j ≤ l.length) (down l.length 5) ?_ (fun φ os hI => ?_)
      · exact ⟨0, by simp [putXL], rfl, by omega⟩
      · obtain ⟨j, rfl, rfl, hj⟩ := hI
        refine WI.seq ?_
        refine WI.seq ?_
        refine WI.regB (tabFxI_ok (putmG N) (putmG_ok N ih)) [1, 3, 5, 110] ?_
        iterate 2 refine oS ?_
        iterate 3 refine oG (hok := by first | exact sd | (rw [decide_eq_true_eq]; simp only [List.length_append, List.length_cons, List.length_nil]; omega)) ?_
        refine oN ?_
        refine thenQ_normal ?_
        refine WI.cond (b := _) rfl rfl (fun h9 => ?_) (fun h9 => ?_)
        · try simp only [zB] at h9
          refine WI.skip ?_
          refine thenQ_normal ?_
          refine WI.seq ?_
          refine WI.block ?_
          have hj4 : j < l.length := by omega
          have hs1 : szF l[j] ≤ N := Nat.le_trans (szFL_get l j hj4) hsz
          have hw1 : wF l[j] ≤ 300000 := Nat.le_trans (wFL_get l j hj4) (by omega)
          have hst := putXL_snoc (l.take j) l[j]
          rw [← List.take_succ_eq_append_getElem hj4] at hst
          have hq1 := putXL_len (l.take j)
          have hq2 := wFL_take l j
          have hq3 := putX_len l[j]
          have hq4 := hdX_len k a v h mm t
          rcases hx : l[j] with ⟨k1, a1, v1, h1', m1, t1, l1⟩
          rw [hx] at hs1 hst hw1 hq3
          have uu := And.intro uu hx
          refine WI.regB (tabFxI_ok (putmG N) (putmG_ok N ih)) [1, 3, 5] ?_
          iterate 2 refine oS ?_
          refine oG (hok := by first | exact sd | (rw [decide_eq_true_eq]; simp only [List.length_append, List.length_cons, List.length_nil]; omega)) ?_
          refine oS ?_
          iterate 2 refine oG (hok := by first | exact sd | (rw [decide_eq_true_eq]; simp only [List.length_append, List.length_cons, List.length_nil]; omega)) ?_
          refine oC (hok := by first | exact sd | (rw [decide_eq_true_eq]; simp only [List.length_append, List.length_cons, List.length_nil]; omega)) ?_
          refine oG (hok := by first | exact sd | (rw [decide_eq_true_eq]; simp only [List.length_append, List.length_cons, List.length_nil]; omega)) ?_
          refine oS ?_
          refine oN ?_
          refine blockQ_normal ?_
          refine thenQ_normal ?_
          refine WI.regB (tabFxI_ok (putmG N) (putmG_ok N ih)) [1, 3, 5] ?_
          refine oS ?_
          refine oG (hok := by first | exact sd | (rw [decide_eq_true_eq]; simp only [List.length_append, List.length_cons, List.length_nil]; omega)) ?_
          refine oS ?_
          refine oN ?_
          refine thenQ_normal ?_
          exact ⟨⟨j + 1, by rw [hst]; simp, rfl, by omega⟩, by simp [down, Ab.get, D.val, intOf?]; omega⟩
        · try simp only [zB] at h9
          have hq1 := putXL_len (l.take j)
          have hq2 := wFL_take l j
          have hq4 := hdX_len k a v h mm t
          refine WI.exit ?_
          refine thenQ_exit ?_
          refine thenQ_exit ?_
          refine blockQ_hit ?_
          refine thenQ_normal ?_
          refine WI.seq ?_
          refine WI.regB (tabFxI_ok (putmG N) (putmG_ok N ih)) [2] ?_
          refine oS ?_
          refine oG (hok := by first | exact sd | (rw [decide_eq_true_eq]; simp only [List.length_append, List.length_cons, List.length_nil]; omega)) ?_
          refine oS ?_
          refine oN ?_
          refine thenQ_normal ?_
          refine WI.ret ?_
          first | refine lfR ?_ | refine lfR2 ?_
          rw [List.take_of_length_le (by omega)]; simp -- leaf 0
def putRG : List D → Option (Bool × D)
  | [.agg [.x (.int .i64 k), .x (.str a), .x (.str v), .x (.str hd), .x (.sl M), .x (.str t), .x (.sl L)]] => (unrows rStr M).bind fun mm => (unrows rFlt L).bind fun l => some (decide (wF (.mk k a v hd mm t l) ≤ 300000), .x (.str (putX (.mk k a v hd mm t l))))
  | _ => none
theorem putRG_ok : ∀ args r, putRG args = some (true, r) → PCalls Tryd.prog 47 args r := by
  intro args r h
  unfold putRG at h
  split at h
  · rename_i k a v hd M t L
    obtain ⟨mm, hr0, h⟩ := Option.bind_eq_some_iff.1 h
    obtain ⟨l, hr1, h⟩ := Option.bind_eq_some_iff.1 h
    simp only [Option.some.injEq, Prod.mk.injEq, Bool.and_eq_true, decide_eq_true_eq, true_and] at h
    obtain ⟨h1, rfl⟩ := h
    rw [← rows_unrows good_rStr hr0]
    rw [← rows_unrows good_rFlt hr1]
    exact putR_c _ (.mk k a v hd mm t l) ⟨Nat.le_refl _, h1⟩
  · cases h
end Go.Proofs.YtmlpbojoekmfaaaDoor
end
section
/- Ftext: whole texts read. -/
set_option linter.unusedSimpArgs false
set_option linter.unusedVariables false
namespace Go.Proofs.YtmlpbojoekmfaaaDoor
open Go.RowKit Go.Bo Go.Ab

def chkF (f : Flt) : Int := if (depF f 64 : Int) > 16 then 7 else allF f
def all1G : List D → Option (Bool × D)
  | [.agg [.x (.int .i64 k), .x (.str a), .x (.str v), .x (.str hd), .x (.sl M), .x (.str t), .x (.sl L)]] => (unrows rStr M).bind fun mm => (unrows rFlt L).bind fun l => some (decide (smF (.mk k a v hd mm t l)), .x (.int .i64 (allF (.mk k a v hd mm t l))))
  | _ => none
theorem all1G_ok : ∀ args r, all1G args = some (true, r) → PCalls Tryd.prog 44 args r := by
  intro args r h
  unfold all1G at h
  split at h
  · rename_i k a v hd M t L
    obtain ⟨mm, hr0, h⟩ := Option.bind_eq_some_iff.1 h
    obtain ⟨l, hr1, h⟩ := Option.bind_eq_some_iff.1 h
    simp only [Option.some.injEq, Prod.mk.injEq, Bool.and_eq_true, decide_eq_true_eq, true_and] at h
    obtain ⟨h1, rfl⟩ := h
    rw [← rows_unrows good_rStr hr0]
    rw [← rows_unrows good_rFlt hr1]
    exact all_c _ (.mk k a v hd mm t l) ⟨Nat.le_refl _, h1⟩
  · cases h
def allD1G : List D → Option (Bool × D)
  | [.agg [.x (.int .i64 k), .x (.str a), .x (.str v), .x (.str hd), .x (.sl M), .x (.str t), .x (.sl L)]] => (unrows rStr M).bind fun mm => (unrows rFlt L).bind fun l => some (decide (smF (.mk k a v hd mm t l)), .x (.int .i64 (allF (.mk k a v hd mm t l))))
  | _ => none
theorem allD1G_ok : ∀ args r, allD1G args = some (true, r) → PCalls Tryd.prog 71 args r := by
  intro args r h
  unfold allD1G at h
  split at h
  · rename_i k a v hd M t L
    obtain ⟨mm, hr0, h⟩ := Option.bind_eq_some_iff.1 h
    obtain ⟨l, hr1, h⟩ := Option.bind_eq_some_iff.1 h
    simp only [Option.some.injEq, Prod.mk.injEq, Bool.and_eq_true, decide_eq_true_eq, true_and] at h
    obtain ⟨h1, rfl⟩ := h
    rw [← rows_unrows good_rStr hr0]
    rw [← rows_unrows good_rFlt hr1]
    exact allD_c _ (.mk k a v hd mm t l) ⟨Nat.le_refl _, h1⟩
  · cases h
def deep1G : List D → Option (Bool × D)
  | [.agg [.x (.int .i64 k), .x (.str a), .x (.str v), .x (.str hd), .x (.sl M), .x (.str t), .x (.sl L)], .x (.int .i64 64)] => (unrows rStr M).bind fun mm => (unrows rFlt L).bind fun l => some (true, .x (.int .i64 (depF (.mk k a v hd mm t l) 64 : Nat)))
  | _ => none
theorem deep1G_ok : ∀ args r, deep1G args = some (true, r) → PCalls Tryd.prog 94 args r := by
  intro args r h
  unfold deep1G at h
  split at h
  · rename_i k a v hd M t L
    obtain ⟨mm, hr0, h⟩ := Option.bind_eq_some_iff.1 h
    obtain ⟨l, hr1, h⟩ := Option.bind_eq_some_iff.1 h
    simp only [Option.some.injEq, Prod.mk.injEq, Bool.and_eq_true, decide_eq_true_eq, true_and] at h
    obtain rfl := h
    rw [← rows_unrows good_rStr hr0]
    rw [← rows_unrows good_rFlt hr1]
    exact deep_c _ (.mk k a v hd mm t l) 64 ⟨Nat.le_refl _, by omega, by omega⟩
  · cases h
def tabFxJ : Tabs := addQ (noTabs) 94 deep1G
theorem tabFxJ_ok : SsOk Tryd.prog tabFxJ := addQ_ok (noTabs_ok) (G_enters G_ok (p := i94) rfl) deep1G_ok
theorem tabFxJ_q94 (a : List D) : tabFxJ.q 94 a = deep1G a := rfl
theorem tabFxJ_r (f : FuncId) (a : List D) (o : List Ob) : tabFxJ.r f a o = none := rfl
theorem tabFxJ_k (f : FuncId) (a : List D) (o : List Ob) : tabFxJ.k f a o = none := rfl
theorem DepthD_c (f : Flt) : PCalls Tryd.prog 70 [fltD f] (.x (.int .i64 (depF f 64 : Nat))) := by
  obtain ⟨k, a, v, h, mm, t, l⟩ := f
  dsimp only [fltD]
  refine FCalls.pure (fcallsG (fz := true) G_ok (p := i70) rfl _ (Nat.le_of_ble_eq_true rfl) _ (fun C0 E0 => ?_)) rfl
  dsimp only [i70, qt, qi, qs, qb, qm, qn, qa, qg, argsφ]
  have uu := And.intro @deep1G.eq_1 (And.intro @deep1G.eq_2 (And.intro @un_F (And.intro @un_T (And.intro @tabFxJ_r (And.intro @tabFxJ_k (@tabFxJ_q94))))))
  have tT := tabFxJ_ok
  refine nz ?_
  refine rg tT [1] ?_
  refine rg tT [2] ?_
  refine lf ?_
  first | rfl | exact ⟨rfl, rfl⟩ | trivial -- leaf 0
def DepDG : List D → Option (Bool × D)
  | [.agg [.x (.int .i64 k), .x (.str a), .x (.str v), .x (.str hd), .x (.sl M), .x (.str t), .x (.sl L)]] => (unrows rStr M).bind fun mm => (unrows rFlt L).bind fun l => some (true, .x (.int .i64 (depF (.mk k a v hd mm t l) 64 : Nat)))
  | _ => none
theorem DepDG_ok : ∀ args r, DepDG args = some (true, r) → PCalls Tryd.prog 70 args r := by
  intro args r h
  unfold DepDG at h
  split at h
  · rename_i k a v hd M t L
    obtain ⟨mm, hr0, h⟩ := Option.bind_eq_some_iff.1 h
    obtain ⟨l, hr1, h⟩ := Option.bind_eq_some_iff.1 h
    simp only [Option.some.injEq, Prod.mk.injEq, Bool.and_eq_true, decide_eq_true_eq, true_and] at h
    obtain rfl := h
    rw [← rows_unrows good_rStr hr0]
    rw [← rows_unrows good_rFlt hr1]
    exact DepthD_c (.mk k a v hd mm t l)
  · cases h
def tabFxK : Tabs := addQ (addQ (noTabs) 43 Dep11G) 44 all1G
theorem tabFxK_ok : SsOk Tryd.prog tabFxK := addQ_ok (addQ_ok (noTabs_ok) (G_enters G_ok (p := i43) rfl) Dep11G_ok) (G_enters G_ok (p := i44) rfl) all1G_ok
theorem tabFxK_q43 (a : List D) : tabFxK.q 43 a = Dep11G a := rfl
theorem tabFxK_q44 (a : List D) : tabFxK.q 44 a = all1G a := rfl
theorem tabFxK_r (f : FuncId) (a : List D) (o : List Ob) : tabFxK.r f a o = none := rfl
theorem tabFxK_k (f : FuncId) (a : List D) (o : List Ob) : tabFxK.k f a o = none := rfl
def tabFxL : Tabs := addQ (addQ (noTabs) 70 DepDG) 71 allD1G
theorem tabFxL_ok : SsOk Tryd.prog tabFxL := addQ_ok (addQ_ok (noTabs_ok) (G_enters G_ok (p := i70) rfl) DepDG_ok) (G_enters G_ok (p := i71) rfl) allD1G_ok
theorem tabFxL_q70 (a : List D) : tabFxL.q 70 a = DepDG a := rfl
theorem tabFxL_q71 (a : List D) : tabFxL.q 71 a = allD1G a := rfl
theorem tabFxL_r (f : FuncId) (a : List D) (o : List Ob) : tabFxL.r f a o = none := rfl
theorem tabFxL_k (f : FuncId) (a : List D) (o : List Ob) : tabFxL.k f a o = none := rfl
theorem chk_c (f : Flt) (hs : smF f) : PCalls Tryd.prog 21 [fltD f] (.x (.int .i64 (chkF f))) := by
  obtain ⟨k, a, v, h, mm, t, l⟩ := f
  dsimp only [fltD]
  unfold chkF
  refine FCalls.pure (fcallsG (fz := true) G_ok (p := i21) rfl _ (Nat.le_of_ble_eq_true rfl) _ (fun C0 E0 => ?_)) rfl
  dsimp only [i21, qt, qi, qs, qb, qm, qn, qa, qg, argsφ]
  have uu := And.intro @Dep11G.eq_1 (And.intro @Dep11G.eq_2 (And.intro @all1G.eq_1 (And.intro @all1G.eq_2 (And.intro @un_F (And.intro @un_T (And.intro @tabFxK_r (And.intro @tabFxK_k (And.intro @tabFxK_q43 (@tabFxK_q44)))))))))
  have tT := tabFxK_ok
  refine nz ?_
  refine WI.regB tT [1] ?_
  refine oG ?_
  refine oS ?_
  refine oN ?_
  refine nz ?_
  refine WI.regB tT [1, 5] ?_
  refine oG (hok := by first | exact sd | (exact decide_eq_true hs)) ?_
  refine oC (hok := by first | exact sd | (exact decide_eq_true hs)) ?_
  refine oG (hok := by first | exact sd | (exact decide_eq_true hs)) ?_
  refine oN ?_
  refine nz ?_
  refine cd (fun h0 => ?_) (fun h0 => ?_)
  · refine WI.regB tT [2] ?_
    refine oS ?_
    refine oN ?_
    refine nz ?_
    refine lf ?_
    rw [if_pos (by simpa using h0)] -- leaf 0
  · refine WI.regB tT [2] ?_
    refine oG (hok := by first | exact sd | (exact decide_eq_true hs)) ?_
    refine oC (hok := by first | exact sd | (exact decide_eq_true hs)) ?_
    refine oS ?_
    refine oN ?_
    refine nz ?_
    refine lf ?_
    rw [if_neg (by simpa using h0)] -- leaf 1
theorem chkD_c (f : Flt) (hs : smF f) : PCalls Tryd.prog 46 [fltD f] (.x (.int .i64 (chkF f))) := by
  obtain ⟨k, a, v, h, mm, t, l⟩ := f
  dsimp only [fltD]
  unfold chkF
  refine FCalls.pure (fcallsG (fz := true) G_ok (p := i46) rfl _ (Nat.le_of_ble_eq_true rfl) _ (fun C0 E0 => ?_)) rfl
  dsimp only [i46, qt, qi, qs, qb, qm, qn, qa, qg, argsφ]
  have uu := And.intro @DepDG.eq_1 (And.intro @DepDG.eq_2 (And.intro @allD1G.eq_1 (And.intro @allD1G.eq_2 (And.intro @un_F (And.intro @un_T (And.intro @tabFxL_r (And.intro @tabFxL_k (And.intro @tabFxL_q70 (@tabFxL_q71)))))))))
  have tT := tabFxL_ok
  refine nz ?_
  refine WI.regB tT [1] ?_
  refine oG ?_
  refine oS ?_
  refine oN ?_
  refine nz ?_
  refine WI.regB tT [1, 5] ?_
  refine oG (hok := by first | exact sd | (exact decide_eq_true hs)) ?_
  refine oC (hok := by first | exact sd | (exact decide_eq_true hs)) ?_
  refine oG (hok := by first | exact sd | (exact decide_eq_true hs)) ?_
  refine oN ?_
  refine nz ?_
  refine cd (fun h0 => ?_) (fun h0 => ?_)
  · refine WI.regB tT [2] ?_
    refine oS ?_
    refine oN ?_
    refine nz ?_
    refine lf ?_
    rw [if_pos (by simpa using h0)] -- leaf 0
  · refine WI.regB tT [2] ?_
    refine oG (hok := by first | exact sd | (exact decide_eq_true hs)) ?_
    refine oC (hok := by first | exact sd | (exact decide_eq_true hs)) ?_
    refine oS ?_
    refine oN ?_
    refine nz ?_
    refine lf ?_
    rw [if_neg (by simpa using h0)] -- leaf 1
def chkG : List D → Option (Bool × D)
  | [.agg [.x (.int .i64 k), .x (.str a), .x (.str v), .x (.str hd), .x (.sl M), .x (.str t), .x (.sl L)]] => (unrows rStr M).bind fun mm => (unrows rFlt L).bind fun l => some (decide (smF (.mk k a v hd mm t l)), .x (.int .i64 (chkF (.mk k a v hd mm t l))))
  | _ => none
theorem chkG_ok : ∀ args r, chkG args = some (true, r) → PCalls Tryd.prog 21 args r := by
  intro args r h
  unfold chkG at h
  split at h
  · rename_i k a v hd M t L
    obtain ⟨mm, hr0, h⟩ := Option.bind_eq_some_iff.1 h
    obtain ⟨l, hr1, h⟩ := Option.bind_eq_some_iff.1 h
    simp only [Option.some.injEq, Prod.mk.injEq, Bool.and_eq_true, decide_eq_true_eq, true_and] at h
    obtain ⟨h1, rfl⟩ := h
    rw [← rows_unrows good_rStr hr0]
    rw [← rows_unrows good_rFlt hr1]
    exact chk_c (.mk k a v hd mm t l) h1
  · cases h
def chkDG : List D → Option (Bool × D)
  | [.agg [.x (.int .i64 k), .x (.str a), .x (.str v), .x (.str hd), .x (.sl M), .x (.str t), .x (.sl L)]] => (unrows rStr M).bind fun mm => (unrows rFlt L).bind fun l => some (decide (smF (.mk k a v hd mm t l)), .x (.int .i64 (chkF (.mk k a v hd mm t l))))
  | _ => none
theorem chkDG_ok : ∀ args r, chkDG args = some (true, r) → PCalls Tryd.prog 46 args r := by
  intro args r h
  unfold chkDG at h
  split at h
  · rename_i k a v hd M t L
    obtain ⟨mm, hr0, h⟩ := Option.bind_eq_some_iff.1 h
    obtain ⟨l, hr1, h⟩ := Option.bind_eq_some_iff.1 h
    simp only [Option.some.injEq, Prod.mk.injEq, Bool.and_eq_true, decide_eq_true_eq, true_and] at h
    obtain ⟨h1, rfl⟩ := h
    rw [← rows_unrows good_rStr hr0]
    rw [← rows_unrows good_rFlt hr1]
    exact chkD_c (.mk k a v hd mm t l) h1
  · cases h
def tabFxM : Tabs := addQ (addQ (noTabs) 46 chkDG) 47 putRG
theorem tabFxM_ok : SsOk Tryd.prog tabFxM := addQ_ok (addQ_ok (noTabs_ok) (G_enters G_ok (p := i46) rfl) chkDG_ok) (G_enters G_ok (p := i47) rfl) putRG_ok
theorem tabFxM_q46 (a : List D) : tabFxM.q 46 a = chkDG a := rfl
theorem tabFxM_q47 (a : List D) : tabFxM.q 47 a = putRG a := rfl
theorem tabFxM_r (f : FuncId) (a : List D) (o : List Ob) : tabFxM.r f a o = none := rfl
theorem tabFxM_k (f : FuncId) (a : List D) (o : List Ob) : tabFxM.k f a o = none := rfl
def putF (f : Flt) : Txt × Int := if chkF f ≠ 0 then ([], chkF f) else if (putX f).length > 4096 then ([], 3) else (putX f, 0)
theorem PutD_c (f : Flt) (hw : wF f ≤ 300000) : PCalls Tryd.prog 23 [fltD f] (.tup [.x (.str (putF f).1), .x (.int .i64 (putF f).2)]) := by
  have hs := sm_w f (by omega)
  have hpl := putX_len f
  obtain ⟨k, a, v, h, mm, t, l⟩ := f
  dsimp only [fltD]
  unfold putF
  refine FCalls.pure (fcallsG (fz := true) G_ok (p := i23) rfl _ (Nat.le_of_ble_eq_true rfl) _ (fun C0 E0 => ?_)) rfl
  dsimp only [i23, qt, qi, qs, qb, qm, qn, qa, qg, argsφ]
  have uu := And.intro @chkDG.eq_1 (And.intro @chkDG.eq_2 (And.intro @putRG.eq_1 (And.intro @putRG.eq_2 (And.intro @un_F (And.intro @un_T (And.intro @tabFxM_r (And.intro @tabFxM_k (And.intro @tabFxM_q46 (@tabFxM_q47)))))))))
  have tT := tabFxM_ok
  refine nz ?_
  refine WI.regB tT [1] ?_
  refine oG ?_
  iterate 2 refine oS ?_
  refine oN ?_
  refine nz ?_
  refine WI.regB tT [1, 4] ?_
  refine oG (hok := by first | exact sd | (exact decide_eq_true hs) | (exact decide_eq_true hw)) ?_
  refine oC (hok := by first | exact sd | (exact decide_eq_true hs) | (exact decide_eq_true hw)) ?_
  refine oS ?_
  refine oN ?_
  refine nz ?_
  refine WI.regB tT [1, 4, 9] ?_
  refine oS ?_
  refine oG (hok := by first | exact sd | (exact decide_eq_true hs) | (exact decide_eq_true hw)) ?_
  refine oN ?_
  refine nz ?_
  refine cd (fun h0 => ?_) (fun h0 => ?_)
  · refine WI.regB tT [2, 3] ?_
    iterate 3 refine oS ?_
    refine oN ?_
    refine nz ?_
    refine lf ?_
    rw [if_pos (by simpa using h0)] -- leaf 0
  · refine WI.regB tT [5] ?_
    refine oG (hok := by first | exact sd | (exact decide_eq_true hs) | (exact decide_eq_true hw)) ?_
    refine oC (hok := by first | exact sd | (exact decide_eq_true hs) | (exact decide_eq_true hw)) ?_
    refine oS ?_
    refine oN ?_
    refine nz ?_
    refine WI.regB tT [5, 15] ?_
    refine oS ?_
    iterate 2 refine oG (hok := by first | exact sd | (exact decide_eq_true hs) | (exact decide_eq_true hw)) ?_
    refine oN ?_
    refine nz ?_
    refine cd (fun h1 => ?_) (fun h1 => ?_)
    · refine WI.regB tT [2, 3] ?_
      iterate 2 refine oS ?_
      refine oN ?_
      refine nz ?_
      refine lf ?_
      rw [if_neg (by simpa using h0), if_pos (by omega)] -- leaf 1
    · refine WI.regB tT [2, 3] ?_
      iterate 3 refine oS ?_
      refine oN ?_
      refine nz ?_
      refine lf ?_
      rw [if_neg (by simpa using h0), if_neg (by omega)] -- leaf 2
def PutDG : List D → Option (Bool × D)
  | [.agg [.x (.int .i64 k), .x (.str a), .x (.str v), .x (.str hd), .x (.sl M), .x (.str t), .x (.sl L)]] => (unrows rStr M).bind fun mm => (unrows rFlt L).bind fun l => some (decide (wF (.mk k a v hd mm t l) ≤ 300000), .tup [.x (.str (putF (.mk k a v hd mm t l)).1), .x (.int .i64 (putF (.mk k a v hd mm t l)).2)])
  | _ => none
theorem PutDG_ok : ∀ args r, PutDG args = some (true, r) → PCalls Tryd.prog 23 args r := by
  intro args r h
  unfold PutDG at h
  split at h
  · rename_i k a v hd M t L
    obtain ⟨mm, hr0, h⟩ := Option.bind_eq_some_iff.1 h
    obtain ⟨l, hr1, h⟩ := Option.bind_eq_some_iff.1 h
    simp only [Option.some.injEq, Prod.mk.injEq, Bool.and_eq_true, decide_eq_true_eq, true_and] at h
    obtain ⟨h1, rfl⟩ := h
    rw [← rows_unrows good_rStr hr0]
    rw [← rows_unrows good_rFlt hr1]
    exact PutD_c (.mk k a v hd mm t l) h1
  · cases h
/-! ### how great what is read is -/
theorem loopF_w (r : Txt → Flt × Txt × Bool) (hr : ∀ s, (r s).2.2 = true → wF (r s).1 + 6 * (r s).2.1.length ≤ 6 * s.length) : ∀ (n : Nat) (l : List Flt) (s : Txt), (loopF r n l s).2.2 = true → wFL (loopF r n l s).1 + 6 * (loopF r n l s).2.1.length + 6 ≤ wFL l + 6 * s.length
  | 0, l, s, h => by simp [loopF] at h
  | n + 1, l, [], h => by rw [loop_nil] at h; cases h
  | n + 1, l, c :: s, h => by
    by_cases h40 : c = 40
    · cases hq : (r (c :: s)).2.2 with
      | false => rw [loop_fail r n l c s h40 hq] at h; cases h
      | true =>
        rw [loop_go r n l c s h40 hq] at h ⊢
        have h1 := loopF_w r hr n _ _ h
        have h2 := hr _ hq
        rw [wFL_app] at h1
        simp only [wFL] at h1
        omega
    · by_cases h41 : c = 41
      · rw [loop_end r n l s c h41]; simp; omega
      · rw [loop_no r n l c s h40 h41] at h; cases h
theorem unE_c (c : UInt8) (s : Txt) (hc : c ≠ 92) : unE (c :: s) = (unE s).map (c :: ·) := by
  conv => lhs; unfold unE
  rw [if_neg hc]
theorem unE_e (x y : UInt8) (s : Txt) : unE (92 :: x :: y :: s) = if hx x < 16 ∧ hx y < 16 then (unE s).map (hxV x y :: ·) else none := by
  conv => lhs; unfold unE
  rw [if_pos rfl]
theorem unE_len : ∀ (n : Nat) (s b : Txt), s.length ≤ n → unE s = some b → b.length ≤ s.length
  | _, [], b, _, h => by rw [show unE [] = some [] from rfl] at h; cases h; simp
  | n + 1, c :: s, b, hn, h => by
    by_cases hc : c = 92
    · subst hc
      rcases s with _ | ⟨x, _ | ⟨y, r⟩⟩
      · exact absurd h (by simp [show unE [92] = none from rfl])
      · exact absurd h (by simp [show unE [92, x] = none from rfl])
      · rw [unE_e] at h
        split at h
        · obtain ⟨b', h1, rfl⟩ := Option.map_eq_some_iff.1 h
          have := unE_len n r b' (by simp at hn; omega) h1
          simp; omega
        · cases h
    · rw [unE_c c s hc] at h
      obtain ⟨b', h1, rfl⟩ := Option.map_eq_some_iff.1 h
      have := unE_len n s b' (by simp at hn; omega) h1
      simp; omega
theorem valF_len (s : Txt) : (valF s).1.length ≤ s.length := by
  unfold valF
  split
  · simp
  · rename_i b e; exact unE_len _ s b (Nat.le_refl _) e
theorem unR_cc (c : UInt8) (s : Txt) (hc : c ≠ 92) : unR (c :: s) = c :: unR s := by
  conv => lhs; unfold unR
  rw [if_neg hc]
theorem unR_e (x y : UInt8) (s : Txt) : unR (92 :: x :: y :: s) = if hx x < 16 ∧ hx y < 16 then hxV x y :: unR s else 92 :: unR (x :: y :: s) := by
  conv => lhs; unfold unR
  rw [if_pos rfl]
theorem unR_len : ∀ (n : Nat) (s : Txt), s.length ≤ n → (unR s).length ≤ s.length
  | _, [], _ => by simp [unR]
  | n + 1, c :: s, hn => by
    by_cases hc : c = 92
    · subst hc
      rcases s with _ | ⟨x, _ | ⟨y, r⟩⟩
      · rw [show unR [92] = [92] from rfl]; simp
      · have := unR_len n [x] (by simp at hn ⊢; omega)
        rw [show unR [92, x] = 92 :: unR [x] from rfl]; simp at this ⊢; omega
      · rw [unR_e]
        split
        · have := unR_len n r (by simp at hn; omega); simp; omega
        · have := unR_len n (x :: y :: r) (by simp at hn ⊢; omega); simp at this ⊢; omega
    · rw [unR_cc c s hc]
      have := unR_len n s (by simp at hn; omega)
      simp; omega
theorem spl_w (c : UInt8) : ∀ s : Txt, midW (spl c s) = s.length + 1
  | [] => by simp [spl, midW]
  | b :: l => by
    have ih := spl_w c l
    unfold spl
    split
    · unfold midW at ih ⊢; simp only [List.map_cons, List.sum_cons, List.length_nil, ih, List.length_cons]; omega
    · split
      · rename_i x r e; rw [e] at ih; unfold midW at ih ⊢; simp only [List.map_cons, List.sum_cons, List.length_cons] at ih ⊢; omega
      · rename_i e; exact absurd e (spl_ne c l)
theorem midW_map (g : Txt → Txt) (hg : ∀ s, (g s).length ≤ s.length) : ∀ l, midW (l.map g) ≤ midW l
  | [] => by simp [midW]
  | x :: l => by
    have ih := midW_map g hg l
    have := hg x
    unfold midW at ih ⊢; simp only [List.map_cons, List.sum_cons]; omega
/-- The first, the last and what is between. -/
theorem mid_three (l : List Txt) (h : 2 ≤ l.length) : (l.getD 0 []).length + midW ((l.take (l.length - 1)).drop 1) + (l.getD (l.length - 1) []).length + 2 = midW l := by
  obtain ⟨a, m, b, rfl⟩ : ∃ a m b, l = a :: (m ++ [b]) := by
    rcases l with _ | ⟨a, r⟩
    · simp at h
    · refine ⟨a, r.dropLast, r.getLast (by intro e; subst e; simp at h), ?_⟩
      rw [List.dropLast_concat_getLast]
  have e : (a :: (m ++ [b])).length - 1 = m.length + 1 := by simp
  rw [e]
  simp [midW]; omega
theorem subF_w (q : List Txt) (h : 1 < q.length) : (subF q).1.1.length + midW (subF q).1.2.1 + (subF q).1.2.2.length ≤ midW q := by
  unfold subF
  split
  · have h5 := mid_three (q.map fun s => (valF s).1) (by rw [List.length_map]; omega)
    have h4 := midW_map (fun s => (valF s).1) valF_len q
    rw [List.length_map] at h5
    refine Nat.le_trans ?_ h4
    rw [← h5]
    exact Nat.le_add_right _ 2
  · exact Nat.zero_le _
theorem wF_mk (k : Int) (a v h : Txt) (m : List Txt) (t : Txt) : wF (.mk k a v h m t []) = a.length + v.length + h.length + t.length + midW m + 5 := by
  rw [wF, wFL]
theorem midW_nil : midW [] = 0 := rfl
theorem restF_w (k : Int × Txt) (rest : Txt) : wF (restF k rest).1 ≤ k.2.length + rest.length + 6 := by
  have h1 := valF_len rest
  unfold restF
  split
  · rw [wF_mk, midW_nil]; simp only [List.length_nil]; omega
  · split
    · rename_i h
      have h2 := subF_w (spl 42 rest) h.2
      have h3 := spl_w 42 rest
      rw [wF_mk]; simp only [List.length_nil]; omega
    · rw [wF_mk, midW_nil]; simp; omega
theorem cutB_two (c : UInt8) : ∀ s : Txt, (cutB c s).2.2 = true → (cutB c s).1.length + (cutB c s).2.1.length + 1 = s.length
  | [], h => by simp [cutB] at h
  | b :: l, h => by
    unfold cutB at h ⊢
    split at h
    · rename_i e; rw [if_pos e]; simp
    · rename_i e; rw [if_neg e]; simp at h ⊢; have := cutB_two c l h; omega
theorem leafF_w (s : Txt) : wF (leafF s).1 ≤ s.length + 6 := by
  unfold leafF
  split
  · rename_i h
    have h1 := restF_w (kindF (cutB 61 s).1) (cutB 61 s).2.1
    have h2 := kindF_len (cutB 61 s).1
    have h3 := cutB_two 61 s h
    omega
  · simp [zF, wF, wFL, midW]
theorem readF_w : ∀ (d : Nat) (s : Txt), (readF d s).2.2 = true → wF (readF d s).1 + 6 * (readF d s).2.1.length ≤ 6 * s.length
  | 0, s, h => by simp [readF] at h
  | d + 1, s, h => by
    have ih := loopF_w (readF d) (readF_w d) ((s.drop 2).length + 1) [] (s.drop 2)
    unfold readF at h ⊢
    split at h
    · cases h
    · rename_i h2
      rw [if_neg h2]
      simp only at h ⊢
      have hd : (s.drop 2).length + 2 = s.length := by simp; omega
      have hd1 : (s.drop 1).length + 1 = s.length := by simp; omega
      split at h
      · rename_i h3; rw [if_pos h3]; have := ih h; simp only [wF, wFL, midW, List.map_nil, List.sum_nil, List.length_nil] at this ⊢; omega
      · rename_i h3; rw [if_neg h3]
        split at h
        · rename_i h3; rw [if_pos h3]; have := ih h; simp only [wF, wFL, midW, List.map_nil, List.sum_nil, List.length_nil] at this ⊢; omega
        · rename_i h3; rw [if_neg h3]
          split at h
          · rename_i h3; rw [if_pos h3]; have := ih h; simp only [wF, wFL, midW, List.map_nil, List.sum_nil, List.length_nil] at this ⊢; omega
          · rename_i h3; rw [if_neg h3]
            split at h
            · rename_i h3; rw [if_pos h3]
              have h4 := cutB_two 41 _ h3
              have h5 := leafF_w (cutB 41 (s.drop 1)).1
              show wF (leafF (cutB 41 (s.drop 1)).1).1 + 6 * (cutB 41 (s.drop 1)).2.1.length ≤ 6 * s.length
              have h6 : wF (leafF (cutB 41 (s.drop 1)).1).1 ≤ 6 * (cutB 41 (s.drop 1)).1.length + 6 := by omega
              omega
            · cases h
theorem restR_w (name rest : Txt) : wF (restR name rest) ≤ name.length + rest.length + 6 := by
  have h1 := unR_len _ rest (Nat.le_refl _)
  have h3 := spl_w 42 rest
  have h4 : midW (starR rest) ≤ rest.length + 1 := by
    rw [← h3]; exact midW_map unR (fun s => unR_len _ s (Nat.le_refl _)) (spl 42 rest)
  have h6 := starR_b rest
  have ht : (name.take (name.length - 1)).length ≤ name.length := by simp
  unfold restR
  simp only
  split
  · rw [wF_mk, midW_nil]; simp only [List.length_nil]; omega
  · split
    · rw [wF_mk, midW_nil]; simp only [List.length_nil]; omega
    · split
      · rw [wF_mk, midW_nil]; simp only [List.length_nil]; omega
      · split
        · rw [wF_mk, midW_nil]; simp only [List.length_nil]; omega
        · split
          · rename_i h1
            obtain ⟨x, hx⟩ := List.length_eq_one_iff.1 h1
            rw [hx] at h4 ⊢
            have h8 : midW [x] = x.length + 1 := by simp [midW]
            rw [wF_mk, midW_nil]; simp only [List.length_nil, List.getD_cons_zero]; omega
          · have h5 := mid_three (starR rest) (by omega)
            rw [wF_mk]; simp only [List.length_nil]; omega
theorem leafR_w (s : Txt) : wF (leafR s) ≤ s.length + 6 := by
  unfold leafR
  split
  · simp [wF, wFL, midW]
  · rename_i h
    have h1 := restR_w (s.take (eqAt s)) (s.drop (eqAt s + 1))
    have h2 := eqAt_le s
    rw [List.length_take, List.length_drop] at h1
    omega
theorem readR_w : ∀ (d : Nat) (s : Txt), (readR d s).2.2 = true → wF (readR d s).1 + 6 * (readR d s).2.1.length ≤ 6 * s.length
  | 0, s, h => by simp [readR] at h
  | d + 1, s, h => by
    have ih := loopF_w (readR d) (readR_w d) ((s.drop 2).length + 1) [] (s.drop 2)
    unfold readR at h ⊢
    split at h
    · cases h
    · rename_i h2
      rw [if_neg h2]
      have hd : (s.drop 2).length + 2 = s.length := by simp; omega
      split at h
      · rename_i h3; rw [if_pos h3]
        split at h
        · cases h
        · rename_i h4; rw [if_neg h4]
          have h5 := leafR_w ((s.take (1 + brAt (s.drop 1))).drop 1)
          have h6 := brAt_le (s.drop 1)
          show wF (leafR _) + 6 * (s.drop _).length ≤ 6 * s.length
          rw [List.length_drop] at h6 ⊢
          have h7 : ((s.take (1 + brAt (s.drop 1))).drop 1).length = brAt (s.drop 1) := by rw [List.length_drop, List.length_take]; omega
          rw [h7] at h5
          omega
      · rename_i h3; rw [if_neg h3]
        split at h
        · rename_i h4; rw [if_pos h4]; have := ih h4; simp only [wF, wFL, midW, List.map_nil, List.sum_nil, List.length_nil] at this ⊢; omega
        · cases h
theorem readR_no : ∀ (d : Nat) (s : Txt), (readR d s).2.2 = false → (readR d s).1 = zF
  | 0, s, h => by simp [readR]
  | d + 1, s, h => by
    unfold readR at h ⊢
    split at h
    · rename_i h2; rw [if_pos h2]
    · rename_i h2
      rw [if_neg h2]
      split at h
      · rename_i h3; rw [if_pos h3]
        split at h
        · rename_i h4; rw [if_pos h4]
        · cases h
      · rename_i h3; rw [if_neg h3]
        split at h
        · cases h
        · rename_i h4; rw [if_neg h4]
theorem readR_w20 (s : Txt) (hs : s.length ≤ 4096) : wF (readR 20 s).1 ≤ 300000 := by
  cases h : (readR 20 s).2.2 with
  | true => have := readR_w 20 s h; omega
  | false => rw [readR_no 20 s h]; simp [zF, wF, wFL, midW]
end Go.Proofs.YtmlpbojoekmfaaaDoor
end
section
/- Ftext: whole texts read, by both. -/
set_option linter.unusedSimpArgs false
set_option linter.unusedVariables false
namespace Go.Proofs.YtmlpbojoekmfaaaDoor
open Go.RowKit Go.Bo Go.Ab

def ReadF (s : Txt) : Flt × Int := if s.length > 4096 then (zF, 3) else if (readF 20 s).2.2 = true ∧ (readF 20 s).2.1 = [] ∧ chkF (readF 20 s).1 = 0 then ((readF 20 s).1, 0) else (zF, 5)
def ReadR (s : Txt) : Flt × Int := if s.length > 4096 then (zF, 3) else if (readR 20 s).2.2 = true ∧ (readR 20 s).2.1 = [] ∧ (putF (readR 20 s).1).2 = 0 ∧ (putF (readR 20 s).1).1 = s then ((readR 20 s).1, 0) else (zF, 5)
def tabFxN : Tabs := addQ (addQ (noTabs) 20 read20G) 21 chkG
theorem tabFxN_ok : SsOk Tryd.prog tabFxN := addQ_ok (addQ_ok (noTabs_ok) (G_enters G_ok (p := i20) rfl) read20G_ok) (G_enters G_ok (p := i21) rfl) chkG_ok
theorem tabFxN_q20 (a : List D) : tabFxN.q 20 a = read20G a := rfl
theorem tabFxN_q21 (a : List D) : tabFxN.q 21 a = chkG a := rfl
theorem tabFxN_r (f : FuncId) (a : List D) (o : List Ob) : tabFxN.r f a o = none := rfl
theorem tabFxN_k (f : FuncId) (a : List D) (o : List Ob) : tabFxN.k f a o = none := rfl
theorem Read_c (s : Txt) : PCalls Tryd.prog 8 [.x (.str s)] (.tup [fltD (ReadF s).1, .x (.int .i64 (ReadF s).2)]) := by
  rcases hq : ReadF s with ⟨⟨k, a, v, h, mm, t, l⟩, e⟩
  dsimp only [fltD]
  unfold ReadF at hq
  refine FCalls.pure (fcallsG (fz := true) G_ok (p := i8) rfl _ (Nat.le_of_ble_eq_true rfl) _ (fun C0 E0 => ?_)) rfl
  dsimp only [i8, qt, qi, qs, qb, qm, qn, qa, qg, argsφ]
  have uu := And.intro @read20G.eq_1 (And.intro @read20G.eq_2 (And.intro @chkG.eq_1 (And.intro @chkG.eq_2 (And.intro @un_F (And.intro @un_T (And.intro @tabFxN_r (And.intro @tabFxN_k (And.intro @tabFxN_q20 (@tabFxN_q21)))))))))
  have tT := tabFxN_ok
  refine nz ?_
  refine WI.regB tT [0, 2] ?_
  refine oG ?_
  refine oS ?_
  refine oN ?_
  refine nz ?_
  refine WI.regB tT [0, 2, 9] ?_
  refine oS ?_
  iterate 2 refine oG (hok := by first | exact sd | (exact decide_eq_true hs) | (simp [hs]; done)) ?_
  refine oN ?_
  refine nz ?_
  refine cd (fun h0 => ?_) (fun h0 => ?_)
  · refine WI.regB tT [2, 3] ?_
    iterate 2 refine oG (hok := by first | exact sd | (exact decide_eq_true hs) | (simp [hs]; done)) ?_
    refine oS ?_
    refine oN ?_
    refine nz ?_
    refine WI.nnA ?_
    refine lf ?_
    rw [if_pos (by omega)] at hq; cases hq; rfl -- leaf 0
  · rw [if_neg (by omega)] at hq
    have hw := readF_w 20 s
    rcases hx : readF 20 s with ⟨⟨k1, a1, v1, h1', m1, t1, l1⟩, rest, ok⟩
    rw [hx] at hq hw
    simp only at hq hw
    have uu := And.intro uu hx
    refine WI.regB tT [2, 4, 5, 6] ?_
    refine oS ?_
    refine oC (hok := by first | exact sd | (exact decide_eq_true hs) | (simp [hs]; done)) ?_
    refine oS ?_
    iterate 4 refine oG ?_
    refine oG (hok := by first | exact sd | (exact decide_eq_true hs) | (simp [hs]; done)) ?_
    iterate 2 refine oS ?_
    refine oN ?_
    refine nz ?_
    cases ok
    · refine WI.regB tT [2, 4, 27] ?_
      refine oS ?_
      refine oG (hok := by first | exact sd | (exact decide_eq_true hs) | (simp [hs]; done)) ?_
      refine oS ?_
      iterate 3 refine oG (hok := by first | exact sd | (exact decide_eq_true hs) | (simp [hs]; done)) ?_
      refine oS ?_
      refine oG (hok := by first | exact sd | (exact decide_eq_true hs) | (simp [hs]; done)) ?_
      refine oC (hok := by first | exact sd | (exact decide_eq_true hs) | (simp [hs]; done)) ?_
      iterate 2 refine oG (hok := by first | exact sd | (exact decide_eq_true hs) | (simp [hs]; done)) ?_
      refine oN ?_
      refine nz ?_
      refine ct (fun h1 => ?_) (fun h1 => ?_)
      · refine WI.regB tT [2, 3] ?_
        iterate 2 refine oG (hok := by first | exact sd | (exact decide_eq_true hs) | (simp [hs]; done)) ?_
        refine oS ?_
        refine oN ?_
        refine nz ?_
        refine WI.nnA ?_
        refine lf ?_
        rw [if_neg (by simp)] at hq; cases hq; rfl -- leaf 1
      · simp at h1
    · have hs := sm_w (.mk k1 a1 v1 h1' m1 t1 l1) (by have := hw rfl; omega)
      refine WI.regB tT [2, 4, 27] ?_
      refine oS ?_
      refine oG (hok := by first | exact sd | (exact decide_eq_true hs) | (simp [hs]; done)) ?_
      refine oS ?_
      iterate 3 refine oG (hok := by first | exact sd | (exact decide_eq_true hs) | (simp [hs]; done)) ?_
      refine oS ?_
      refine oG (hok := by first | exact sd | (exact decide_eq_true hs) | (simp [hs]; done)) ?_
      refine oC (hok := by first | exact sd | (exact decide_eq_true hs) | (simp [hs]; done)) ?_
      iterate 2 refine oG (hok := by first | exact sd | (exact decide_eq_true hs) | (simp [hs]; done)) ?_
      refine oN ?_
      refine nz ?_
      refine cd (fun h1 => ?_) (fun h1 => ?_)
      · refine WI.regB tT [2, 3] ?_
        iterate 2 refine oG (hok := by first | exact sd | (exact decide_eq_true hs) | (simp [hs]; done)) ?_
        refine oS ?_
        refine oN ?_
        refine nz ?_
        refine WI.nnA ?_
        refine lf ?_
        rw [if_neg (by clear uu; grind)] at hq; cases hq; rfl -- leaf 2
      · refine WI.regB tT [2, 3] ?_
        iterate 2 refine oG (hok := by first | exact sd | (exact decide_eq_true hs) | (simp [hs]; done)) ?_
        refine oS ?_
        refine oN ?_
        refine nz ?_
        refine WI.nnA ?_
        refine lf ?_
        rw [if_pos (by clear uu; grind)] at hq; cases hq; rfl -- leaf 3
def tabFxO : Tabs := addQ (addQ (noTabs) 22 readR20G) 23 PutDG
theorem tabFxO_ok : SsOk Tryd.prog tabFxO := addQ_ok (addQ_ok (noTabs_ok) (G_enters G_ok (p := i22) rfl) readR20G_ok) (G_enters G_ok (p := i23) rfl) PutDG_ok
theorem tabFxO_q22 (a : List D) : tabFxO.q 22 a = readR20G a := rfl
theorem tabFxO_q23 (a : List D) : tabFxO.q 23 a = PutDG a := rfl
theorem tabFxO_r (f : FuncId) (a : List D) (o : List Ob) : tabFxO.r f a o = none := rfl
theorem tabFxO_k (f : FuncId) (a : List D) (o : List Ob) : tabFxO.k f a o = none := rfl
theorem ReadR_c (s : Txt) : PCalls Tryd.prog 9 [.x (.str s)] (.tup [fltD (ReadR s).1, .x (.int .i64 (ReadR s).2)]) := by
  rcases hq : ReadR s with ⟨⟨k, a, v, h, mm, t, l⟩, e⟩
  dsimp only [fltD]
  unfold ReadR at hq
  refine FCalls.pure (fcallsG (fz := true) G_ok (p := i9) rfl _ (Nat.le_of_ble_eq_true rfl) _ (fun C0 E0 => ?_)) rfl
  dsimp only [i9, qt, qi, qs, qb, qm, qn, qa, qg, argsφ]
  have uu := And.intro @readR20G.eq_1 (And.intro @readR20G.eq_2 (And.intro @PutDG.eq_1 (And.intro @PutDG.eq_2 (And.intro @un_F (And.intro @un_T (And.intro @tabFxO_r (And.intro @tabFxO_k (And.intro @tabFxO_q22 (@tabFxO_q23)))))))))
  have tT := tabFxO_ok
  refine nz ?_
  refine WI.regB tT [0, 2] ?_
  refine oG ?_
  refine oS ?_
  refine oN ?_
  refine nz ?_
  refine WI.regB tT [0, 2, 11] ?_
  refine oS ?_
  iterate 2 refine oG (hok := by first | exact sd | (exact decide_eq_true hw) | (simp [hw]; done)) ?_
  refine oN ?_
  refine nz ?_
  refine cd (fun h0 => ?_) (fun h0 => ?_)
  · refine WI.regB tT [2, 3] ?_
    iterate 2 refine oG (hok := by first | exact sd | (exact decide_eq_true hw) | (simp [hw]; done)) ?_
    refine oS ?_
    refine oN ?_
    refine nz ?_
    refine WI.nnA ?_
    refine lf ?_
    rw [if_pos (by omega)] at hq; cases hq; rfl -- leaf 0
  · rw [if_neg (by omega)] at hq
    have hw := readR_w20 s (by omega)
    rcases hx : readR 20 s with ⟨⟨k1, a1, v1, h1', m1, t1, l1⟩, rest, ok⟩
    rw [hx] at hq hw
    simp only at hq hw
    have uu := And.intro uu hx
    refine WI.regB tT [0, 2, 4, 5, 6] ?_
    refine oS ?_
    refine oC (hok := by first | exact sd | (exact decide_eq_true hw) | (simp [hw]; done)) ?_
    refine oS ?_
    iterate 4 refine oG ?_
    refine oG (hok := by first | exact sd | (exact decide_eq_true hw) | (simp [hw]; done)) ?_
    iterate 2 refine oS ?_
    refine oN ?_
    refine nz ?_
    refine WI.regB tT [0, 2, 4, 5, 6, 7, 8] ?_
    refine oG (hok := by first | exact sd | (exact decide_eq_true hw) | (simp [hw]; done)) ?_
    refine oC (hok := by first | exact sd | (exact decide_eq_true hw) | (simp [hw]; done)) ?_
    refine oS ?_
    iterate 2 refine oG ?_
    iterate 2 refine oS ?_
    refine oN ?_
    refine nz ?_
    refine WI.regB tT [2, 4, 38] ?_
    refine oS ?_
    refine oG (hok := by first | exact sd | (exact decide_eq_true hw) | (simp [hw]; done)) ?_
    refine oS ?_
    iterate 3 refine oG (hok := by first | exact sd | (exact decide_eq_true hw) | (simp [hw]; done)) ?_
    refine oS ?_
    iterate 3 refine oG (hok := by first | exact sd | (exact decide_eq_true hw) | (simp [hw]; done)) ?_
    refine oS ?_
    iterate 4 refine oG (hok := by first | exact sd | (exact decide_eq_true hw) | (simp [hw]; done)) ?_
    refine oN ?_
    refine nz ?_
    refine cd (fun h1 => ?_) (fun h1 => ?_)
    · refine WI.regB tT [2, 3] ?_
      iterate 2 refine oG (hok := by first | exact sd | (exact decide_eq_true hw) | (simp [hw]; done)) ?_
      refine oS ?_
      refine oN ?_
      refine nz ?_
      refine WI.nnA ?_
      refine lf ?_
      rw [if_neg (by clear uu; grind)] at hq; cases hq; rfl -- leaf 1
    · refine WI.regB tT [2, 3] ?_
      iterate 2 refine oG (hok := by first | exact sd | (exact decide_eq_true hw) | (simp [hw]; done)) ?_
      refine oS ?_
      refine oN ?_
      refine nz ?_
      refine WI.nnA ?_
      refine lf ?_
      rw [if_pos (by clear uu; grind)] at hq; cases hq; rfl -- leaf 2
def ReadG : List D → Option (Bool × D)
  | [.x (.str s)] => some (true, .tup [fltD (ReadF s).1, .x (.int .i64 (ReadF s).2)])
  | _ => none
theorem ReadG_ok : ∀ args r, ReadG args = some (true, r) → PCalls Tryd.prog 8 args r := by
  intro args r h
  unfold ReadG at h
  split at h
  · rename_i s
    simp only [Option.some.injEq, Prod.mk.injEq, Bool.and_eq_true, decide_eq_true_eq, true_and] at h
    obtain rfl := h
    exact (Read_c s)
  · cases h
def ReadRG : List D → Option (Bool × D)
  | [.x (.str s)] => some (true, .tup [fltD (ReadR s).1, .x (.int .i64 (ReadR s).2)])
  | _ => none
theorem ReadRG_ok : ∀ args r, ReadRG args = some (true, r) → PCalls Tryd.prog 9 args r := by
  intro args r h
  unfold ReadRG at h
  split at h
  · rename_i s
    simp only [Option.some.injEq, Prod.mk.injEq, Bool.and_eq_true, decide_eq_true_eq, true_and] at h
    obtain rfl := h
    exact (ReadR_c s)
  · cases h
end Go.Proofs.YtmlpbojoekmfaaaDoor
end
section
/- Ftext: what is put is read; what is read was put. -/
set_option linter.unusedSimpArgs false
set_option linter.unusedVariables false
namespace Go.Proofs.YtmlpbojoekmfaaaDoor
open Go.RowKit Go.Bo Go.Ab

theorem forB (p : UInt8 → Bool) (h : (List.range 256).all (fun n => p (UInt8.ofNat n)) = true) (c : UInt8) : p c = true := by
  have h1 := List.all_eq_true.1 h c.toNat (List.mem_range.2 (UInt8.toNat_lt c))
  rwa [show UInt8.ofNat c.toNat = c by simp] at h1
/-! ### bytes of values -/
theorem escB_by (c : UInt8) : ((escB c).all fun x => decide (x ≠ 40) && decide (x ≠ 41) && decide (x ≠ 42)) = true := forB (fun c => (escB c).all fun x => decide (x ≠ 40) && decide (x ≠ 41) && decide (x ≠ 42)) (by decide +kernel) c
theorem escS_by (s : Txt) : ∀ x ∈ escS s, x ≠ 40 ∧ x ≠ 41 ∧ x ≠ 42 := by
  intro x hx
  obtain ⟨c, _, h2⟩ := List.mem_flatMap.1 hx
  have := List.all_eq_true.1 (escB_by c) x h2
  simpa [and_assoc] using this
theorem escB_mk (c : UInt8) : (!mkN c.toNat || (decide (hx (dgt (c.toNat / 16)) < 16) && decide (hx (dgt (c.toNat % 16)) < 16) && decide (hxV (dgt (c.toNat / 16)) (dgt (c.toNat % 16)) = c))) = true :=
  forB (fun c => !mkN c.toNat || (decide (hx (dgt (c.toNat / 16)) < 16) && decide (hx (dgt (c.toNat % 16)) < 16) && decide (hxV (dgt (c.toNat / 16)) (dgt (c.toNat % 16)) = c))) (by decide +kernel) c
theorem escB_no (c : UInt8) : (mkN c.toNat || decide (c ≠ 92)) = true := forB (fun c => mkN c.toNat || decide (c ≠ 92)) (by decide +kernel) c
theorem escS_cons (c : UInt8) (s : Txt) : escS (c :: s) = escB c ++ escS s := rfl
theorem unE_put : ∀ v : Txt, unE (escS v) = some v
  | [] => rfl
  | c :: s => by
    have ih := unE_put s
    rw [escS_cons]
    by_cases h : mkN c.toNat = true
    · have h1 := escB_mk c
      simp only [h, Bool.not_true, Bool.false_or, Bool.and_eq_true, decide_eq_true_eq] at h1
      rw [escB, if_pos h]
      show unE (92 :: _ :: _ :: escS s) = _
      rw [unE_e, if_pos ⟨h1.1.1, h1.1.2⟩, ih, h1.2]; rfl
    · have h1 := escB_no c
      simp only [h, Bool.false_or, decide_eq_true_eq] at h1
      rw [escB, if_neg h]
      show unE (c :: escS s) = _
      rw [unE_c c _ h1, ih]; rfl
theorem unR_put : ∀ v : Txt, unR (escS v) = v
  | [] => rfl
  | c :: s => by
    have ih := unR_put s
    rw [escS_cons]
    by_cases h : mkN c.toNat = true
    · have h1 := escB_mk c
      simp only [h, Bool.not_true, Bool.false_or, Bool.and_eq_true, decide_eq_true_eq] at h1
      rw [escB, if_pos h]
      show unR (92 :: _ :: _ :: escS s) = _
      rw [unR_e, if_pos ⟨h1.1.1, h1.1.2⟩, ih, h1.2]
    · have h1 := escB_no c
      simp only [h, Bool.false_or, decide_eq_true_eq] at h1
      rw [escB, if_neg h]
      show unR (c :: escS s) = _
      rw [unR_cc c _ h1, ih]
theorem valF_put (v : Txt) : valF (escS v) = (v, true) := by
  rw [valF_some _ _ (unE_put v)]; simp
theorem valF_ok (s : Txt) (h : (valF s).2 = true) : escS (valF s).1 = s := by
  unfold valF at h ⊢
  split at h
  · cases h
  · exact of_decide_eq_true h
/-! ### texts between stars -/
def jn : List Txt → Txt
  | [] => []
  | [x] => x
  | x :: y :: l => x ++ [42] ++ jn (y :: l)
theorem jn_cons (x : Txt) (l : List Txt) (h : l ≠ []) : jn (x :: l) = x ++ [42] ++ jn l := by
  cases l with
  | nil => exact absurd rfl h
  | cons y l => rfl
theorem jn_spl : ∀ s : Txt, jn (spl 42 s) = s
  | [] => rfl
  | b :: l => by
    have ih := jn_spl l
    have hn := spl_ne 42 l
    unfold spl
    split
    · rename_i h; rw [jn_cons _ _ hn, ih, h]; rfl
    · split
      · rename_i x r e
        rw [e] at ih
        rcases r with _ | ⟨y, r⟩
        · simp only [jn] at ih ⊢; rw [ih]
        · simp only [jn] at ih ⊢; rw [← ih]; simp
      · rename_i e; exact absurd e hn
theorem jn_three (a : Txt) (m : List Txt) (b : Txt) : jn (a :: (m ++ [b])) = a ++ [42] ++ (m.flatMap fun x => x ++ [42]) ++ b := by
  induction m generalizing a with
  | nil => simp [jn]
  | cons x m ih => rw [List.cons_append, jn_cons _ _ (by simp), ih]; simp
theorem spl_jn : ∀ (l : List Txt), l ≠ [] → (∀ x ∈ l, ∀ c ∈ x, c ≠ 42) → spl 42 (jn l) = l
  | [], h, _ => absurd rfl h
  | [x], _, h => by rw [jn, spl_none 42 x (h x (by simp))]
  | x :: y :: l, _, h => by
    rw [jn_cons _ _ (by simp), List.append_assoc]
    show spl 42 (x ++ 42 :: jn (y :: l)) = _
    rw [spl_app 42 _ x (h x (by simp)), spl_jn (y :: l) (by simp) (fun z hz => h z (by simp [hz]))]
/-! ### what is read was put -/
theorem cutB_eq2 (c : UInt8) : ∀ s : Txt, (cutB c s).2.2 = true → s = (cutB c s).1 ++ c :: (cutB c s).2.1
  | [], h => by simp [cutB] at h
  | b :: l, h => by
    unfold cutB at h ⊢
    split at h
    · rename_i e; rw [if_pos e, e]; rfl
    · rename_i e; rw [if_neg e]; simp at h ⊢; exact cutB_eq2 c l h
theorem cutB_put (c : UInt8) (t : Txt) : ∀ a : Txt, (∀ x ∈ a, x ≠ c) → cutB c (a ++ c :: t) = (a, t, true)
  | [], _ => by simp [cutB]
  | b :: l, h => by
    rw [List.cons_append, cutB, if_neg (h b (by simp)), cutB_put c t l (fun x hx => h x (by simp [hx]))]
theorem suf_eq (s p : Txt) (h : Lib.hasSuffix s p = true) : s = Lib.trimSuffix s p ++ p := by
  unfold Lib.trimSuffix; rw [if_pos h]
  obtain ⟨t, rfl⟩ := List.isSuffixOf_iff_suffix.1 h
  simp
theorem suf_one (a : Txt) (c d : UInt8) : Lib.hasSuffix (a ++ [c]) [d] = decide (c = d) := by
  unfold Lib.hasSuffix
  rw [Bool.eq_iff_iff, List.isSuffixOf_iff_suffix, decide_eq_true_eq]
  constructor
  · rintro ⟨t, h⟩
    have := congrArg List.getLast? h
    simp at this; exact this.symm
  · rintro rfl; exact ⟨a, rfl⟩
theorem kindF_put (name : Txt) : (kindF name).1 = 3 ∧ name = (kindF name).2 ∨ (kindF name).1 = 5 ∧ name = (kindF name).2 ++ [62] ∨ (kindF name).1 = 6 ∧ name = (kindF name).2 ++ [60] ∨ (kindF name).1 = 8 ∧ name = (kindF name).2 ++ [126] := by
  unfold kindF
  split
  · rename_i h; exact .inr (.inr (.inr ⟨rfl, suf_eq _ _ h⟩))
  · split
    · rename_i h; exact .inr (.inr (.inl ⟨rfl, suf_eq _ _ h⟩))
    · split
      · rename_i h; exact .inr (.inl ⟨rfl, suf_eq _ _ h⟩)
      · exact .inl ⟨rfl, rfl⟩
theorem putX_mk (k : Int) (a v h : Txt) (m : List Txt) (t : Txt) : putX (.mk k a v h m t []) = [40] ++ hdX k a v h m t ++ [41] := by
  rw [putX, putXL, List.append_nil]
theorem three_of (l : List Txt) (h : 1 < l.length) : ∃ a m b, l = a :: (m ++ [b]) := by
  rcases l with _ | ⟨a, r⟩
  · simp at h
  · exact ⟨a, r.dropLast, r.getLast (by intro e; subst e; simp at h), by rw [List.dropLast_concat_getLast]⟩
theorem mid_get (a : Txt) (m : List Txt) (b : Txt) : (a :: (m ++ [b])).getD 0 [] = a ∧ ((a :: (m ++ [b])).take ((a :: (m ++ [b])).length - 1)).drop 1 = m ∧ (a :: (m ++ [b])).getD ((a :: (m ++ [b])).length - 1) [] = b := by
  have e : (a :: (m ++ [b])).length - 1 = m.length + 1 := by simp
  rw [e]; simp
theorem subF_put (l : List Txt) (h : 1 < l.length) (hk : (subF l).2 = true) : jn l = escS (subF l).1.1 ++ [42] ++ midX (subF l).1.2.1 ++ escS (subF l).1.2.2 := by
  have hall : l.all (fun s => (valF s).2) = true := by
    cases e : l.all (fun s => (valF s).2) with
    | true => rfl
    | false => unfold subF at hk; rw [e] at hk; exact absurd hk (by simp)
  obtain ⟨a, m, b, rfl⟩ := three_of l h
  have hv : ∀ s ∈ a :: (m ++ [b]), escS (valF s).1 = s := fun s hs => valF_ok s (List.all_eq_true.1 hall s hs)
  have hm : (a :: (m ++ [b])).map (fun s => (valF s).1) = (valF a).1 :: (m.map (fun s => (valF s).1) ++ [(valF b).1]) := by simp
  have hl : (a :: (m ++ [b])).length = ((valF a).1 :: (m.map (fun s => (valF s).1) ++ [(valF b).1])).length := by simp
  have g := mid_get (valF a).1 (m.map (fun s => (valF s).1)) (valF b).1
  unfold subF
  rw [if_pos hall, hm, hl]
  simp only
  rw [g.1, g.2.1, g.2.2, hv a (by simp), hv b (by simp), jn_three]
  congr 2
  unfold midX
  rw [List.flatMap_map]
  clear hm hl g hall hk h
  induction m with
  | nil => rfl
  | cons x m ih =>
    rw [List.flatMap_cons, List.flatMap_cons, ih (fun s hs => hv s (by simp at hs ⊢; rcases hs with rfl | hs | rfl; exact .inl rfl; exact .inr (.inr (.inl hs)); exact .inr (.inr (.inr rfl)))), hv x (by simp)]
theorem leafF_put (s : Txt) (h : (leafF s).2 = true) : putX (leafF s).1 = [40] ++ s ++ [41] := by
  unfold leafF at h ⊢
  split at h
  · rename_i hc
    rw [if_pos hc]
    have e := cutB_eq2 61 s hc
    have hk := kindF_put (cutB 61 s).1
    generalize (cutB 61 s).1 = name at h e hk ⊢
    generalize (cutB 61 s).2.1 = rest at h e ⊢
    rw [e]
    generalize kindF name = kp at h hk ⊢
    obtain ⟨k, a⟩ := kp
    unfold restF at h ⊢
    simp only at hk h ⊢
    split
    · rename_i h1
      obtain ⟨rfl, rfl⟩ := h1
      rcases hk with hk | hk | hk | hk <;> simp at hk
      subst hk
      rw [putX_mk]; simp [hdX]
    · rename_i h1
      rw [if_neg h1] at h
      split
      · rename_i h2
        rw [if_pos h2] at h
        simp only at h
        have h3 := subF_put _ h2.2 h
        rw [jn_spl] at h3
        obtain ⟨rfl, _⟩ := h2
        rcases hk with hk | hk | hk | hk <;> simp at hk
        subst hk
        generalize hq : subF (spl 42 rest) = q at h h3 ⊢
        rw [putX_mk, h3]; simp [hdX]
      · rename_i h2
        rw [if_neg h2] at h
        simp only at h
        have h3 := valF_ok rest h
        rw [putX_mk]
        rcases hk with ⟨rfl, rfl⟩ | ⟨rfl, rfl⟩ | ⟨rfl, rfl⟩ | ⟨rfl, rfl⟩ <;> simp [hdX, h3]
  · cases h
theorem loopF_put (r : Txt → Flt × Txt × Bool) (hr : ∀ s, (r s).2.2 = true → s = putX (r s).1 ++ (r s).2.1) : ∀ (n : Nat) (l : List Flt) (s : Txt), (loopF r n l s).2.2 = true → putXL l ++ s = putXL (loopF r n l s).1 ++ 41 :: (loopF r n l s).2.1
  | 0, l, s, h => by simp [loopF] at h
  | n + 1, l, [], h => by rw [loop_nil] at h; cases h
  | n + 1, l, c :: s, h => by
    by_cases h40 : c = 40
    · cases hq : (r (c :: s)).2.2 with
      | false => rw [loop_fail r n l c s h40 hq] at h; cases h
      | true =>
        rw [loop_go r n l c s h40 hq] at h ⊢
        have h1 := loopF_put r hr n _ _ h
        have h2 := hr _ hq
        rw [putXL_snoc] at h1
        rw [← h1, List.append_assoc, ← h2]
    · by_cases h41 : c = 41
      · rw [loop_end r n l s c h41, h41]
      · rw [loop_no r n l c s h40 h41] at h; cases h
theorem two_of (s : Txt) (h : ¬ s.length < 2) : s = s.getD 0 0 :: s.getD 1 0 :: s.drop 2 := by
  rcases s with _ | ⟨a, _ | ⟨b, s⟩⟩
  · simp at h
  · simp at h
  · rfl
theorem putX_kind (k : Int) (l : List Flt) (c : UInt8) (hk : hdX k [] [] [] [] [] = [c]) : putX (.mk k [] [] [] [] [] l) = 40 :: c :: (putXL l ++ [41]) := by
  rw [putX, hk]; simp
theorem readF_put : ∀ (d : Nat) (s : Txt), (readF d s).2.2 = true → s = putX (readF d s).1 ++ (readF d s).2.1
  | 0, s, h => by simp [readF] at h
  | d + 1, s, h => by
    have ih := loopF_put (readF d) (readF_put d) ((s.drop 2).length + 1) [] (s.drop 2)
    unfold readF at h ⊢
    split at h
    · cases h
    · rename_i h2
      rw [if_neg h2]
      have hl : ¬ s.length < 2 := fun e => h2 (.inl e)
      have h40 : s.getD 0 0 = 40 := Decidable.not_not.1 fun e => h2 (.inr e)
      have hs := two_of s hl
      rw [h40] at hs
      simp only at h ⊢
      simp only [putXL, List.nil_append] at ih
      split at h
      · rename_i h3; rw [if_pos h3]; rw [h3] at hs
        rw [putX_kind 0 _ 38 rfl]; conv => lhs; rw [hs, ih h]
        simp
      · rename_i h3; rw [if_neg h3]
        split at h
        · rename_i h3; rw [if_pos h3]; rw [h3] at hs
          rw [putX_kind 1 _ 124 rfl]; conv => lhs; rw [hs, ih h]
          simp
        · rename_i h3; rw [if_neg h3]
          split at h
          · rename_i h3; rw [if_pos h3]; rw [h3] at hs
            rw [putX_kind 2 _ 33 rfl]; conv => lhs; rw [hs, ih h]
            simp
          · rename_i h3; rw [if_neg h3]
            split at h
            · rename_i h3; rw [if_pos h3]
              have h4 := cutB_eq2 41 _ h3
              have h5 := leafF_put _ h
              simp only
              rw [h5]
              have hs1 : s = 40 :: s.drop 1 := by conv => lhs; rw [hs]
                                                  rw [hs]; rfl
              conv => lhs; rw [hs1, h4]
              simp
            · cases h
end Go.Proofs.YtmlpbojoekmfaaaDoor
end
