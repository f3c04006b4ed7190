/- MA1: StP, St1, St2, St3, St4, St5, St6. -/
import Derived.Test.YtogplpcamiicgaaLA4
import Derived.Test.YtogplpcamiicgaaIc
section
/- Times as texts: plain laws of years, months, digits. -/
set_option linter.unusedSimpArgs false
set_option linter.unusedVariables false
namespace Go.Proofs.Ytogplpcamiicgaa
open Go.RowKit Go.Bo Go.Ab

def leapN (y : Nat) : Bool := (decide (y % 4 = 0) && decide (y % 100 ≠ 0)) || decide (y % 400 = 0)
def lpN (y : Nat) : Nat := y / 4 - y / 100 + y / 400
/-- How many days from 1970 to a year. -/
def bef (y : Nat) : Nat := 365 * (y - 1970) + (lpN (y - 1) - lpN 1969)
def yl (y : Nat) : Nat := if leapN y = true then 366 else 365
theorem lp_succ (y : Nat) (h : 1 ≤ y) : lpN y = lpN (y - 1) + if leapN y = true then 1 else 0 := by
  unfold lpN leapN
  obtain ⟨k, rfl⟩ : ∃ k, y = k + 1 := ⟨y - 1, by omega⟩
  simp only [Nat.add_sub_cancel]
  have e4 : (k + 1) / 4 = k / 4 + if (k + 1) % 4 = 0 then 1 else 0 := by split <;> omega
  have e100 : (k + 1) / 100 = k / 100 + if (k + 1) % 100 = 0 then 1 else 0 := by split <;> omega
  have e400 : (k + 1) / 400 = k / 400 + if (k + 1) % 400 = 0 then 1 else 0 := by split <;> omega
  have i1 : (k + 1) % 400 = 0 → (k + 1) % 100 = 0 := by omega
  have i2 : (k + 1) % 100 = 0 → (k + 1) % 4 = 0 := by omega
  have i3 : k / 100 ≤ k / 4 := by omega
  rw [e4, e100, e400]
  by_cases a : (k + 1) % 4 = 0 <;> by_cases b : (k + 1) % 100 = 0 <;> by_cases c : (k + 1) % 400 = 0 <;> simp [a, b, c] <;> omega
theorem lp_mono (a b : Nat) (h : a ≤ b) : lpN a ≤ lpN b := by
  induction h with
  | refl => exact Nat.le_refl _
  | @step m _ ih => exact Nat.le_trans ih (by show lpN m ≤ lpN (m + 1); rw [lp_succ (m + 1) (by omega), Nat.add_sub_cancel]; exact Nat.le_add_right _ _)
theorem bef_succ (y : Nat) (h : 1970 ≤ y) : bef (y + 1) = bef y + yl y := by
  have h1 := lp_succ y (by omega)
  have h2 := lp_mono 1969 (y - 1) (by omega)
  unfold bef yl
  simp only [Nat.add_sub_cancel]
  rw [h1]
  by_cases c : leapN y = true
  · rw [if_pos c, if_pos c]; omega
  · rw [if_neg c, if_neg c]; omega
theorem yl_pos (y : Nat) : 365 ≤ yl y := by unfold yl; split <;> omega
theorem bef_mono {a b : Nat} (ha : 1970 ≤ a) (h : a ≤ b) : bef a + (b - a) ≤ bef b := by
  induction h with
  | refl => omega
  | @step m hm ih => rw [Nat.succ_eq_add_one, bef_succ m (Nat.le_trans ha hm)]; have := yl_pos m; simp only [Nat.le_eq] at hm; omega
def yearF : Nat → Nat → Nat → Nat
  | 0, y, _ => y
  | k + 1, y, d => if bef (y + 1) ≤ d then yearF k (y + 1) d else y
def yearOf (d : Nat) : Nat := yearF d 1970 d
theorem yearF_is (d Y k : Nat) (h3 : bef Y ≤ d) (h4 : d < bef (Y + 1)) : ∀ y : Nat, 1970 ≤ y → y ≤ Y → Y - y ≤ k → yearF k y d = Y := by
  induction k with
  | zero => intro y h0 h1 h2; rw [yearF]; omega
  | succ k ih =>
    intro y h0 h1 h2
    rw [yearF]
    by_cases e : y = Y
    · subst e; rw [if_neg (Nat.not_le.2 h4)]
    · have := bef_mono (a := y + 1) (b := Y) (by omega) (by omega)
      rw [if_pos (Nat.le_trans (Nat.le_trans (Nat.le_add_right _ _) this) h3)]
      exact ih (y + 1) (by omega) (by omega) (by omega)
theorem bef0 : bef 1970 = 0 := by decide
theorem yearOf_is {Y d : Nat} (h0 : 1970 ≤ Y) (h1 : bef Y ≤ d) (h2 : d < bef (Y + 1)) : yearOf d = Y :=
  yearF_is d Y d h1 h2 1970 (Nat.le_refl _) h0 (by have := bef_mono (a := 1970) (b := Y) (Nat.le_refl _) h0; rw [bef0] at this; omega)
theorem year_ex : ∀ d : Nat, ∃ Y, 1970 ≤ Y ∧ bef Y ≤ d ∧ d < bef (Y + 1)
  | 0 => ⟨1970, by omega, by rw [bef0]; omega, by rw [bef_succ 1970 (by omega)]; have := yl_pos 1970; omega⟩
  | d + 1 => by
    obtain ⟨Y, h1, h2, h3⟩ := year_ex d
    by_cases e : d + 1 < bef (Y + 1)
    · exact ⟨Y, h1, by omega, e⟩
    · exact ⟨Y + 1, by omega, by omega, by rw [bef_succ (Y + 1) (by omega)]; have := yl_pos (Y + 1); omega⟩
theorem yearOf_ok (d : Nat) : 1970 ≤ yearOf d ∧ bef (yearOf d) ≤ d ∧ d < bef (yearOf d + 1) := by
  obtain ⟨Y, h1, h2, h3⟩ := year_ex d
  rw [yearOf_is h1 h2 h3]; exact ⟨h1, h2, h3⟩
theorem yearOf_mono {a b : Nat} (h : a ≤ b) : yearOf a ≤ yearOf b := by
  obtain ⟨h1, h2, h3⟩ := yearOf_ok a
  obtain ⟨k1, k2, k3⟩ := yearOf_ok b
  refine Nat.not_lt.1 fun hlt => ?_
  have := bef_mono (a := yearOf b + 1) (b := yearOf a) (by omega) (by omega)
  omega
/-- The days of a year's months. -/
def mon (y : Nat) : List Nat := [31, if leapN y = true then 29 else 28, 31, 30, 31, 30, 31, 31, 30, 31, 30, 31]
theorem mon_sum (y : Nat) : (mon y).sum = yl y := by unfold mon yl; cases leapN y <;> rfl
theorem mon_len (y : Nat) : (mon y).length = 12 := rfl
def cut : List Nat → Nat → Nat × Nat
  | [], d => (0, d)
  | a :: r, d => if a ≤ d then ((cut r (d - a)).1 + 1, (cut r (d - a)).2) else (0, d)
theorem cut_ok : ∀ (l : List Nat) (d : Nat), d < l.sum → ∃ h : (cut l d).1 < l.length, (cut l d).2 < l[(cut l d).1] ∧ d = (l.take (cut l d).1).sum + (cut l d).2
  | [], d, h => by simp at h
  | a :: r, d, h => by
    rw [List.sum_cons] at h
    by_cases e : a ≤ d
    · obtain ⟨h1, h2, h3⟩ := cut_ok r (d - a) (by omega)
      have hc : cut (a :: r) d = ((cut r (d - a)).1 + 1, (cut r (d - a)).2) := by rw [cut, if_pos e]
      rw [hc]
      exact ⟨by simpa using h1, by simpa using h2, by simp only [List.take_succ_cons, List.sum_cons]; omega⟩
    · have hc : cut (a :: r) d = (0, d) := by rw [cut, if_neg e]
      rw [hc]
      exact ⟨by simp, by simpa using e, by simp⟩
theorem cut_is : ∀ (l : List Nat) (i e : Nat) (h : i < l.length), e < l[i] → cut l ((l.take i).sum + e) = (i, e)
  | [], i, e, h, _ => by simp at h
  | a :: r, 0, e, h, h1 => by simp only [List.getElem_cons_zero] at h1; simp only [List.take_zero, List.sum_nil, Nat.zero_add]; rw [cut, if_neg (by omega)]
  | a :: r, i + 1, e, h, h1 => by
    have ih := cut_is r i e (by simpa using h) (by simpa using h1)
    rw [List.take_succ_cons, List.sum_cons, cut, if_pos (by omega), show a + (r.take i).sum + e - a = (r.take i).sum + e by omega, ih]
theorem cut_lt : ∀ (l : List Nat) (d e : Nat), d < e → e < l.sum → (cut l d).1 < (cut l e).1 ∨ (cut l d).1 = (cut l e).1 ∧ (cut l d).2 < (cut l e).2
  | [], d, e, _, h => by simp at h
  | a :: r, d, e, h, h1 => by
    rw [List.sum_cons] at h1
    by_cases p : a ≤ d
    · have ih := cut_lt r (d - a) (e - a) (by omega) (by omega)
      rw [cut, cut, if_pos p, if_pos (by omega)]
      simp only
      omega
    · by_cases q : a ≤ e
      · left; rw [cut, cut, if_neg p, if_pos q]; simp
      · right; rw [cut, cut, if_neg p, if_neg q]; exact ⟨rfl, h⟩
theorem revI {α : Type} {p : List α → Prop} (h0 : p []) (h1 : ∀ s c, p s → p (s ++ [c])) (s : List α) : p s := by
  have h : ∀ t : List α, p t.reverse := by
    intro t
    induction t with
    | nil => exact h0
    | cons a r ih => rw [List.reverse_cons]; exact h1 _ _ ih
  have := h s.reverse
  rwa [List.reverse_reverse] at this
def dg : Nat → Nat → List UInt8
  | _, 0 => []
  | n, k + 1 => dg (n / 10) k ++ [UInt8.ofNat (48 + n % 10)]
theorem dg_len : ∀ n k : Nat, (dg n k).length = k
  | _, 0 => rfl
  | n, k + 1 => by rw [dg, List.length_append, dg_len]; rfl
def valD (s : List UInt8) : Nat := s.foldl (fun n c => 10 * n + (c.toNat - 48)) 0
def digB (c : UInt8) : Bool := decide (48 ≤ c.toNat) && decide (c.toNat ≤ 57)
theorem valD_snoc (s : List UInt8) (c : UInt8) : valD (s ++ [c]) = 10 * valD s + (c.toNat - 48) := by simp [valD]
theorem valF (s : List UInt8) : ∀ a, s.foldl (fun n c => 10 * n + (c.toNat - 48)) a = a * 10 ^ s.length + valD s := by
  induction s using revI with
  | h0 => intro a; simp [valD]
  | h1 s c ih => intro a; rw [List.foldl_append, valD_snoc]; simp only [List.foldl_cons, List.foldl_nil, List.length_append, List.length_cons, List.length_nil]; rw [ih a, Nat.pow_succ, Nat.mul_add]; rw [Nat.mul_left_comm, Nat.mul_comm 10 (10 ^ _)]; omega
theorem valD_app (s t : List UInt8) : valD (s ++ t) = valD s * 10 ^ t.length + valD t := by
  rw [valD, List.foldl_append, valF]; rfl
theorem u8d (n : Nat) : (UInt8.ofNat (48 + n % 10)).toNat = 48 + n % 10 := by
  rw [UInt8.toNat_ofNat']; omega
theorem dg_val : ∀ n k : Nat, n < 10 ^ k → valD (dg n k) = n
  | n, 0, h => by simp only [Nat.pow_zero] at h; simp only [dg, valD, List.foldl_nil]; omega
  | n, k + 1, h => by
    rw [dg, valD_snoc, dg_val (n / 10) k (by rw [Nat.pow_succ] at h; omega), u8d]
    omega
theorem dg_dig : ∀ n k : Nat, (dg n k).all digB = true
  | _, 0 => rfl
  | n, k + 1 => by
    rw [dg, List.all_append, dg_dig]
    simp only [List.all_cons, List.all_nil, Bool.and_true, Bool.true_and, digB, u8d, Bool.and_eq_true, decide_eq_true_eq]
    omega
theorem valD_lt : ∀ (s : List UInt8), s.all digB = true → valD s < 10 ^ s.length := by
  intro s
  induction s using revI with
  | h0 => intro; simp [valD]
  | h1 s c ih =>
    intro h
    rw [List.all_append, Bool.and_eq_true] at h
    have := ih h.1
    have hc := h.2
    simp only [List.all_cons, List.all_nil, Bool.and_true, digB, Bool.and_eq_true, decide_eq_true_eq] at hc
    rw [valD_snoc, List.length_append, List.length_singleton, Nat.pow_succ]
    omega
theorem dg_of_val : ∀ (s : List UInt8), s.all digB = true → dg (valD s) s.length = s := by
  intro s
  induction s using revI with
  | h0 => intro; rfl
  | h1 s c ih =>
    intro h
    rw [List.all_append, Bool.and_eq_true] at h
    have hc := h.2
    simp only [List.all_cons, List.all_nil, Bool.and_true, digB, Bool.and_eq_true, decide_eq_true_eq] at hc
    rw [valD_snoc, List.length_append, List.length_singleton, dg, show (10 * valD s + (c.toNat - 48)) / 10 = valD s by omega, ih h.1]
    congr 2
    rw [show 48 + (10 * valD s + (c.toNat - 48)) % 10 = c.toNat by omega]
    exact UInt8.ofNat_toNat
end Go.Proofs.Ytogplpcamiicgaa
end
section
/- Times as texts: leap years, days, digits. -/
set_option linter.unusedSimpArgs false
set_option linter.unusedVariables false
namespace Go.Proofs.Ytogplpcamiicgaa
open Go.RowKit Go.Bo Go.Ab

theorem leap_int (n : Nat) : (((n : Int).tmod 4 == 0) && ((n : Int).tmod 100 != 0) || ((n : Int).tmod 400 == 0)) = leapN n := by
  have e4 : (n : Int).tmod 4 = ((n % 4 : Nat) : Int) := (Int.ofNat_tmod n 4).symm
  have e100 : (n : Int).tmod 100 = ((n % 100 : Nat) : Int) := (Int.ofNat_tmod n 100).symm
  have e400 : (n : Int).tmod 400 = ((n % 400 : Nat) : Int) := (Int.ofNat_tmod n 400).symm
  rw [e4, e100, e400, leapN, Bool.eq_iff_iff]
  simp only [Bool.or_eq_true, Bool.and_eq_true, beq_iff_eq, bne_iff_ne, ne_eq, decide_eq_true_eq]
  omega
theorem leap_int2 (n : Nat) : (((n : Int).tmod 4 == 0) && (((n : Int).tmod 100 != 0) || ((n : Int).tmod 400 == 0))) = leapN n := by
  have e4 : (n : Int).tmod 4 = ((n % 4 : Nat) : Int) := (Int.ofNat_tmod n 4).symm
  have e100 : (n : Int).tmod 100 = ((n % 100 : Nat) : Int) := (Int.ofNat_tmod n 100).symm
  have e400 : (n : Int).tmod 400 = ((n % 400 : Nat) : Int) := (Int.ofNat_tmod n 400).symm
  rw [e4, e100, e400, leapN, Bool.eq_iff_iff]
  simp only [Bool.or_eq_true, Bool.and_eq_true, beq_iff_eq, bne_iff_ne, ne_eq, decide_eq_true_eq]
  omega
theorem leap_c (n : Nat) : PCalls Try.prog 49 [.x (.int .i64 n)] (.x (.bool (leapN n))) := by
  refine FCalls.pure (fcallsG (fz := true) G_ok (p := i49) rfl _ (Nat.le_of_ble_eq_true rfl) _ (fun C0 E0 => ?_)) rfl
  dsimp only [i49, argsφ]
  have uu := trivial
  refine WI.seq ?_
  refine WI.regB noTabs_ok [0] ?_
  refine oS ?_
  refine oN ?_
  refine thenQ_normal ?_
  refine WI.seq ?_
  refine WI.regB noTabs_ok [2] ?_
  refine oS ?_
  iterate 2 refine oG ?_
  refine oS ?_
  iterate 4 refine oG ?_
  refine oS ?_
  iterate 4 refine oG ?_
  refine oS ?_
  refine oN ?_
  refine thenQ_normal ?_
  refine WI.ret ?_
  first | refine lfR ?_ | refine lfR2 ?_
  rw [← leap_int] -- leaf 0
theorem leapR_c (n : Nat) : PCalls Try.prog 42 [.x (.int .i64 n)] (.x (.bool (leapN n))) := by
  refine FCalls.pure (fcallsG (fz := true) G_ok (p := i42) rfl _ (Nat.le_of_ble_eq_true rfl) _ (fun C0 E0 => ?_)) rfl
  dsimp only [i42, argsφ]
  have uu := trivial
  refine WI.seq ?_
  refine WI.regB noTabs_ok [0] ?_
  refine oS ?_
  refine oN ?_
  refine thenQ_normal ?_
  refine WI.seq ?_
  refine WI.regB noTabs_ok [2] ?_
  refine oS ?_
  iterate 2 refine oG ?_
  refine oS ?_
  iterate 9 refine oG ?_
  refine oS ?_
  refine oN ?_
  refine thenQ_normal ?_
  refine WI.ret ?_
  first | refine lfR ?_ | refine lfR2 ?_
  rw [← leap_int2] -- leaf 0
def leapG : List D → Option (Bool × D)
  | [.x (.int .i64 a)] => some (decide (0 ≤ a), .x (.bool (leapN a.toNat)))
  | _ => none
theorem leapG_ok : ∀ args r, leapG args = some (true, r) → PCalls Try.prog 49 args r := by
  intro args r h
  unfold leapG at h
  split at h
  · rename_i a
    simp only [Option.some.injEq, Prod.mk.injEq, Bool.and_eq_true, decide_eq_true_eq, true_and] at h
    obtain ⟨h1, rfl⟩ := h
    exact (by have := leap_c a.toNat; rwa [Int.toNat_of_nonneg h1] at this)
  · cases h
def leapRG : List D → Option (Bool × D)
  | [.x (.int .i64 a)] => some (decide (0 ≤ a), .x (.bool (leapN a.toNat)))
  | _ => none
theorem leapRG_ok : ∀ args r, leapRG args = some (true, r) → PCalls Try.prog 42 args r := by
  intro args r h
  unfold leapRG at h
  split at h
  · rename_i a
    simp only [Option.some.injEq, Prod.mk.injEq, Bool.and_eq_true, decide_eq_true_eq, true_and] at h
    obtain ⟨h1, rfl⟩ := h
    exact (by have := leapR_c a.toNat; rwa [Int.toNat_of_nonneg h1] at this)
  · cases h
theorem leaps_c (n : Nat) (h : n ≤ 100000) : PCalls Try.prog 48 [.x (.int .i64 n)] (.x (.int .i64 (lpN n))) := by
  have e4 : (n : Int).tdiv 4 = ((n / 4 : Nat) : Int) := (Int.ofNat_tdiv n 4).symm
  have e100 : (n : Int).tdiv 100 = ((n / 100 : Nat) : Int) := (Int.ofNat_tdiv n 100).symm
  have e400 : (n : Int).tdiv 400 = ((n / 400 : Nat) : Int) := (Int.ofNat_tdiv n 400).symm
  refine FCalls.pure (fcallsG (fz := true) G_ok (p := i48) rfl _ (Nat.le_of_ble_eq_true rfl) _ (fun C0 E0 => ?_)) rfl
  dsimp only [i48, argsφ]
  have uu := And.intro @e4 (And.intro @e100 (@e400))
  refine WI.seq ?_
  refine WI.regB noTabs_ok [0] ?_
  refine oS ?_
  refine oN ?_
  refine thenQ_normal ?_
  refine WI.seq ?_
  refine WI.regB noTabs_ok [2] ?_
  refine oS ?_
  refine oG ?_
  refine oS ?_
  iterate 2 refine oG ?_
  refine oS ?_
  iterate 2 refine oG ?_
  refine oS ?_
  refine oN ?_
  refine thenQ_normal ?_
  refine WI.ret ?_
  first | refine lfR ?_ | refine lfR2 ?_
  congr 2; unfold lpN; omega -- leaf 0
def leapsG : List D → Option (Bool × D)
  | [.x (.int .i64 a)] => some (decide (0 ≤ a ∧ a ≤ 100000), .x (.int .i64 (lpN a.toNat)))
  | _ => none
theorem leapsG_ok : ∀ args r, leapsG args = some (true, r) → PCalls Try.prog 48 args r := by
  intro args r h
  unfold leapsG at h
  split at h
  · rename_i a
    simp only [Option.some.injEq, Prod.mk.injEq, Bool.and_eq_true, decide_eq_true_eq, true_and] at h
    obtain ⟨h1, rfl⟩ := h
    exact (by have := leaps_c a.toNat (by omega); rwa [Int.toNat_of_nonneg h1.1] at this)
  · cases h
def tabSt1 : Tabs := addQ (noTabs) 48 leapsG
theorem tabSt1_ok : SsOk Try.prog tabSt1 := addQ_ok (noTabs_ok) (G_enters G_ok (p := i48) rfl) leapsG_ok
theorem tabSt1_q48 (a : List D) : tabSt1.q 48 a = leapsG a := rfl
theorem tabSt1_r (f : FuncId) (a : List D) (o : List Ob) : tabSt1.r f a o = none := rfl
theorem tabSt1_k (f : FuncId) (a : List D) (o : List Ob) : tabSt1.k f a o = none := rfl
theorem before_c (n : Nat) (h : 1970 ≤ n ∧ n ≤ 100000) : PCalls Try.prog 39 [.x (.int .i64 n)] (.x (.int .i64 (bef n))) := by
  have e1 : ((n : Int) - 1).toNat = n - 1 := by omega
  have e2 : (1969 : Int).toNat = 1969 := rfl
  have k1 := lp_mono 1969 (n - 1) (by omega)
  have k2 : lpN (n - 1) ≤ 200000 := by unfold lpN; omega
  refine FCalls.pure (fcallsG (fz := true) G_ok (p := i39) rfl _ (Nat.le_of_ble_eq_true rfl) _ (fun C0 E0 => ?_)) rfl
  dsimp only [i39, argsφ]
  have uu := And.intro @leapsG.eq_1 (And.intro @leapsG.eq_2 (And.intro @e1 (And.intro @e2 (And.intro @tabSt1_r (And.intro @tabSt1_k (@tabSt1_q48))))))
  refine WI.seq ?_
  refine WI.regB tabSt1_ok [0] ?_
  refine oS ?_
  refine oN ?_
  refine thenQ_normal ?_
  refine WI.seq ?_
  refine WI.regB tabSt1_ok [0, 3] ?_
  refine oS ?_
  refine oN ?_
  refine thenQ_normal ?_
  refine WI.seq ?_
  refine WI.regB tabSt1_ok [2] ?_
  refine oS ?_
  iterate 2 refine oG ?_
  iterate 2 refine oS ?_
  refine oG ?_
  refine oC ?_
  refine oG ?_
  refine oS ?_
  refine oC ?_
  refine oG ?_
  refine oS ?_
  refine oN ?_
  refine thenQ_normal ?_
  refine WI.ret ?_
  first | refine lfR ?_ | refine lfR2 ?_
  congr 2; unfold bef; omega -- leaf 0
def beforeG : List D → Option (Bool × D)
  | [.x (.int .i64 a)] => some (decide (1970 ≤ a ∧ a ≤ 100000), .x (.int .i64 (bef a.toNat)))
  | _ => none
theorem beforeG_ok : ∀ args r, beforeG args = some (true, r) → PCalls Try.prog 39 args r := by
  intro args r h
  unfold beforeG at h
  split at h
  · rename_i a
    simp only [Option.some.injEq, Prod.mk.injEq, Bool.and_eq_true, decide_eq_true_eq, true_and] at h
    obtain ⟨h1, rfl⟩ := h
    exact (by have := before_c a.toNat (by omega); rwa [Int.toNat_of_nonneg (by omega)] at this)
  · cases h
def feb (n : Nat) : Nat := if leapN n = true then 29 else 28
abbrev monD (n : Nat) : D := .agg [.x (.int .i64 31), .x (.int .i64 (feb n)), .x (.int .i64 31), .x (.int .i64 30), .x (.int .i64 31), .x (.int .i64 30), .x (.int .i64 31), .x (.int .i64 31), .x (.int .i64 30), .x (.int .i64 31), .x (.int .i64 30), .x (.int .i64 31)]
def tabSt2 : Tabs := addQ (noTabs) 49 leapG
theorem tabSt2_ok : SsOk Try.prog tabSt2 := addQ_ok (noTabs_ok) (G_enters G_ok (p := i49) rfl) leapG_ok
theorem tabSt2_q49 (a : List D) : tabSt2.q 49 a = leapG a := rfl
theorem tabSt2_r (f : FuncId) (a : List D) (o : List Ob) : tabSt2.r f a o = none := rfl
theorem tabSt2_k (f : FuncId) (a : List D) (o : List Ob) : tabSt2.k f a o = none := rfl
abbrev m28 : D := .agg [.x (.int .i64 31), .x (.int .i64 28), .x (.int .i64 31), .x (.int .i64 30), .x (.int .i64 31), .x (.int .i64 30), .x (.int .i64 31), .x (.int .i64 31), .x (.int .i64 30), .x (.int .i64 31), .x (.int .i64 30), .x (.int .i64 31)]
theorem bld12 (φ : List (Nat × D)) : buildD φ [(0, 1, .c (.x (.int .i64 31))), (1, 1, .c (.x (.int .i64 28))), (2, 1, .c (.x (.int .i64 31))), (3, 1, .c (.x (.int .i64 30))), (4, 1, .c (.x (.int .i64 31))), (5, 1, .c (.x (.int .i64 30))), (6, 1, .c (.x (.int .i64 31))), (7, 1, .c (.x (.int .i64 31))), (8, 1, .c (.x (.int .i64 30))), (9, 1, .c (.x (.int .i64 31))), (10, 1, .c (.x (.int .i64 30))), (11, 1, .c (.x (.int .i64 31)))] [.x (.int .i64 0), .x (.int .i64 0), .x (.int .i64 0), .x (.int .i64 0), .x (.int .i64 0), .x (.int .i64 0), .x (.int .i64 0), .x (.int .i64 0), .x (.int .i64 0), .x (.int .i64 0), .x (.int .i64 0), .x (.int .i64 0)] = some (true, [.x (.int .i64 31), .x (.int .i64 28), .x (.int .i64 31), .x (.int .i64 30), .x (.int .i64 31), .x (.int .i64 30), .x (.int .i64 31), .x (.int .i64 31), .x (.int .i64 30), .x (.int .i64 31), .x (.int .i64 30), .x (.int .i64 31)]) := by kernel_rfl
theorem stepBuild {S : Tabs} {φ : List (Nat × D)} {os : List Ob} {d : Nat} {zs v : List D} {ps : List (Nat × Nat × IO)} {ok : Bool} (h : buildD φ ps zs = some (ok, v)) : stepOp S φ os ⟨some d, .build zs ps, none⟩ = some (ok, Ab.put φ d (.agg v), os) := by
  simp [stepOp, evQ, aval, h, putO]
theorem months_c (n : Nat) : PCalls Try.prog 40 [.x (.int .i64 n)] (monD n) := by
  refine FCalls.pure (fcallsG (fz := true) G_ok (p := i40) rfl _ (Nat.le_of_ble_eq_true rfl) _ (fun C0 E0 => ?_)) rfl
  dsimp only [i40, argsφ]
  have uu := And.intro @leapG.eq_1 (And.intro @leapG.eq_2 (And.intro @tabSt2_r (And.intro @tabSt2_k (@tabSt2_q49))))
  refine WI.seq ?_
  refine WI.regB tabSt2_ok [0, 2] ?_
  refine oG ?_
  refine oN ?_
  refine thenQ_normal ?_
  refine WI.seq ?_
  refine WI.regB tabSt2_ok [0, 2, 3] ?_
  refine osS (φ' := [(0, _), (2, _), (4, m28)]) (stepBuild (bld12 _)) rfl ?_
  iterate 2 refine oG ?_
  refine oN ?_
  refine thenQ_normal ?_
  refine WI.seq ?_
  refine WI.seq ?_
  refine WI.regB tabSt2_ok [2, 3, 6] ?_
  refine oS ?_
  refine oC ?_
  refine oN ?_
  refine thenQ_normal ?_
  refine WI.cond (b := _) rfl rfl (fun h0 => ?_) (fun h0 => ?_)
  · try simp only [zB] at h0
    refine WI.regB tabSt2_ok [2, 3] ?_
    iterate 5 refine oG ?_
    refine oN ?_
    refine thenQ_normal ?_
    refine WI.seq ?_
    refine WI.regB tabSt2_ok [2] ?_
    iterate 2 refine oG ?_
    refine oN ?_
    refine thenQ_normal ?_
    refine WI.ret ?_
    first | refine lfR ?_ | refine lfR2 ?_
    simp [monD, feb, h0] -- leaf 0
  · try simp only [zB] at h0
    refine WI.skip ?_
    refine thenQ_normal ?_
    refine WI.seq ?_
    refine WI.regB tabSt2_ok [2] ?_
    iterate 2 refine oG ?_
    refine oN ?_
    refine thenQ_normal ?_
    refine WI.ret ?_
    first | refine lfR ?_ | refine lfR2 ?_
    simp [monD, feb, h0] -- leaf 1
theorem set_mid {α : Type} (A C : List α) (m : Nat) (z y : α) : (A ++ List.replicate (m + 1) z ++ C).set (A.length + m) y = A ++ List.replicate m z ++ (y :: C) := by
  rw [List.replicate_succ', List.append_assoc, List.append_assoc, List.append_assoc, List.set_append_right _ _ (by omega), Nat.add_sub_cancel_left, List.set_append_right _ _ (by simp)]
  simp
theorem get_mid {α : Type} (A C : List α) (m : Nat) (z : α) : (A ++ List.replicate (m + 1) z ++ C)[A.length + m]? = some z := by
  rw [List.append_assoc, List.getElem?_append_right (by omega), Nat.add_sub_cancel_left, List.getElem?_append_left (by simp), List.getElem?_replicate, if_pos (by omega)]
theorem dg_get : ∀ (k n i : Nat) (h : i < k), (dg n k)[i]? = some (UInt8.ofNat (48 + n / 10 ^ (k - 1 - i) % 10))
  | k + 1, n, i, h => by
    rw [dg]
    by_cases e : i = k
    · subst e
      rw [List.getElem?_append_right (by rw [dg_len]; omega), dg_len]
      simp
    · rw [List.getElem?_append_left (by rw [dg_len]; omega), dg_get k (n / 10) i (by omega), Nat.div_div_eq_div_mul, ← Nat.pow_succ', show (k - 1 - i).succ = k + 1 - 1 - i by omega]
theorem dg_drop (k n m : Nat) (h : m < k) : (dg n k).drop m = UInt8.ofNat (48 + n / 10 ^ (k - (m + 1)) % 10) :: (dg n k).drop (m + 1) := by
  have hl : m < (dg n k).length := by rw [dg_len]; exact h
  have := dg_get k n m h
  rw [List.getElem?_eq_getElem hl] at this
  rw [List.drop_eq_getElem_cons hl, Option.some.inj this, show k - 1 - m = k - (m + 1) by omega]
theorem wrap_dig (x : Nat) : IntKind.u8.wrap (48 + ((x % 10 : Nat) : Int)) = ((UInt8.ofNat (48 + x % 10)).toNat : Int) := by
  rw [u8d]
  have h : x % 10 < 10 := Nat.mod_lt _ (by omega)
  generalize x % 10 = y at h ⊢
  have : y = 0 ∨ y = 1 ∨ y = 2 ∨ y = 3 ∨ y = 4 ∨ y = 5 ∨ y = 6 ∨ y = 7 ∨ y = 8 ∨ y = 9 := by omega
  rcases this with rfl | rfl | rfl | rfl | rfl | rfl | rfl | rfl | rfl | rfl <;> rfl
theorem digits_c (bs : List UInt8) (n k : Nat) (hb : bs.length ≤ 100) (hk : 1 ≤ k ∧ k ≤ 20) (hn : n ≤ 1000000000000000000) : MCalls Try.prog 41 [.ref 0 bs.length 0 bs.length, .x (.int .i64 n), .x (.int .i64 k)] [.rows false 5 1 (bs.map byteRow)] (.ref 0 (bs.length + k) 0 (bs.length + k)) [.rows false 5 1 ((bs ++ dg n k).map byteRow)] := by
  refine FCalls.mcalls (fcallsG (fz := false) G_ok (p := i41) rfl _ (Nat.le_of_ble_eq_true rfl) _ (fun C0 E0 => ?_))
  dsimp only [i41, argsφ]
  have uu := trivial
  refine WI.seq ?_
  refine WI.regB noTabs_ok [0, 1, 2] ?_
  refine oS ?_
  refine oN ?_
  refine thenQ_normal ?_
  refine WI.seq ?_
  refine WI.regB noTabs_ok [0, 1, 2, 7] ?_
  refine oS ?_
  refine oG ?_
  refine oS ?_
  refine oN ?_
  refine thenQ_normal ?_
  refine WI.seq ?_
  refine WI.regB noTabs_ok [0, 1, 2, 7] ?_
  iterate 2 refine oS ?_
  refine oG ?_
  refine oS ?_
  refine oN ?_
  refine thenQ_normal ?_
  refine WI.seq ?_
  refine WI.seq ?_
  refine WI.regB noTabs_ok [0, 1, 7, 8] ?_
  refine oS ?_
  refine oG ?_
  refine oS ?_
  refine oN ?_
  refine thenQ_normal ?_
  refine WI.block ?_
  refine WI.loop (fun φ os => ∃ (j : Nat) (rs : List (List X)), φ = [(0, .ref 0 (bs.length + k) 0 (bs.length + k)), (1, .x (.int .i64 (n / 10 ^ (k - j) : Nat))), (7, .x (.int .i64 bs.length)), (8, .x (.int .i64 ((j : Int) - 1)))] ∧ os = [.rows false 5 1 rs] ∧ j ≤ k ∧ rs.length = bs.length + k ∧ rs = bs.map byteRow ++ List.replicate j [.int .u8 0] ++ ((dg n k).drop j).map byteRow) (fun φ _ => ((intOf? (get φ 8).val).getD 0 + 1).toNat) ?_ (fun φ os hI => ?_)
  · exact ⟨k, _, by simp, rfl, by omega, by simp, by simp [dg_len, List.drop_of_length_le]⟩
  · obtain ⟨j, rs, rfl, rfl, hj, hrl, hrs⟩ := hI
    refine WI.seq ?_
    refine WI.seq ?_
    refine WI.regB noTabs_ok [0, 1, 7, 8, 17] ?_
    refine oS ?_
    refine oG ?_
    refine oN ?_
    refine thenQ_normal ?_
    refine WI.cond (b := _) rfl rfl (fun h0 => ?_) (fun h0 => ?_)
    · try simp only [zB] at h0
      refine WI.skip ?_
      refine thenQ_normal ?_
      refine WI.seq ?_
      refine WI.block ?_
      refine WI.seq ?_
      obtain ⟨m, rfl⟩ : ∃ m, j = m + 1 := ⟨j - 1, by omega⟩
      have e1 : ((bs.length : Int) + (((m + 1 : Nat) : Int) - 1)).toNat = bs.length + m := by omega
      have e2 : ((n / 10 ^ (k - (m + 1)) : Nat) : Int).tmod 10 = ((n / 10 ^ (k - (m + 1)) % 10 : Nat) : Int) := (Int.ofNat_tmod _ 10).symm
      have e3 : ((n / 10 ^ (k - (m + 1)) : Nat) : Int).tdiv 10 = ((n / 10 ^ (k - (m + 1)) / 10 : Nat) : Int) := (Int.ofNat_tdiv _ 10).symm
      have e4 := wrap_dig (n / 10 ^ (k - (m + 1)))
      have e5 : rs[bs.length + m]? = some [X.int .u8 0] := by rw [hrs, show bs.length = (bs.map byteRow).length by simp]; exact get_mid _ _ _ _
      have e6 : n / 10 ^ (k - m) = n / 10 ^ (k - (m + 1)) / 10 := by rw [Nat.div_div_eq_div_mul, ← Nat.pow_succ, show (k - (m + 1)).succ = k - m by omega]
      have e7 : n / 10 ^ (k - (m + 1)) ≤ n := Nat.div_le_self _ _
      have e8 : IntKind.i64.wrap ((n / 10 ^ (k - (m + 1)) / 10 : Nat) : Int) = ((n / 10 ^ (k - (m + 1)) / 10 : Nat) : Int) := by generalize n / 10 ^ (k - (m + 1)) = a at e7 ⊢; exact IntWalk.i64_in _ (by omega)
      have uu := And.intro uu (And.intro e1 (And.intro e8 (And.intro e2 (And.intro e3 (And.intro e4 e5)))))
      refine WI.regB noTabs_ok [0, 1, 7, 8] ?_
      iterate 3 refine oS ?_
      refine oG ?_
      refine oS ?_
      iterate 5 refine oG ?_
      refine oN ?_
      refine thenQ_normal ?_
      refine WI.regB noTabs_ok [0, 1, 7, 8] ?_
      refine oS ?_
      refine oG ?_
      refine oS ?_
      refine oN ?_
      refine blockQ_normal ?_
      refine thenQ_normal ?_
      refine WI.regB noTabs_ok [0, 1, 7, 8] ?_
      refine oS ?_
      refine oG ?_
      refine oS ?_
      refine oN ?_
      refine thenQ_normal ?_
      exact ⟨⟨m, _, by rw [e6]; first | rfl | simp, rfl, by omega, by simp [hrl], by rw [hrs, (show bs.length + m = (bs.map byteRow).length + m by simp), set_mid, dg_drop k n m (by omega)]; rfl⟩, by simp [Ab.get, D.val, intOf?]⟩
    · try simp only [zB] at h0
      refine WI.exit ?_
      refine thenQ_exit ?_
      refine thenQ_exit ?_
      refine blockQ_hit ?_
      refine thenQ_normal ?_
      refine WI.seq ?_
      refine WI.regB noTabs_ok [6] ?_
      iterate 2 refine oS ?_
      refine oN ?_
      refine thenQ_normal ?_
      refine WI.ret ?_
      first | refine lfR ?_ | refine lfR2 ?_
      obtain rfl : j = 0 := by omega
      rw [hrs]; simp -- leaf 0
def digitsT : List D → List Ob → Option (Bool × D × List Ob)
  | [.ref 0 e 0 l, .x (.int .i64 n), .x (.int .i64 k)], [.rows false 5 1 B] => (unbytes B).map fun bs =>
      (decide (e = bs.length ∧ l = bs.length ∧ bs.length ≤ 100 ∧ 1 ≤ k ∧ k ≤ 20 ∧ 0 ≤ n ∧ n ≤ 1000000000000000000), .ref 0 (bs.length + k.toNat) 0 (bs.length + k.toNat), [.rows false 5 1 ((bs ++ dg n.toNat k.toNat).map byteRow)])
  | _, _ => none
theorem digitsT_ok : ∀ args os r os', digitsT args os = some (true, r, os') → MCalls Try.prog 41 args os r os' := by
  intro args os r os' h
  unfold digitsT at h
  split at h
  · rename_i e l n k B
    obtain ⟨bs, h1, h2⟩ := Option.map_eq_some_iff.1 h
    simp only [Prod.mk.injEq, decide_eq_true_eq] at h2
    obtain ⟨⟨rfl, rfl, h3, h4, h5, h6, h7⟩, rfl, rfl⟩ := h2
    rw [unbytes_inv h1]
    have := digits_c bs n.toNat k.toNat h3 (by omega) (by omega)
    rwa [Int.toNat_of_nonneg h6, Int.toNat_of_nonneg (by omega)] at this
  · cases h
def numD (s : List UInt8) : Int × Bool := if s.all digB = true then ((valD s : Nat), true) else (0, false)
theorem dig_take {s : List UInt8} {j : Nat} (hj : j < s.length) (h : (s.take j).all digB = true) (h1 : 48 ≤ (s[j].toNat : Int) ∧ (s[j].toNat : Int) ≤ 57) : (s.take (j + 1)).all digB = true := by
  rw [← List.take_append_getElem hj, List.all_append, h]
  simp only [List.all_cons, List.all_nil, Bool.and_true, Bool.true_and, digB, Bool.and_eq_true, decide_eq_true_eq]
  omega
theorem num_step {s : List UInt8} {j : Nat} (hj : j < s.length) (h1 : 48 ≤ (s[j].toNat : Int) ∧ (s[j].toNat : Int) ≤ 57) : 10 * (valD (s.take j) : Int) + ((s[j].toNat : Int) - 48) = (valD (s.take (j + 1)) : Nat) := by
  rw [← List.take_append_getElem hj, valD_snoc]
  omega
theorem number_c (s : List UInt8) (hs : s.length ≤ 15) : PCalls Try.prog 45 [.x (.str s)] (.tup [.x (.int .i64 (numD s).1), .x (.bool (numD s).2)]) := by
  refine FCalls.pure (fcallsG (fz := true) G_ok (p := i45) rfl _ (Nat.le_of_ble_eq_true rfl) _ (fun C0 E0 => ?_)) rfl
  dsimp only [i45, argsφ]
  have uu := trivial
  refine WI.seq ?_
  refine WI.regB noTabs_ok [0] ?_
  iterate 2 refine oS ?_
  refine oN ?_
  refine thenQ_normal ?_
  refine WI.seq ?_
  refine WI.regB noTabs_ok [0, 4] ?_
  refine oS ?_
  refine oN ?_
  refine thenQ_normal ?_
  refine WI.seq ?_
  refine WI.seq ?_
  refine WI.regB noTabs_ok [4, 8, 9, 10] ?_
  refine oS ?_
  iterate 2 refine oG ?_
  refine oS ?_
  refine oN ?_
  refine thenQ_normal ?_
  refine WI.block ?_
  refine WI.loop (fun φ os => ∃ (j : Nat), φ = [(4, .x (.int .i64 (valD (s.take j) : Nat))), (8, .ref 0 s.length 0 s.length), (9, .x (.int .i64 s.length)), (10, .x (.int .i64 j))] ∧ os = [.rows true 5 1 (s.map byteRow)] ∧ j ≤ s.length ∧ (s.take j).all digB = true) (down s.length 10) ?_ (fun φ os hI => ?_)
  · exact ⟨0, rfl, rfl, by omega, rfl⟩
  · obtain ⟨j, rfl, rfl, hj, ha⟩ := hI
    refine WI.seq ?_
    refine WI.regB noTabs_ok [4, 8, 9, 10, 11] ?_
    refine oG ?_
    refine oN ?_
    refine thenQ_normal ?_
    refine WI.seq ?_
    refine WI.cond (b := _) rfl rfl (fun h0 => ?_) (fun h0 => ?_)
    · try simp only [zB] at h0
      refine WI.skip ?_
      refine thenQ_normal ?_
      refine WI.seq ?_
      refine WI.block ?_
      refine WI.seq ?_
      have hj5 : j < s.length := by omega
      have hv : valD (s.take j) < 1000000000000000 := Nat.lt_of_lt_of_le (valD_lt _ ha) (by rw [List.length_take, Nat.min_eq_left hj]; exact Nat.pow_le_pow_right (by omega) (show j ≤ 15 by omega))
      refine WI.regB noTabs_ok [4, 6, 8, 9, 10] ?_
      iterate 2 refine oG ?_
      refine oS ?_
      refine oN ?_
      refine thenQ_normal ?_
      refine WI.seq ?_
      refine WI.seq ?_
      refine WI.regB noTabs_ok [4, 6, 8, 9, 10, 19] ?_
      refine oS ?_
      refine oG ?_
      refine oS ?_
      iterate 3 refine oG ?_
      refine oN ?_
      refine thenQ_normal ?_
      refine WI.cond (b := _) rfl rfl (fun h1 => ?_) (fun h1 => ?_)
      · try simp only [zB] at h1
        refine WI.seq ?_
        refine WI.regB noTabs_ok [2, 3] ?_
        iterate 2 refine oS ?_
        refine oN ?_
        refine thenQ_normal ?_
        refine WI.ret ?_
        refine thenQ_ret ?_
        refine blockQ_ret ?_
        refine thenQ_ret ?_
        refine thenQ_ret ?_
        refine blockQ_ret ?_
        refine thenQ_ret ?_
        first | refine lfR ?_ | refine lfR2 ?_
        rw [numD, if_neg (fun h => by have := List.all_eq_true.1 h _ (List.getElem_mem hj5); simp only [digB, Bool.and_eq_true, decide_eq_true_eq] at this; omega)] -- leaf 0
      · try simp only [zB] at h1
        refine WI.skip ?_
        refine thenQ_normal ?_
        have e9 : IntKind.u8.wrap ((s[j].toNat : Int) - 48) = (s[j].toNat : Int) - 48 := IntWalk.u8_in _ (by omega)
        have uu := And.intro uu e9
        refine WI.regB noTabs_ok [4, 8, 9, 10] ?_
        refine oS ?_
        refine oG ?_
        refine oS ?_
        iterate 3 refine oG ?_
        refine oS ?_
        refine oN ?_
        refine blockQ_normal ?_
        refine thenQ_normal ?_
        refine WI.regB noTabs_ok [4, 8, 9, 10] ?_
        refine oG ?_
        refine oS ?_
        refine oN ?_
        refine thenQ_normal ?_
        exact ⟨⟨j + 1, by rw [num_step hj5 h1]; simp, rfl, by omega, dig_take hj5 ha h1⟩, by simp [down, Ab.get, D.val, intOf?]; omega⟩
    · try simp only [zB] at h0
      refine WI.exit ?_
      refine thenQ_exit ?_
      refine thenQ_exit ?_
      refine blockQ_hit ?_
      refine thenQ_normal ?_
      refine WI.seq ?_
      refine WI.regB noTabs_ok [2, 3] ?_
      iterate 3 refine oS ?_
      refine oN ?_
      refine thenQ_normal ?_
      refine WI.ret ?_
      first | refine lfR ?_ | refine lfR2 ?_
      rw [List.take_of_length_le (by omega)] at ha; rw [List.take_of_length_le (by omega), numD, if_pos ha] -- leaf 1
end Go.Proofs.Ytogplpcamiicgaa
end
section
/- Times as texts: put. -/
set_option linter.unusedSimpArgs false
set_option linter.unusedVariables false
namespace Go.Proofs.Ytogplpcamiicgaa
open Go.RowKit Go.Bo Go.Ab

/-- A time's text. -/
def txt (n : Nat) : List UInt8 :=
  dg (yearOf (n / 86400)) 4 ++ dg ((cut (mon (yearOf (n / 86400))) (n / 86400 - bef (yearOf (n / 86400)))).1 + 1) 2 ++ dg ((cut (mon (yearOf (n / 86400))) (n / 86400 - bef (yearOf (n / 86400)))).2 + 1) 2 ++ dg (n % 86400 / 3600) 2 ++ dg (n % 86400 / 60 % 60) 2 ++ dg (n % 86400 % 60) 2 ++ [90]
def putT (n : Int) : List UInt8 × Int := if 0 ≤ n ∧ n ≤ 253402300799 then (txt n.toNat, 0) else ([], 2)
theorem bef_le : ∀ k : Nat, bef (1970 + k) ≤ 366 * k
  | 0 => by rw [Nat.add_zero, bef0]; omega
  | k + 1 => by
    have := bef_le k
    have h2 : yl (1970 + k) ≤ 366 := by unfold yl; split <;> omega
    rw [← Nat.add_assoc, bef_succ _ (by omega)]
    omega
theorem bef_10000 : bef 10000 = 2932897 := by kernel_rfl
theorem year_le {y d : Nat} (h0 : 1970 ≤ y) (h1 : bef y ≤ d) (h2 : d ≤ 2932896) : y ≤ 9999 := by
  refine Nat.not_lt.1 fun h => ?_
  have := bef_mono (a := 10000) (b := y) (by omega) (by omega)
  rw [bef_10000] at this
  omega
def rowI (l : List Nat) : List X := l.map fun (n : Nat) => X.int .i64 n
theorem rowI_get (l : List Nat) (m : Nat) (h : m < l.length) : (rowI l)[m]? = some (X.int .i64 (l[m] : Nat)) := by
  rw [rowI, List.getElem?_map, List.getElem?_eq_getElem h]; rfl
theorem take_sum_lt {l : List Nat} {m e : Nat} (hm : m < l.length) (h : (l.take m).sum + e < l.sum) (he : l[m] ≤ e) : m + 1 < l.length ∧ (l.take (m + 1)).sum + (e - l[m]) = (l.take m).sum + e := by
  have h1 : (l.take (m + 1)).sum = (l.take m).sum + l[m] := by rw [← List.take_append_getElem hm, List.sum_append]; simp
  refine ⟨?_, by omega⟩
  by_cases q : m + 1 < l.length
  · exact q
  · rw [List.take_of_length_le (by omega)] at h1; omega
theorem toNat_s (n : Nat) : ((n : Int) + 1).toNat = n + 1 := by omega
theorem td86400 (n : Nat) : (n : Int).tdiv 86400 = ((n / 86400 : Nat) : Int) := (Int.ofNat_tdiv n 86400).symm
theorem tm86400 (n : Nat) : (n : Int).tmod 86400 = ((n % 86400 : Nat) : Int) := (Int.ofNat_tmod n 86400).symm
theorem td366 (n : Nat) : (n : Int).tdiv 366 = ((n / 366 : Nat) : Int) := (Int.ofNat_tdiv n 366).symm
theorem td3600 (n : Nat) : (n : Int).tdiv 3600 = ((n / 3600 : Nat) : Int) := (Int.ofNat_tdiv n 3600).symm
theorem td60 (n : Nat) : (n : Int).tdiv 60 = ((n / 60 : Nat) : Int) := (Int.ofNat_tdiv n 60).symm
theorem tm60 (n : Nat) : (n : Int).tmod 60 = ((n % 60 : Nat) : Int) := (Int.ofNat_tmod n 60).symm
theorem end90 (B : List UInt8) (K : Nat) (h : B.length + 1 ≤ K) : ((B.map byteRow ++ [[X.int .u8 90]]).take K).map rowByte = B ++ [90] := by
  rw [List.take_of_length_le (by simp; omega), List.map_append, List.map_map]
  congr 1
  conv => rhs; rw [← List.map_id B]
  exact List.map_congr_left fun b _ => by simp [rowByte, byteRow]
def monthsG : List D → Option (Bool × D)
  | [.x (.int .i64 a)] => some (decide (0 ≤ a), monD a.toNat)
  | _ => none
theorem monthsG_ok : ∀ args r, monthsG args = some (true, r) → PCalls Try.prog 40 args r := by
  intro args r h
  unfold monthsG at h
  split at h
  · rename_i a
    simp only [Option.some.injEq, Prod.mk.injEq, Bool.and_eq_true, decide_eq_true_eq, true_and] at h
    obtain ⟨h1, rfl⟩ := h
    exact (by have := months_c a.toNat; rwa [Int.toNat_of_nonneg h1] at this)
  · cases h
def tabSt3 : Tabs := addT (addQ (addQ (noTabs) 39 beforeG) 40 monthsG) 41 digitsT
theorem tabSt3_ok : SsOk Try.prog tabSt3 := addT_ok (addQ_ok (addQ_ok (noTabs_ok) (G_enters G_ok (p := i39) rfl) beforeG_ok) (G_enters G_ok (p := i40) rfl) monthsG_ok) (G_enters G_ok (p := i41) rfl) digitsT_ok
theorem tabSt3_q39 (a : List D) : tabSt3.q 39 a = beforeG a := rfl
theorem tabSt3_q40 (a : List D) : tabSt3.q 40 a = monthsG a := rfl
theorem tabSt3_q41 (a : List D) : tabSt3.q 41 a = none := rfl
theorem tabSt3_t41 (a : List D) (o : List Ob) : tabSt3.t 41 a o = liftT digitsT a o := rfl
theorem tabSt3_r (f : FuncId) (a : List D) (o : List Ob) : tabSt3.r f a o = none := rfl
theorem tabSt3_k (f : FuncId) (a : List D) (o : List Ob) : tabSt3.k f a o = none := rfl
theorem put_c (n : Nat) (hn : n ≤ 253402300799) : PCalls Try.prog 28 [.x (.int .i64 n)] (.tup [.x (.str (txt n)), .x (.int .i64 0)]) := by
  have hd : n / 86400 ≤ 2932896 := by omega
  refine FCalls.pure (fcallsG (fz := true) G_ok (p := i28) rfl _ (Nat.le_of_ble_eq_true rfl) _ (fun C0 E0 => ?_)) rfl
  dsimp only [i28, argsφ]
  have uu := And.intro @beforeG.eq_1 (And.intro @beforeG.eq_2 (And.intro @monthsG.eq_1 (And.intro @monthsG.eq_2 (And.intro @digitsT.eq_1 (And.intro @toNat_s (And.intro @td86400 (And.intro @tm86400 (And.intro @td366 (And.intro @td3600 (And.intro @td60 (And.intro @tm60 (And.intro @rowI_get (And.intro @unb_bytes (And.intro @Nat.mul_one (And.intro @tabSt3_r (And.intro @tabSt3_k (And.intro @tabSt3_q39 (And.intro @tabSt3_q40 (And.intro @tabSt3_q41 (@tabSt3_t41))))))))))))))))))))
  refine WI.seq ?_
  refine WI.regB tabSt3_ok [0] ?_
  iterate 2 refine oS ?_
  refine oN ?_
  refine thenQ_normal ?_
  refine WI.seq ?_
  refine WI.seq ?_
  refine WI.regB tabSt3_ok [0, 17] ?_
  refine oS ?_
  refine oG (hok := by first | with_reducible rfl | omega | (simp [dg_len]; omega) | (simp; done) | (simp; omega) | rfl) ?_
  refine oS ?_
  iterate 3 refine oG (hok := by first | with_reducible rfl | omega | (simp [dg_len]; omega) | (simp; done) | (simp; omega) | rfl) ?_
  refine oN ?_
  refine thenQ_normal ?_
  refine WI.cond (b := _) rfl rfl (fun h0 => ?_) (fun h0 => ?_)
  · exfalso
    simp only [zB] at h0; omega
  · try simp only [zB] at h0
    refine WI.skip ?_
    refine thenQ_normal ?_
    refine WI.seq ?_
    refine WI.regB tabSt3_ok [4, 5] ?_
    refine oS ?_
    refine oG (hok := by first | with_reducible rfl | omega | (simp [dg_len]; omega) | (simp; done) | (simp; omega) | rfl) ?_
    refine oS ?_
    refine oG (hok := by first | with_reducible rfl | omega | (simp [dg_len]; omega) | (simp; done) | (simp; omega) | rfl) ?_
    iterate 2 refine oS ?_
    refine oN ?_
    refine thenQ_normal ?_
    refine WI.seq ?_
    refine WI.regB tabSt3_ok [4, 5, 6] ?_
    refine oS ?_
    iterate 2 refine oG (hok := by first | with_reducible rfl | omega | (simp [dg_len]; omega) | (simp; done) | (simp; omega) | rfl) ?_
    refine oS ?_
    refine oN ?_
    refine thenQ_normal ?_
    refine WI.seq ?_
    refine WI.block ?_
    refine WI.loop (fun φ os => ∃ y : Nat, φ = [(4, .x (.int .i64 (n / 86400 : Nat))), (5, .x (.int .i64 (n % 86400 : Nat))), (6, .x (.int .i64 y))] ∧ os = [] ∧ 1970 ≤ y ∧ bef y ≤ n / 86400) (down 10000 6) ?_ (fun φ os hI => ?_)
    · exact ⟨1970 + n / 86400 / 366, by simp, rfl, by omega, by have := bef_le (n / 86400 / 366); omega⟩
    · obtain ⟨y, rfl, rfl, hy, hb⟩ := hI
      refine WI.seq ?_
      refine WI.seq ?_
      have hy2 := year_le hy hb hd
      refine WI.regB tabSt3_ok [4, 5, 6, 29] ?_
      refine oS ?_
      refine oG (hok := by first | with_reducible rfl | omega | (simp [dg_len]; omega) | (simp; done) | (simp; omega) | rfl) ?_
      refine oC (hok := by first | with_reducible rfl | omega | (simp [dg_len]; omega) | (simp; done) | (simp; omega) | rfl) ?_
      refine oS ?_
      refine oG (hok := by first | with_reducible rfl | omega | (simp [dg_len]; omega) | (simp; done) | (simp; omega) | rfl) ?_
      refine oN ?_
      refine thenQ_normal ?_
      refine WI.cond (b := _) rfl rfl (fun h1 => ?_) (fun h1 => ?_)
      · try simp only [zB] at h1
        refine WI.skip ?_
        refine thenQ_normal ?_
        refine WI.block ?_
        refine WI.regB tabSt3_ok [4, 5, 6] ?_
        refine oS ?_
        refine oG (hok := by first | with_reducible rfl | omega | (simp [dg_len]; omega) | (simp; done) | (simp; omega) | rfl) ?_
        refine oS ?_
        refine oN ?_
        refine blockQ_normal ?_
        refine thenQ_normal ?_
        exact ⟨⟨y + 1, by simp, rfl, by omega, by omega⟩, by simp [down, Ab.get, D.val, intOf?]; omega⟩
      · try simp only [zB] at h1
        refine WI.exit ?_
        refine thenQ_exit ?_
        refine thenQ_exit ?_
        refine blockQ_hit ?_
        refine thenQ_normal ?_
        refine WI.seq ?_
        have hyo : yearOf (n / 86400) = y := yearOf_is hy hb (by omega)
        have hsum : n / 86400 - bef y < (mon y).sum := by rw [mon_sum]; have := bef_succ y hy; omega
        have e1 : ((n / 86400 : Nat) : Int) - (bef y : Nat) = ((n / 86400 - bef y : Nat) : Int) := by omega
        have uu := And.intro uu e1
        refine WI.regB tabSt3_ok [4, 5, 6] ?_
        iterate 2 refine oS ?_
        refine oC (hok := by first | with_reducible rfl | omega | (simp [dg_len]; omega) | (simp; done) | (simp; omega) | rfl) ?_
        refine oG (hok := by first | with_reducible rfl | omega | (simp [dg_len]; omega) | (simp; done) | (simp; omega) | rfl) ?_
        refine oS ?_
        refine oN ?_
        refine thenQ_normal ?_
        refine WI.seq ?_
        refine WI.regB tabSt3_ok [4, 5, 6, 7] ?_
        refine oS ?_
        refine oN ?_
        refine thenQ_normal ?_
        refine WI.seq ?_
        refine WI.regB tabSt3_ok [4, 5, 6, 7, 8] ?_
        refine oS ?_
        refine oC (hok := by first | with_reducible rfl | omega | (simp [dg_len]; omega) | (simp; done) | (simp; omega) | rfl) ?_
        iterate 2 refine oG (hok := by first | with_reducible rfl | omega | (simp [dg_len]; omega) | (simp; done) | (simp; omega) | rfl) ?_
        refine oN ?_
        refine thenQ_normal ?_
        refine WI.seq ?_
        refine WI.block ?_
        refine WI.loop (fun φ os => ∃ m e : Nat, φ = [(4, .x (.int .i64 e)), (5, .x (.int .i64 (n % 86400 : Nat))), (6, .x (.int .i64 y)), (7, .x (.int .i64 m)), (8, .eptr 0 1 0 0)] ∧ os = [.rows false 84 12 [rowI (mon y)]] ∧ m < 12 ∧ ((mon y).take m).sum + e = n / 86400 - bef y) (down 12 7) ?_ (fun φ os hI => ?_)
        · exact ⟨0, n / 86400 - bef y, rfl, rfl, by omega, by simp⟩
        · obtain ⟨m, e, rfl, rfl, hm, hme⟩ := hI
          refine WI.seq ?_
          refine WI.seq ?_
          have hml : m < (mon y).length := hm
          refine WI.regB tabSt3_ok [4, 5, 6, 7, 8, 42] ?_
          iterate 2 refine oS ?_
          iterate 3 refine oG (hok := by first | with_reducible rfl | omega | (simp [dg_len]; omega) | (simp; done) | (simp; omega) | rfl) ?_
          refine oN ?_
          refine thenQ_normal ?_
          refine WI.cond (b := _) rfl rfl (fun h2 => ?_) (fun h2 => ?_)
          · try simp only [zB] at h2
            refine WI.skip ?_
            refine thenQ_normal ?_
            refine WI.block ?_
            refine WI.seq ?_
            have hle : (mon y)[m] ≤ e := by omega
            have e5 : (e : Int) - ((mon y)[m] : Nat) = ((e - (mon y)[m] : Nat) : Int) := by omega
            refine WI.regB tabSt3_ok [4, 5, 6, 7, 8] ?_
            iterate 2 refine oS ?_
            iterate 3 refine oG (hok := by first | with_reducible rfl | omega | (simp [dg_len]; omega) | (simp; done) | (simp; omega) | rfl) ?_
            refine oS ?_
            refine oN ?_
            refine thenQ_normal ?_
            refine WI.regB tabSt3_ok [4, 5, 6, 7, 8] ?_
            refine oS ?_
            refine oG (hok := by first | with_reducible rfl | omega | (simp [dg_len]; omega) | (simp; done) | (simp; omega) | rfl) ?_
            refine oS ?_
            refine oN ?_
            refine blockQ_normal ?_
            refine thenQ_normal ?_
            exact ⟨⟨m + 1, e - (mon y)[m], by rw [e5]; simp, rfl, by have := (take_sum_lt hml (by omega) hle).1; rw [mon_len] at this; exact this, by rw [(take_sum_lt hml (by omega) hle).2, hme]⟩, by simp [down, Ab.get, D.val, intOf?]; omega⟩
          · try simp only [zB] at h2
            refine WI.exit ?_
            refine thenQ_exit ?_
            refine thenQ_exit ?_
            refine blockQ_hit ?_
            refine thenQ_normal ?_
            refine WI.seq ?_
            refine WI.regB tabSt3_ok [4, 5, 6, 7, 9] ?_
            refine oS ?_
            refine oN ?_
            refine thenQ_normal ?_
            refine WI.seq ?_
            refine WI.ownA 9 5 1 ?_
            refine WI.regB tabSt3_ok [4, 5, 7, 9] ?_
            iterate 2 refine oS ?_
            refine oC (hok := by first | with_reducible rfl | omega | (simp [dg_len]; omega) | (simp; done) | (simp; omega) | rfl) ?_
            refine oS ?_
            refine oN ?_
            refine thenQ_normal ?_
            refine WI.seq ?_
            refine WI.seq ?_
            refine WI.regB tabSt3_ok [9, 64, 65] ?_
            refine oS ?_
            refine oG (hok := by first | with_reducible rfl | omega | (simp [dg_len]; omega) | (simp; done) | (simp; omega) | rfl) ?_
            refine oS ?_
            refine oG (hok := by first | with_reducible rfl | omega | (simp [dg_len]; omega) | (simp; done) | (simp; omega) | rfl) ?_
            refine oS ?_
            refine oG (hok := by first | with_reducible rfl | omega | (simp [dg_len]; omega) | (simp; done) | (simp; omega) | rfl) ?_
            refine oS ?_
            iterate 2 refine oG (hok := by first | with_reducible rfl | omega | (simp [dg_len]; omega) | (simp; done) | (simp; omega) | rfl) ?_
            refine oS ?_
            iterate 2 refine oG (hok := by first | with_reducible rfl | omega | (simp [dg_len]; omega) | (simp; done) | (simp; omega) | rfl) ?_
            refine oS ?_
            refine oN ?_
            refine thenQ_normal ?_
            refine WI.block ?_
            refine WI.loopN 6 ?_
            refine WI.round ?_
            refine WI.seq ?_
            refine WI.regB tabSt3_ok [9, 64, 65, 66] ?_
            refine oG (hok := by first | with_reducible rfl | omega | (simp [dg_len]; omega) | (simp; done) | (simp; omega) | rfl) ?_
            refine oN ?_
            refine thenQ_normal ?_
            refine WI.seq ?_
            refine WI.cond (b := _) rfl rfl (fun h3 => ?_) (fun h3 => ?_)
            · try simp only [zB] at h3
              refine WI.skip ?_
              refine thenQ_normal ?_
              refine WI.seq ?_
              refine WI.block ?_
              refine WI.seq ?_
              refine WI.regB tabSt3_ok [9, 11, 64, 65] ?_
              refine oG (hok := by first | with_reducible rfl | omega | (simp [dg_len]; omega) | (simp; done) | (simp; omega) | rfl) ?_
              refine oS ?_
              refine oN ?_
              refine thenQ_normal ?_
              refine WI.regB tabSt3_ok [9, 64, 65] ?_
              iterate 2 refine oS ?_
              refine oC (hok := by first | with_reducible rfl | omega | (simp [dg_len]; omega) | (simp; done) | (simp; omega) | rfl) ?_
              refine oS ?_
              refine oN ?_
              refine blockQ_normal ?_
              refine thenQ_normal ?_
              refine WI.regB tabSt3_ok [9, 64, 65] ?_
              refine oG (hok := by first | with_reducible rfl | omega | (simp [dg_len]; omega) | (simp; done) | (simp; omega) | rfl) ?_
              refine oS ?_
              refine oN ?_
              refine thenQ_normal ?_
              refine WI.round ?_
              refine WI.seq ?_
              refine WI.regB tabSt3_ok [9, 64, 65, 66] ?_
              refine oG (hok := by first | with_reducible rfl | omega | (simp [dg_len]; omega) | (simp; done) | (simp; omega) | rfl) ?_
              refine oN ?_
              refine thenQ_normal ?_
              refine WI.seq ?_
              refine WI.cond (b := _) rfl rfl (fun h3 => ?_) (fun h3 => ?_)
              · try simp only [zB] at h3
                refine WI.skip ?_
                refine thenQ_normal ?_
                refine WI.seq ?_
                refine WI.block ?_
                refine WI.seq ?_
                refine WI.regB tabSt3_ok [9, 11, 64, 65] ?_
                refine oG (hok := by first | with_reducible rfl | omega | (simp [dg_len]; omega) | (simp; done) | (simp; omega) | rfl) ?_
                refine oS ?_
                refine oN ?_
                refine thenQ_normal ?_
                refine WI.regB tabSt3_ok [9, 64, 65] ?_
                iterate 2 refine oS ?_
                refine oC (hok := by first | with_reducible rfl | omega | (simp [dg_len]; omega) | (simp; done) | (simp; omega) | rfl) ?_
                refine oS ?_
                refine oN ?_
                refine blockQ_normal ?_
                refine thenQ_normal ?_
                refine WI.regB tabSt3_ok [9, 64, 65] ?_
                refine oG (hok := by first | with_reducible rfl | omega | (simp [dg_len]; omega) | (simp; done) | (simp; omega) | rfl) ?_
                refine oS ?_
                refine oN ?_
                refine thenQ_normal ?_
                refine WI.round ?_
                refine WI.seq ?_
                refine WI.regB tabSt3_ok [9, 64, 65, 66] ?_
                refine oG (hok := by first | with_reducible rfl | omega | (simp [dg_len]; omega) | (simp; done) | (simp; omega) | rfl) ?_
                refine oN ?_
                refine thenQ_normal ?_
                refine WI.seq ?_
                refine WI.cond (b := _) rfl rfl (fun h3 => ?_) (fun h3 => ?_)
                · try simp only [zB] at h3
                  refine WI.skip ?_
                  refine thenQ_normal ?_
                  refine WI.seq ?_
                  refine WI.block ?_
                  refine WI.seq ?_
                  refine WI.regB tabSt3_ok [9, 11, 64, 65] ?_
                  refine oG (hok := by first | with_reducible rfl | omega | (simp [dg_len]; omega) | (simp; done) | (simp; omega) | rfl) ?_
                  refine oS ?_
                  refine oN ?_
                  refine thenQ_normal ?_
                  refine WI.regB tabSt3_ok [9, 64, 65] ?_
                  iterate 2 refine oS ?_
                  refine oC (hok := by first | with_reducible rfl | omega | (simp [dg_len]; omega) | (simp; done) | (simp; omega) | rfl) ?_
                  refine oS ?_
                  refine oN ?_
                  refine blockQ_normal ?_
                  refine thenQ_normal ?_
                  refine WI.regB tabSt3_ok [9, 64, 65] ?_
                  refine oG (hok := by first | with_reducible rfl | omega | (simp [dg_len]; omega) | (simp; done) | (simp; omega) | rfl) ?_
                  refine oS ?_
                  refine oN ?_
                  refine thenQ_normal ?_
                  refine WI.round ?_
                  refine WI.seq ?_
                  refine WI.regB tabSt3_ok [9, 64, 65, 66] ?_
                  refine oG (hok := by first | with_reducible rfl | omega | (simp [dg_len]; omega) | (simp; done) | (simp; omega) | rfl) ?_
                  refine oN ?_
                  refine thenQ_normal ?_
                  refine WI.seq ?_
                  refine WI.cond (b := _) rfl rfl (fun h3 => ?_) (fun h3 => ?_)
                  · try simp only [zB] at h3
                    refine WI.skip ?_
                    refine thenQ_normal ?_
                    refine WI.seq ?_
                    refine WI.block ?_
                    refine WI.seq ?_
                    refine WI.regB tabSt3_ok [9, 11, 64, 65] ?_
                    refine oG (hok := by first | with_reducible rfl | omega | (simp [dg_len]; omega) | (simp; done) | (simp; omega) | rfl) ?_
                    refine oS ?_
                    refine oN ?_
                    refine thenQ_normal ?_
                    refine WI.regB tabSt3_ok [9, 64, 65] ?_
                    iterate 2 refine oS ?_
                    refine oC (hok := by first | with_reducible rfl | omega | (simp [dg_len]; omega) | (simp; done) | (simp; omega) | rfl) ?_
                    refine oS ?_
                    refine oN ?_
                    refine blockQ_normal ?_
                    refine thenQ_normal ?_
                    refine WI.regB tabSt3_ok [9, 64, 65] ?_
                    refine oG (hok := by first | with_reducible rfl | omega | (simp [dg_len]; omega) | (simp; done) | (simp; omega) | rfl) ?_
                    refine oS ?_
                    refine oN ?_
                    refine thenQ_normal ?_
                    refine WI.round ?_
                    refine WI.seq ?_
                    refine WI.regB tabSt3_ok [9, 64, 65, 66] ?_
                    refine oG (hok := by first | with_reducible rfl | omega | (simp [dg_len]; omega) | (simp; done) | (simp; omega) | rfl) ?_
                    refine oN ?_
                    refine thenQ_normal ?_
                    refine WI.seq ?_
                    refine WI.cond (b := _) rfl rfl (fun h3 => ?_) (fun h3 => ?_)
                    · try simp only [zB] at h3
                      refine WI.skip ?_
                      refine thenQ_normal ?_
                      refine WI.seq ?_
                      refine WI.block ?_
                      refine WI.seq ?_
                      refine WI.regB tabSt3_ok [9, 11, 64, 65] ?_
                      refine oG (hok := by first | with_reducible rfl | omega | (simp [dg_len]; omega) | (simp; done) | (simp; omega) | rfl) ?_
                      refine oS ?_
                      refine oN ?_
                      refine thenQ_normal ?_
                      refine WI.regB tabSt3_ok [9, 64, 65] ?_
                      iterate 2 refine oS ?_
                      refine oC (hok := by first | with_reducible rfl | omega | (simp [dg_len]; omega) | (simp; done) | (simp; omega) | rfl) ?_
                      refine oS ?_
                      refine oN ?_
                      refine blockQ_normal ?_
                      refine thenQ_normal ?_
                      refine WI.regB tabSt3_ok [9, 64, 65] ?_
                      refine oG (hok := by first | with_reducible rfl | omega | (simp [dg_len]; omega) | (simp; done) | (simp; omega) | rfl) ?_
                      refine oS ?_
                      refine oN ?_
                      refine thenQ_normal ?_
                      refine WI.round ?_
                      refine WI.seq ?_
                      refine WI.regB tabSt3_ok [9, 64, 65, 66] ?_
                      refine oG (hok := by first | with_reducible rfl | omega | (simp [dg_len]; omega) | (simp; done) | (simp; omega) | rfl) ?_
                      refine oN ?_
                      refine thenQ_normal ?_
                      refine WI.seq ?_
                      refine WI.cond (b := _) rfl rfl (fun h3 => ?_) (fun h3 => ?_)
                      · exact absurd h3 (by decide)
                      · try simp only [zB] at h3
                        refine WI.exit ?_
                        refine thenQ_exit ?_
                        refine thenQ_exit ?_
                        refine blockQ_hit ?_
                        refine thenQ_normal ?_
                        refine WI.seq ?_
                        refine WI.regB tabSt3_ok [2, 3] ?_
                        refine oS ?_
                        iterate 3 refine oG (hok := by first | with_reducible rfl | omega | (simp [dg_len]; omega) | (simp; done) | (simp; omega) | rfl) ?_
                        iterate 2 refine oS ?_
                        refine oN ?_
                        refine thenQ_normal ?_
                        refine WI.ret ?_
                        first | refine lfR ?_ | refine lfR2 ?_
                        have hc : cut (mon y) (n / 86400 - bef y) = (m, e) := by rw [← hme]; exact cut_is _ _ _ hml (by omega)
                        have ht : txt n = dg y 4 ++ dg (m + 1) 2 ++ dg (e + 1) 2 ++ dg (n % 86400 / 3600) 2 ++ dg (n % 86400 / 60 % 60) 2 ++ dg (n % 86400 % 60) 2 ++ [90] := by rw [txt, hyo, hc]
                        rw [ht, end90 _ _ (by simp only [List.length_append, dg_len]; omega)] -- leaf 0
                    · exact absurd h3 (by decide)
                  · exact absurd h3 (by decide)
                · exact absurd h3 (by decide)
              · exact absurd h3 (by decide)
            · exact absurd h3 (by decide)
theorem putT_bad (n : Int) (h : ¬ (0 ≤ n ∧ n ≤ 253402300799)) : PCalls Try.prog 28 [.x (.int .i64 n)] (.tup [.x (.str []), .x (.int .i64 2)]) := by
  refine FCalls.pure (fcallsG (fz := true) G_ok (p := i28) rfl _ (Nat.le_of_ble_eq_true rfl) _ (fun C0 E0 => ?_)) rfl
  dsimp only [i28, argsφ]
  have uu := And.intro @tabSt3_r (And.intro @tabSt3_k (And.intro @tabSt3_q39 (And.intro @tabSt3_q40 (And.intro @tabSt3_q41 (And.intro @tabSt3_t41 (And.intro @beforeG.eq_1 (And.intro @beforeG.eq_2 (And.intro @digitsT.eq_1 (And.intro @monthsG.eq_1 (@monthsG.eq_2))))))))))
  refine WI.seq ?_
  refine WI.regB tabSt3_ok [0] ?_
  iterate 2 refine oS ?_
  refine oN ?_
  refine thenQ_normal ?_
  refine WI.seq ?_
  refine WI.seq ?_
  refine WI.regB tabSt3_ok [0, 17] ?_
  refine oS ?_
  refine oG ?_
  refine oS ?_
  iterate 3 refine oG ?_
  refine oN ?_
  refine thenQ_normal ?_
  refine WI.cond (b := _) rfl rfl (fun h0 => ?_) (fun h0 => ?_)
  · try simp only [zB] at h0
    refine WI.seq ?_
    refine WI.regB tabSt3_ok [2, 3] ?_
    iterate 2 refine oS ?_
    refine oN ?_
    refine thenQ_normal ?_
    refine WI.ret ?_
    refine thenQ_ret ?_
    first | refine lfR ?_ | refine lfR2 ?_
    first | rfl | exact ⟨rfl, rfl⟩ | trivial -- leaf 0
  · exfalso
    simp only [zB] at h0; omega
theorem putT_c (n : Int) : PCalls Try.prog 28 [.x (.int .i64 n)] (.tup [.x (.str (putT n).1), .x (.int .i64 (putT n).2)]) := by
  by_cases h : 0 ≤ n ∧ n ≤ 253402300799
  · have := put_c n.toNat (by omega)
    rw [Int.toNat_of_nonneg h.1] at this
    rw [putT, if_pos h]; exact this
  · rw [putT, if_neg h]; exact putT_bad n h
def putTG : List D → Option (Bool × D)
  | [.x (.int .i64 n)] => some (true, .tup [.x (.str (putT n).1), .x (.int .i64 (putT n).2)])
  | _ => none
theorem putTG_ok : ∀ args r, putTG args = some (true, r) → PCalls Try.prog 28 args r := by
  intro args r h
  unfold putTG at h
  split at h
  · rename_i n
    simp only [Option.some.injEq, Prod.mk.injEq, Bool.and_eq_true, decide_eq_true_eq, true_and] at h
    obtain rfl := h
    exact putT_c n
  · cases h
end Go.Proofs.Ytogplpcamiicgaa
end
section
/- Times as texts: the document's put. -/
set_option linter.unusedSimpArgs false
set_option linter.unusedVariables false
namespace Go.Proofs.Ytogplpcamiicgaa
open Go.RowKit Go.Bo Go.Ab

def tabSt4 : Tabs := addQ (noTabs) 42 leapRG
theorem tabSt4_ok : SsOk Try.prog tabSt4 := addQ_ok (noTabs_ok) (G_enters G_ok (p := i42) rfl) leapRG_ok
theorem tabSt4_q42 (a : List D) : tabSt4.q 42 a = leapRG a := rfl
theorem tabSt4_r (f : FuncId) (a : List D) (o : List Ob) : tabSt4.r f a o = none := rfl
theorem tabSt4_k (f : FuncId) (a : List D) (o : List Ob) : tabSt4.k f a o = none := rfl
theorem long_c (y m : Nat) (hm : 1 ≤ m ∧ m ≤ 12) : PCalls Try.prog 43 [.x (.int .i64 y), .x (.int .i64 m)] (.x (.int .i64 ((mon y).getD (m - 1) 0 : Nat))) := by
  have hc : m = 1 ∨ m = 2 ∨ m = 3 ∨ m = 4 ∨ m = 5 ∨ m = 6 ∨ m = 7 ∨ m = 8 ∨ m = 9 ∨ m = 10 ∨ m = 11 ∨ m = 12 := by omega
  refine FCalls.pure (fcallsG (fz := true) G_ok (p := i43) rfl _ (Nat.le_of_ble_eq_true rfl) _ (fun C0 E0 => ?_)) rfl
  dsimp only [i43, argsφ]
  have uu := And.intro @leapRG.eq_1 (And.intro @leapRG.eq_2 (And.intro @tabSt4_r (And.intro @tabSt4_k (@tabSt4_q42))))
  refine WI.seq ?_
  refine WI.regB tabSt4_ok [0, 1] ?_
  refine oS ?_
  refine oN ?_
  refine thenQ_normal ?_
  refine WI.seq ?_
  refine WI.seq ?_
  refine WI.regB tabSt4_ok [0, 5] ?_
  refine oS ?_
  refine oN ?_
  refine thenQ_normal ?_
  refine WI.block ?_
  refine WI.seq ?_
  refine WI.regB tabSt4_ok [0, 5, 6] ?_
  refine oG ?_
  refine oS ?_
  refine oN ?_
  refine thenQ_normal ?_
  refine WI.cond (b := _) rfl rfl (fun h0 => ?_) (fun h0 => ?_)
  · try simp only [zB] at h0
    refine WI.seq ?_
    refine WI.seq ?_
    refine WI.regB tabSt4_ok [9] ?_
    refine oS ?_
    refine oC ?_
    refine oN ?_
    refine thenQ_normal ?_
    refine WI.cond (b := _) rfl rfl (fun h1 => ?_) (fun h1 => ?_)
    · try simp only [zB] at h1
      refine WI.seq ?_
      refine WI.regB tabSt4_ok [4] ?_
      refine oS ?_
      refine oN ?_
      refine thenQ_normal ?_
      refine WI.ret ?_
      refine thenQ_ret ?_
      refine blockQ_ret ?_
      refine thenQ_ret ?_
      first | refine lfR ?_ | refine lfR2 ?_
      rcases hc with rfl | rfl | rfl | rfl | rfl | rfl | rfl | rfl | rfl | rfl | rfl | rfl <;> simp_all [mon] -- leaf 0
    · try simp only [zB] at h1
      refine WI.skip ?_
      refine thenQ_normal ?_
      refine WI.seq ?_
      refine WI.regB tabSt4_ok [4] ?_
      refine oS ?_
      refine oN ?_
      refine thenQ_normal ?_
      refine WI.ret ?_
      refine blockQ_ret ?_
      refine thenQ_ret ?_
      first | refine lfR ?_ | refine lfR2 ?_
      rcases hc with rfl | rfl | rfl | rfl | rfl | rfl | rfl | rfl | rfl | rfl | rfl | rfl <;> simp_all [mon] -- leaf 1
  · try simp only [zB] at h0
    refine WI.seq ?_
    refine WI.seq ?_
    refine WI.regB tabSt4_ok [5, 10] ?_
    refine oG ?_
    refine oS ?_
    refine oN ?_
    refine thenQ_normal ?_
    refine WI.cond (b := _) rfl rfl (fun h2 => ?_) (fun h2 => ?_)
    · try simp only [zB] at h2
      refine WI.skip ?_
      refine thenQ_normal ?_
      refine WI.cond (b := _) rfl rfl (fun h5 => ?_) (fun h5 => ?_)
      · try simp only [zB] at h5
        refine WI.seq ?_
        refine WI.regB tabSt4_ok [4] ?_
        refine oS ?_
        refine oN ?_
        refine thenQ_normal ?_
        refine WI.ret ?_
        refine blockQ_ret ?_
        refine thenQ_ret ?_
        first | refine lfR ?_ | refine lfR2 ?_
        rcases hc with rfl | rfl | rfl | rfl | rfl | rfl | rfl | rfl | rfl | rfl | rfl | rfl <;> simp_all [mon] -- leaf 2
      · try simp only [zB] at h5
        refine WI.skip ?_
        refine blockQ_normal ?_
        refine thenQ_normal ?_
        refine WI.seq ?_
        refine WI.regB tabSt4_ok [4] ?_
        refine oS ?_
        refine oN ?_
        refine thenQ_normal ?_
        refine WI.ret ?_
        first | refine lfR ?_ | refine lfR2 ?_
        rcases hc with rfl | rfl | rfl | rfl | rfl | rfl | rfl | rfl | rfl | rfl | rfl | rfl <;> simp_all [mon] -- leaf 3
    · try simp only [zB] at h2
      refine WI.seq ?_
      refine WI.regB tabSt4_ok [5, 10] ?_
      refine oG ?_
      refine oS ?_
      refine oN ?_
      refine thenQ_normal ?_
      refine WI.cond (b := _) rfl rfl (fun h3 => ?_) (fun h3 => ?_)
      · try simp only [zB] at h3
        refine WI.skip ?_
        refine thenQ_normal ?_
        refine WI.cond (b := _) rfl rfl (fun h5 => ?_) (fun h5 => ?_)
        · try simp only [zB] at h5
          refine WI.seq ?_
          refine WI.regB tabSt4_ok [4] ?_
          refine oS ?_
          refine oN ?_
          refine thenQ_normal ?_
          refine WI.ret ?_
          refine blockQ_ret ?_
          refine thenQ_ret ?_
          first | refine lfR ?_ | refine lfR2 ?_
          rcases hc with rfl | rfl | rfl | rfl | rfl | rfl | rfl | rfl | rfl | rfl | rfl | rfl <;> simp_all [mon] -- leaf 4
        · try simp only [zB] at h5
          refine WI.skip ?_
          refine blockQ_normal ?_
          refine thenQ_normal ?_
          refine WI.seq ?_
          refine WI.regB tabSt4_ok [4] ?_
          refine oS ?_
          refine oN ?_
          refine thenQ_normal ?_
          refine WI.ret ?_
          first | refine lfR ?_ | refine lfR2 ?_
          rcases hc with rfl | rfl | rfl | rfl | rfl | rfl | rfl | rfl | rfl | rfl | rfl | rfl <;> simp_all [mon] -- leaf 5
      · try simp only [zB] at h3
        refine WI.seq ?_
        refine WI.regB tabSt4_ok [5, 10] ?_
        refine oG ?_
        refine oS ?_
        refine oN ?_
        refine thenQ_normal ?_
        refine WI.cond (b := _) rfl rfl (fun h4 => ?_) (fun h4 => ?_)
        · try simp only [zB] at h4
          refine WI.skip ?_
          refine thenQ_normal ?_
          refine WI.cond (b := _) rfl rfl (fun h5 => ?_) (fun h5 => ?_)
          · try simp only [zB] at h5
            refine WI.seq ?_
            refine WI.regB tabSt4_ok [4] ?_
            refine oS ?_
            refine oN ?_
            refine thenQ_normal ?_
            refine WI.ret ?_
            refine blockQ_ret ?_
            refine thenQ_ret ?_
            first | refine lfR ?_ | refine lfR2 ?_
            rcases hc with rfl | rfl | rfl | rfl | rfl | rfl | rfl | rfl | rfl | rfl | rfl | rfl <;> simp_all [mon] -- leaf 6
          · try simp only [zB] at h5
            refine WI.skip ?_
            refine blockQ_normal ?_
            refine thenQ_normal ?_
            refine WI.seq ?_
            refine WI.regB tabSt4_ok [4] ?_
            refine oS ?_
            refine oN ?_
            refine thenQ_normal ?_
            refine WI.ret ?_
            first | refine lfR ?_ | refine lfR2 ?_
            rcases hc with rfl | rfl | rfl | rfl | rfl | rfl | rfl | rfl | rfl | rfl | rfl | rfl <;> simp_all [mon] -- leaf 7
        · try simp only [zB] at h4
          refine WI.regB tabSt4_ok [10] ?_
          refine oG ?_
          refine oS ?_
          refine oN ?_
          refine thenQ_normal ?_
          refine WI.cond (b := _) rfl rfl (fun h5 => ?_) (fun h5 => ?_)
          · try simp only [zB] at h5
            refine WI.seq ?_
            refine WI.regB tabSt4_ok [4] ?_
            refine oS ?_
            refine oN ?_
            refine thenQ_normal ?_
            refine WI.ret ?_
            refine blockQ_ret ?_
            refine thenQ_ret ?_
            first | refine lfR ?_ | refine lfR2 ?_
            rcases hc with rfl | rfl | rfl | rfl | rfl | rfl | rfl | rfl | rfl | rfl | rfl | rfl <;> simp_all [mon] -- leaf 8
          · try simp only [zB] at h5
            refine WI.skip ?_
            refine blockQ_normal ?_
            refine thenQ_normal ?_
            refine WI.seq ?_
            refine WI.regB tabSt4_ok [4] ?_
            refine oS ?_
            refine oN ?_
            refine thenQ_normal ?_
            refine WI.ret ?_
            first | refine lfR ?_ | refine lfR2 ?_
            rcases hc with rfl | rfl | rfl | rfl | rfl | rfl | rfl | rfl | rfl | rfl | rfl | rfl <;> simp_all [mon] -- leaf 9
def longG : List D → Option (Bool × D)
  | [.x (.int .i64 y), .x (.int .i64 m)] => some (decide (0 ≤ y ∧ 1 ≤ m ∧ m ≤ 12), .x (.int .i64 ((mon y.toNat).getD (m.toNat - 1) 0 : Nat)))
  | _ => none
theorem longG_ok : ∀ args r, longG args = some (true, r) → PCalls Try.prog 43 args r := by
  intro args r h
  unfold longG at h
  split at h
  · rename_i y m
    simp only [Option.some.injEq, Prod.mk.injEq, Bool.and_eq_true, decide_eq_true_eq, true_and] at h
    obtain ⟨h1, rfl⟩ := h
    exact (by have := long_c y.toNat m.toNat (by omega); rwa [Int.toNat_of_nonneg (by omega), Int.toNat_of_nonneg (by omega)] at this)
  · cases h
theorem drop_dig (n k j : Nat) (h : j < k) : (dg n k).drop (k - (j + 1)) = UInt8.ofNat (48 + n / 10 ^ j % 10) :: (dg n k).drop (k - j) := by
  rw [dg_drop k n (k - (j + 1)) (by omega), show k - (k - (j + 1) + 1) = j by omega, show k - (j + 1) + 1 = k - j by omega]
theorem digR_c (n k : Nat) (hk : k ≤ 20) (hn : n ≤ 1000000000000000000) : PCalls Try.prog 44 [.x (.int .i64 n), .x (.int .i64 k)] (.x (.str (dg n k))) := by
  refine FCalls.pure (fcallsG (fz := true) G_ok (p := i44) rfl _ (Nat.le_of_ble_eq_true rfl) _ (fun C0 E0 => ?_)) rfl
  dsimp only [i44, argsφ]
  have uu := trivial
  refine WI.seq ?_
  refine WI.regB noTabs_ok [0, 1] ?_
  refine oS ?_
  refine oN ?_
  refine thenQ_normal ?_
  refine WI.seq ?_
  refine WI.regB noTabs_ok [0, 1, 5] ?_
  refine oS ?_
  refine oN ?_
  refine thenQ_normal ?_
  refine WI.seq ?_
  refine WI.seq ?_
  refine WI.regB noTabs_ok [0, 1, 5, 6] ?_
  refine oS ?_
  refine oN ?_
  refine thenQ_normal ?_
  refine WI.block ?_
  refine WI.loop (fun φ os => ∃ (j : Nat), φ = [(0, .x (.int .i64 (n / 10 ^ j : Nat))), (1, .x (.int .i64 k)), (5, .x (.str ((dg n k).drop (k - j)))), (6, .x (.int .i64 j))] ∧ os = [] ∧ j ≤ k) (down k 6) ?_ (fun φ os hI => ?_)
  · exact ⟨0, by simp [List.drop_of_length_le, dg_len], rfl, by omega⟩
  · obtain ⟨j, rfl, rfl, hj⟩ := hI
    refine WI.seq ?_
    refine WI.seq ?_
    refine WI.regB noTabs_ok [0, 1, 5, 6, 9] ?_
    iterate 2 refine oS ?_
    refine oG (hok := by first | with_reducible rfl | omega | (rw [e8]; exact decide_eq_true (by omega)) | (simp; done) | (simp; omega) | rfl) ?_
    refine oN ?_
    refine thenQ_normal ?_
    refine WI.cond (b := _) rfl rfl (fun h0 => ?_) (fun h0 => ?_)
    · try simp only [zB] at h0
      refine WI.skip ?_
      refine thenQ_normal ?_
      refine WI.seq ?_
      refine WI.block ?_
      refine WI.seq ?_
      have hjk : j < k := by omega
      have e8 : ((dg n k).drop (k - j)).length = j := by rw [List.length_drop, dg_len]; omega
      have e9 := drop_dig n k j hjk
      have e2 : ((n / 10 ^ j : Nat) : Int).tmod 10 = ((n / 10 ^ j % 10 : Nat) : Int) := (Int.ofNat_tmod _ 10).symm
      have e3 : ((n / 10 ^ j : Nat) : Int).tdiv 10 = ((n / 10 ^ j / 10 : Nat) : Int) := (Int.ofNat_tdiv _ 10).symm
      have e4 := wrap_dig (n / 10 ^ j)
      have e7 : n / 10 ^ j ≤ n := Nat.div_le_self _ _
      have e10 : IntKind.i64.wrap ((n / 10 ^ j / 10 : Nat) : Int) = ((n / 10 ^ j / 10 : Nat) : Int) := by generalize n / 10 ^ j = a at e7 ⊢; exact IntWalk.i64_in _ (by omega)
      have uu := And.intro e2 (And.intro e3 (And.intro e4 e10))
      refine WI.regB noTabs_ok [0, 1, 5, 6] ?_
      refine oS ?_
      iterate 5 refine oG (hok := by first | with_reducible rfl | omega | (rw [e8]; exact decide_eq_true (by omega)) | (simp; done) | (simp; omega) | rfl) ?_
      refine oS ?_
      refine oG (hok := by first | with_reducible rfl | omega | (rw [e8]; exact decide_eq_true (by omega)) | (simp; done) | (simp; omega) | rfl) ?_
      refine oS ?_
      refine oN ?_
      refine thenQ_normal ?_
      refine WI.regB noTabs_ok [0, 1, 5, 6] ?_
      refine oS ?_
      refine oG (hok := by first | with_reducible rfl | omega | (rw [e8]; exact decide_eq_true (by omega)) | (simp; done) | (simp; omega) | rfl) ?_
      refine oS ?_
      refine oN ?_
      refine blockQ_normal ?_
      refine thenQ_normal ?_
      refine WI.post ?_
      refine WI.regB noTabs_ok [0, 1, 5, 6] ?_
      refine oS ?_
      refine oG (hok := by first | with_reducible rfl | omega | (rw [e8]; exact decide_eq_true (by omega)) | (simp; done) | (simp; omega) | rfl) ?_
      refine oS ?_
      refine oP ?_
      refine pPick [] ?_
      refine pEnd ?_
      refine thenQ_normal ?_
      exact ⟨⟨j + 1, by rw [e9, Nat.pow_succ, ← Nat.div_div_eq_div_mul, show rowByte [X.int .u8 ((UInt8.ofNat (48 + n / 10 ^ j % 10)).toNat : Int)] = _ from br_of _]; rfl, rfl, by omega⟩, by simp [down, Ab.get, D.val, intOf?]; omega⟩
    · try simp only [zB] at h0
      refine WI.exit ?_
      refine thenQ_exit ?_
      refine thenQ_exit ?_
      refine blockQ_hit ?_
      refine thenQ_normal ?_
      refine WI.seq ?_
      refine WI.regB noTabs_ok [4] ?_
      iterate 2 refine oS ?_
      refine oN ?_
      refine thenQ_normal ?_
      refine WI.ret ?_
      first | refine lfR ?_ | refine lfR2 ?_
      obtain rfl : j = k := by omega
      rw [Nat.sub_self]; rfl -- leaf 0
def digRG : List D → Option (Bool × D)
  | [.x (.int .i64 n), .x (.int .i64 k)] => some (decide (0 ≤ n ∧ n ≤ 1000000000000000000 ∧ 0 ≤ k ∧ k ≤ 20), .x (.str (dg n.toNat k.toNat)))
  | _ => none
theorem digRG_ok : ∀ args r, digRG args = some (true, r) → PCalls Try.prog 44 args r := by
  intro args r h
  unfold digRG at h
  split at h
  · rename_i n k
    simp only [Option.some.injEq, Prod.mk.injEq, Bool.and_eq_true, decide_eq_true_eq, true_and] at h
    obtain ⟨h1, rfl⟩ := h
    exact (by have := digR_c n.toNat k.toNat (by omega) (by omega); rwa [Int.toNat_of_nonneg (by omega), Int.toNat_of_nonneg (by omega)] at this)
  · cases h
def tabSt5 : Tabs := addQ (addQ (addQ (noTabs) 42 leapRG) 43 longG) 44 digRG
theorem tabSt5_ok : SsOk Try.prog tabSt5 := addQ_ok (addQ_ok (addQ_ok (noTabs_ok) (G_enters G_ok (p := i42) rfl) leapRG_ok) (G_enters G_ok (p := i43) rfl) longG_ok) (G_enters G_ok (p := i44) rfl) digRG_ok
theorem tabSt5_q42 (a : List D) : tabSt5.q 42 a = leapRG a := rfl
theorem tabSt5_q43 (a : List D) : tabSt5.q 43 a = longG a := rfl
theorem tabSt5_q44 (a : List D) : tabSt5.q 44 a = digRG a := rfl
theorem tabSt5_r (f : FuncId) (a : List D) (o : List Ob) : tabSt5.r f a o = none := rfl
theorem tabSt5_k (f : FuncId) (a : List D) (o : List Ob) : tabSt5.k f a o = none := rfl
theorem yl_t {y : Nat} (h : leapN y = true) : yl y = 366 := by unfold yl; rw [if_pos h]
theorem yl_f {y : Nat} (h : leapN y = false) : yl y = 365 := by unfold yl; rw [h]; rfl
theorem getD_mon (y m : Nat) (h : m < (mon y).length) : (mon y).getD m 0 = (mon y)[m] := by rw [List.getD_eq_getElem?_getD, List.getElem?_eq_getElem h]; rfl
theorem putR_c (n : Nat) (hn : n ≤ 253402300799) : PCalls Try.prog 29 [.x (.int .i64 n)] (.tup [.x (.str (txt n)), .x (.bool true)]) := by
  have hd : n / 86400 ≤ 2932896 := by omega
  refine FCalls.pure (fcallsG (fz := true) G_ok (p := i29) rfl _ (Nat.le_of_ble_eq_true rfl) _ (fun C0 E0 => ?_)) rfl
  dsimp only [i29, argsφ]
  have uu := And.intro @leapRG.eq_1 (And.intro @leapRG.eq_2 (And.intro @longG.eq_1 (And.intro @longG.eq_2 (And.intro @digRG.eq_1 (And.intro @digRG.eq_2 (And.intro @toNat_s (And.intro @td86400 (And.intro @tm86400 (And.intro @td366 (And.intro @td3600 (And.intro @td60 (And.intro @tm60 (And.intro @Nat.add_sub_cancel (And.intro @tabSt5_r (And.intro @tabSt5_k (And.intro @tabSt5_q42 (And.intro @tabSt5_q43 (@tabSt5_q44))))))))))))))))))
  refine WI.seq ?_
  refine WI.regB tabSt5_ok [0] ?_
  iterate 2 refine oS ?_
  refine oN ?_
  refine thenQ_normal ?_
  refine WI.seq ?_
  refine WI.seq ?_
  refine WI.regB tabSt5_ok [0, 14] ?_
  refine oS ?_
  refine oG ?_
  refine oS ?_
  iterate 3 refine oG ?_
  refine oN ?_
  refine thenQ_normal ?_
  refine WI.cond (b := _) rfl rfl (fun h0 => ?_) (fun h0 => ?_)
  · exfalso
    simp only [zB] at h0; omega
  · try simp only [zB] at h0
    refine WI.skip ?_
    refine thenQ_normal ?_
    refine WI.seq ?_
    refine WI.regB tabSt5_ok [4, 5] ?_
    refine oS ?_
    refine oG ?_
    refine oS ?_
    refine oG ?_
    iterate 2 refine oS ?_
    refine oN ?_
    refine thenQ_normal ?_
    refine WI.seq ?_
    refine WI.regB tabSt5_ok [4, 5, 6, 7] ?_
    iterate 2 refine oS ?_
    refine oN ?_
    refine thenQ_normal ?_
    refine WI.seq ?_
    refine WI.block ?_
    refine WI.loop (fun φ os => ∃ y : Nat, φ = [(4, .x (.int .i64 (n / 86400 - bef y : Nat))), (5, .x (.int .i64 (n % 86400 : Nat))), (6, .x (.int .i64 y)), (7, .x (.int .i64 1))] ∧ os = [] ∧ 1970 ≤ y ∧ bef y ≤ n / 86400) (down 10000 6) ?_ (fun φ os hI => ?_)
    · exact ⟨1970, rfl, rfl, by omega, by rw [bef0]; omega⟩
    · obtain ⟨y, rfl, rfl, hy, hb⟩ := hI
      refine WI.block ?_
      refine WI.seq ?_
      have hy2 := year_le hy hb hd
      have hbs := bef_succ y hy
      refine WI.regB tabSt5_ok [4, 5, 6, 7, 8] ?_
      refine oS ?_
      refine oN ?_
      refine thenQ_normal ?_
      refine WI.seq ?_
      refine WI.seq ?_
      refine WI.regB tabSt5_ok [4, 5, 6, 7, 8, 20] ?_
      refine oS ?_
      refine oC ?_
      refine oN ?_
      refine thenQ_normal ?_
      refine WI.cond (b := _) rfl rfl (fun h1 => ?_) (fun h1 => ?_)
      · try simp only [zB] at h1
        refine WI.regB tabSt5_ok [4, 5, 6, 7, 8] ?_
        refine oS ?_
        refine oN ?_
        refine thenQ_normal ?_
        refine WI.seq ?_
        refine WI.seq ?_
        first | have hl := yl_t h1 | have hl := yl_f h1
        rw [hl] at hbs
        refine WI.regB tabSt5_ok [4, 5, 6, 7, 8, 23] ?_
        iterate 2 refine oS ?_
        refine oG ?_
        refine oN ?_
        refine thenQ_normal ?_
        refine WI.cond (b := _) rfl rfl (fun h2 => ?_) (fun h2 => ?_)
        · try simp only [zB] at h2
          refine WI.exit ?_
          refine thenQ_exit ?_
          refine blockQ_miss (by decide) ?_
          refine thenQ_exit ?_
          refine blockQ_hit ?_
          refine thenQ_normal ?_
          refine WI.seq ?_
          refine WI.block ?_
          have hyo : yearOf (n / 86400) = y := yearOf_is hy hb (by omega)
          have hsum : n / 86400 - bef y < (mon y).sum := by rw [mon_sum, hl]; omega
          refine WI.orderA [4, 5, 6, 7] ?_
          refine WI.loop (fun φ os => ∃ m e : Nat, φ = [(4, .x (.int .i64 e)), (5, .x (.int .i64 (n % 86400 : Nat))), (6, .x (.int .i64 y)), (7, .x (.int .i64 ((m : Int) + 1)))] ∧ os = [] ∧ m < 12 ∧ ((mon y).take m).sum + e = n / 86400 - bef y) (down 13 7) ?_ (fun φ os hI => ?_)
          · exact ⟨0, n / 86400 - bef y, by simp, rfl, by omega, by simp⟩
          · obtain ⟨m, e, rfl, rfl, hm, hme⟩ := hI
            refine WI.seq ?_
            refine WI.seq ?_
            have hml : m < (mon y).length := hm
            have hgm := getD_mon y m hml
            have uu := And.intro uu hgm
            refine WI.regB tabSt5_ok [4, 5, 6, 7, 33] ?_
            iterate 3 refine oS ?_
            refine oC ?_
            refine oG ?_
            refine oN ?_
            refine thenQ_normal ?_
            refine WI.cond (b := _) rfl rfl (fun h3 => ?_) (fun h3 => ?_)
            · try simp only [zB] at h3
              refine WI.skip ?_
              refine thenQ_normal ?_
              refine WI.block ?_
              refine WI.seq ?_
              have hle : (mon y)[m] ≤ e := by omega
              have e5 : (e : Int) - ((mon y)[m] : Nat) = ((e - (mon y)[m] : Nat) : Int) := by omega
              refine WI.regB tabSt5_ok [4, 5, 6, 7] ?_
              iterate 3 refine oS ?_
              refine oC ?_
              refine oG ?_
              refine oS ?_
              refine oN ?_
              refine thenQ_normal ?_
              refine WI.regB tabSt5_ok [4, 5, 6, 7] ?_
              refine oS ?_
              refine oG ?_
              refine oS ?_
              refine oN ?_
              refine blockQ_normal ?_
              refine thenQ_normal ?_
              exact ⟨⟨m + 1, e - (mon y)[m], by rw [e5]; simp, rfl, by have := (take_sum_lt hml (by omega) hle).1; rw [mon_len] at this; exact this, by rw [(take_sum_lt hml (by omega) hle).2, hme]⟩, by simp [down, Ab.get, D.val, intOf?]; omega⟩
            · try simp only [zB] at h3
              refine WI.exit ?_
              refine thenQ_exit ?_
              refine thenQ_exit ?_
              refine blockQ_hit ?_
              refine thenQ_normal ?_
              refine WI.seq ?_
              refine WI.regB tabSt5_ok [2, 3] ?_
              refine oS ?_
              refine oC ?_
              refine oS ?_
              refine oC ?_
              refine oG ?_
              refine oS ?_
              refine oG ?_
              refine oC ?_
              refine oG ?_
              refine oS ?_
              refine oG ?_
              refine oC ?_
              refine oG ?_
              refine oS ?_
              iterate 2 refine oG ?_
              refine oC ?_
              refine oG ?_
              refine oS ?_
              refine oG ?_
              refine oC ?_
              iterate 2 refine oG ?_
              iterate 2 refine oS ?_
              refine oN ?_
              refine thenQ_normal ?_
              refine WI.ret ?_
              first | refine lfR ?_ | refine lfR2 ?_
              have hc : cut (mon y) (n / 86400 - bef y) = (m, e) := by rw [← hme]; exact cut_is _ _ _ hml (by omega)
              have ht : txt n = dg y 4 ++ dg (m + 1) 2 ++ dg (e + 1) 2 ++ dg (n % 86400 / 3600) 2 ++ dg (n % 86400 / 60 % 60) 2 ++ dg (n % 86400 % 60) 2 ++ [90] := by rw [txt, hyo, hc]
              rw [ht] -- leaf 0
        · try simp only [zB] at h2
          refine WI.skip ?_
          refine thenQ_normal ?_
          refine WI.seq ?_
          first | have e1 : ((n / 86400 - bef (y + 1) : Nat) : Int) = ((n / 86400 - bef y : Nat) : Int) - 366 := by omega | have e1 : ((n / 86400 - bef (y + 1) : Nat) : Int) = ((n / 86400 - bef y : Nat) : Int) - 365 := by omega
          refine WI.regB tabSt5_ok [4, 5, 6, 7] ?_
          iterate 2 refine oS ?_
          refine oG ?_
          refine oS ?_
          refine oN ?_
          refine thenQ_normal ?_
          refine WI.regB tabSt5_ok [4, 5, 6, 7] ?_
          refine oS ?_
          refine oG ?_
          refine oS ?_
          refine oN ?_
          refine blockQ_normal ?_
          refine thenQ_normal ?_
          exact ⟨⟨y + 1, by rw [e1]; simp, rfl, by omega, by omega⟩, by simp [down, Ab.get, D.val, intOf?]; omega⟩
      · try simp only [zB] at h1
        refine WI.skip ?_
        refine thenQ_normal ?_
        refine WI.seq ?_
        refine WI.seq ?_
        first | have hl := yl_t h1 | have hl := yl_f h1
        rw [hl] at hbs
        refine WI.regB tabSt5_ok [4, 5, 6, 7, 8, 23] ?_
        iterate 2 refine oS ?_
        refine oG ?_
        refine oN ?_
        refine thenQ_normal ?_
        refine WI.cond (b := _) rfl rfl (fun h2 => ?_) (fun h2 => ?_)
        · try simp only [zB] at h2
          refine WI.exit ?_
          refine thenQ_exit ?_
          refine blockQ_miss (by decide) ?_
          refine thenQ_exit ?_
          refine blockQ_hit ?_
          refine thenQ_normal ?_
          refine WI.seq ?_
          refine WI.block ?_
          have hyo : yearOf (n / 86400) = y := yearOf_is hy hb (by omega)
          have hsum : n / 86400 - bef y < (mon y).sum := by rw [mon_sum, hl]; omega
          refine WI.orderA [4, 5, 6, 7] ?_
          refine WI.loop (fun φ os => ∃ m e : Nat, φ = [(4, .x (.int .i64 e)), (5, .x (.int .i64 (n % 86400 : Nat))), (6, .x (.int .i64 y)), (7, .x (.int .i64 ((m : Int) + 1)))] ∧ os = [] ∧ m < 12 ∧ ((mon y).take m).sum + e = n / 86400 - bef y) (down 13 7) ?_ (fun φ os hI => ?_)
          · exact ⟨0, n / 86400 - bef y, by simp, rfl, by omega, by simp⟩
          · obtain ⟨m, e, rfl, rfl, hm, hme⟩ := hI
            refine WI.seq ?_
            refine WI.seq ?_
            have hml : m < (mon y).length := hm
            have hgm := getD_mon y m hml
            have uu := And.intro uu hgm
            refine WI.regB tabSt5_ok [4, 5, 6, 7, 33] ?_
            iterate 3 refine oS ?_
            refine oC ?_
            refine oG ?_
            refine oN ?_
            refine thenQ_normal ?_
            refine WI.cond (b := _) rfl rfl (fun h3 => ?_) (fun h3 => ?_)
            · try simp only [zB] at h3
              refine WI.skip ?_
              refine thenQ_normal ?_
              refine WI.block ?_
              refine WI.seq ?_
              have hle : (mon y)[m] ≤ e := by omega
              have e5 : (e : Int) - ((mon y)[m] : Nat) = ((e - (mon y)[m] : Nat) : Int) := by omega
              refine WI.regB tabSt5_ok [4, 5, 6, 7] ?_
              iterate 3 refine oS ?_
              refine oC ?_
              refine oG ?_
              refine oS ?_
              refine oN ?_
              refine thenQ_normal ?_
              refine WI.regB tabSt5_ok [4, 5, 6, 7] ?_
              refine oS ?_
              refine oG ?_
              refine oS ?_
              refine oN ?_
              refine blockQ_normal ?_
              refine thenQ_normal ?_
              exact ⟨⟨m + 1, e - (mon y)[m], by rw [e5]; simp, rfl, by have := (take_sum_lt hml (by omega) hle).1; rw [mon_len] at this; exact this, by rw [(take_sum_lt hml (by omega) hle).2, hme]⟩, by simp [down, Ab.get, D.val, intOf?]; omega⟩
            · try simp only [zB] at h3
              refine WI.exit ?_
              refine thenQ_exit ?_
              refine thenQ_exit ?_
              refine blockQ_hit ?_
              refine thenQ_normal ?_
              refine WI.seq ?_
              refine WI.regB tabSt5_ok [2, 3] ?_
              refine oS ?_
              refine oC ?_
              refine oS ?_
              refine oC ?_
              refine oG ?_
              refine oS ?_
              refine oG ?_
              refine oC ?_
              refine oG ?_
              refine oS ?_
              refine oG ?_
              refine oC ?_
              refine oG ?_
              refine oS ?_
              iterate 2 refine oG ?_
              refine oC ?_
              refine oG ?_
              refine oS ?_
              refine oG ?_
              refine oC ?_
              iterate 2 refine oG ?_
              iterate 2 refine oS ?_
              refine oN ?_
              refine thenQ_normal ?_
              refine WI.ret ?_
              first | refine lfR ?_ | refine lfR2 ?_
              have hc : cut (mon y) (n / 86400 - bef y) = (m, e) := by rw [← hme]; exact cut_is _ _ _ hml (by omega)
              have ht : txt n = dg y 4 ++ dg (m + 1) 2 ++ dg (e + 1) 2 ++ dg (n % 86400 / 3600) 2 ++ dg (n % 86400 / 60 % 60) 2 ++ dg (n % 86400 % 60) 2 ++ [90] := by rw [txt, hyo, hc]
              rw [ht] -- leaf 1
        · try simp only [zB] at h2
          refine WI.skip ?_
          refine thenQ_normal ?_
          refine WI.seq ?_
          first | have e1 : ((n / 86400 - bef (y + 1) : Nat) : Int) = ((n / 86400 - bef y : Nat) : Int) - 366 := by omega | have e1 : ((n / 86400 - bef (y + 1) : Nat) : Int) = ((n / 86400 - bef y : Nat) : Int) - 365 := by omega
          refine WI.regB tabSt5_ok [4, 5, 6, 7] ?_
          iterate 2 refine oS ?_
          refine oG ?_
          refine oS ?_
          refine oN ?_
          refine thenQ_normal ?_
          refine WI.regB tabSt5_ok [4, 5, 6, 7] ?_
          refine oS ?_
          refine oG ?_
          refine oS ?_
          refine oN ?_
          refine blockQ_normal ?_
          refine thenQ_normal ?_
          exact ⟨⟨y + 1, by rw [e1]; simp, rfl, by omega, by omega⟩, by simp [down, Ab.get, D.val, intOf?]; omega⟩
theorem putR_bad (n : Int) (h : ¬ (0 ≤ n ∧ n ≤ 253402300799)) : PCalls Try.prog 29 [.x (.int .i64 n)] (.tup [.x (.str []), .x (.bool false)]) := by
  refine FCalls.pure (fcallsG (fz := true) G_ok (p := i29) rfl _ (Nat.le_of_ble_eq_true rfl) _ (fun C0 E0 => ?_)) rfl
  dsimp only [i29, argsφ]
  have uu := And.intro @tabSt5_r (And.intro @tabSt5_k (And.intro @tabSt5_q42 (And.intro @tabSt5_q43 (And.intro @tabSt5_q44 (And.intro @digRG.eq_1 (And.intro @digRG.eq_2 (And.intro @leapRG.eq_1 (And.intro @leapRG.eq_2 (And.intro @longG.eq_1 (@longG.eq_2))))))))))
  refine WI.seq ?_
  refine WI.regB tabSt5_ok [0] ?_
  iterate 2 refine oS ?_
  refine oN ?_
  refine thenQ_normal ?_
  refine WI.seq ?_
  refine WI.seq ?_
  refine WI.regB tabSt5_ok [0, 14] ?_
  refine oS ?_
  refine oG ?_
  refine oS ?_
  iterate 3 refine oG ?_
  refine oN ?_
  refine thenQ_normal ?_
  refine WI.cond (b := _) rfl rfl (fun h0 => ?_) (fun h0 => ?_)
  · try simp only [zB] at h0
    refine WI.seq ?_
    refine WI.regB tabSt5_ok [2, 3] ?_
    iterate 2 refine oS ?_
    refine oN ?_
    refine thenQ_normal ?_
    refine WI.ret ?_
    refine thenQ_ret ?_
    first | refine lfR ?_ | refine lfR2 ?_
    first | rfl | exact ⟨rfl, rfl⟩ | trivial -- leaf 0
  · exfalso
    simp only [zB] at h0; omega
theorem putTR_c (n : Int) : PCalls Try.prog 29 [.x (.int .i64 n)] (.tup [.x (.str (putT n).1), .x (.bool (decide (0 ≤ n ∧ n ≤ 253402300799)))]) := by
  by_cases h : 0 ≤ n ∧ n ≤ 253402300799
  · have := putR_c n.toNat (by omega)
    rw [Int.toNat_of_nonneg h.1] at this
    rw [putT, if_pos h, decide_eq_true h]; exact this
  · rw [putT, if_neg h, decide_eq_false h]; exact putR_bad n h
def putTRG : List D → Option (Bool × D)
  | [.x (.int .i64 n)] => some (true, .tup [.x (.str (putT n).1), .x (.bool (decide (0 ≤ n ∧ n ≤ 253402300799)))])
  | _ => none
theorem putTRG_ok : ∀ args r, putTRG args = some (true, r) → PCalls Try.prog 29 args r := by
  intro args r h
  unfold putTRG at h
  split at h
  · rename_i n
    simp only [Option.some.injEq, Prod.mk.injEq, Bool.and_eq_true, decide_eq_true_eq, true_and] at h
    obtain rfl := h
    exact putTR_c n
  · cases h
end Go.Proofs.Ytogplpcamiicgaa
end
section
/- Times as texts: read. -/
set_option linter.unusedSimpArgs false
set_option linter.unusedVariables false
namespace Go.Proofs.Ytogplpcamiicgaa
open Go.RowKit Go.Bo Go.Ab

def numberG : List D → Option (Bool × D)
  | [.x (.str s)] => some (decide (s.length ≤ 15), .tup [.x (.int .i64 (numD s).1), .x (.bool (numD s).2)])
  | _ => none
theorem numberG_ok : ∀ args r, numberG args = some (true, r) → PCalls Try.prog 45 args r := by
  intro args r h
  unfold numberG at h
  split at h
  · rename_i s
    simp only [Option.some.injEq, Prod.mk.injEq, Bool.and_eq_true, decide_eq_true_eq, true_and] at h
    obtain ⟨h1, rfl⟩ := h
    exact number_c s h1
  · cases h
def tabSt6 : Tabs := addQ (addQ (addQ (noTabs) 39 beforeG) 40 monthsG) 45 numberG
theorem tabSt6_ok : SsOk Try.prog tabSt6 := addQ_ok (addQ_ok (addQ_ok (noTabs_ok) (G_enters G_ok (p := i39) rfl) beforeG_ok) (G_enters G_ok (p := i40) rfl) monthsG_ok) (G_enters G_ok (p := i45) rfl) numberG_ok
theorem tabSt6_q39 (a : List D) : tabSt6.q 39 a = beforeG a := rfl
theorem tabSt6_q40 (a : List D) : tabSt6.q 40 a = monthsG a := rfl
theorem tabSt6_q45 (a : List D) : tabSt6.q 45 a = numberG a := rfl
theorem tabSt6_r (f : FuncId) (a : List D) (o : List Ob) : tabSt6.r f a o = none := rfl
theorem tabSt6_k (f : FuncId) (a : List D) (o : List Ob) : tabSt6.k f a o = none := rfl
theorem numD_le (s : List UInt8) (k : Nat) (h : s.length ≤ k) : ∃ (v : Nat) (b : Bool), numD s = ((v : Int), b) ∧ v < 10 ^ k := by
  unfold numD
  split
  · rename_i hd
    exact ⟨valD s, true, rfl, Nat.lt_of_lt_of_le (valD_lt s hd) (Nat.pow_le_pow_right (by omega) h)⟩
  · exact ⟨0, false, rfl, Nat.pow_pos (by omega)⟩
def fldN (s : List UInt8) (lo hi : Nat) : Nat := (numD ((s.take hi).drop lo)).1.toNat
def fldB (s : List UInt8) (lo hi : Nat) : Bool := (numD ((s.take hi).drop lo)).2
def yrN (s : List UInt8) : Nat := (numD (s.take 4)).1.toNat
/-- Whether a text may be a time's, and the time. -/
def okT36 (s : List UInt8) : Prop := ((numD (s.take 4)).2 = true ∧ fldB s 4 6 = true ∧ fldB s 6 8 = true ∧ fldB s 8 10 = true ∧ fldB s 10 12 = true ∧ fldB s 12 14 = true) ∧ 1970 ≤ yrN s ∧ 1 ≤ fldN s 4 6 ∧ fldN s 4 6 ≤ 12 ∧ 1 ≤ fldN s 6 8 ∧ fldN s 8 10 ≤ 23 ∧ fldN s 10 12 ≤ 59 ∧ fldN s 12 14 ≤ 59 ∧ fldN s 6 8 ≤ (mon (yrN s)).getD (fldN s 4 6 - 1) 0
instance decT36 (s : List UInt8) : Decidable (okT36 s) := inferInstanceAs (Decidable ((_ ∧ _ ∧ _ ∧ _ ∧ _ ∧ _) ∧ _ ∧ _ ∧ _ ∧ _ ∧ _ ∧ _ ∧ _ ∧ _))
def timN (s : List UInt8) : Nat := (bef (yrN s) + fldN s 6 8 - 1 + ((mon (yrN s)).take (fldN s 4 6 - 1)).sum) * 86400 + fldN s 8 10 * 3600 + fldN s 10 12 * 60 + fldN s 12 14
def rdT (s : List UInt8) : Int × Int := if s.length = 15 ∧ s.getD 14 0 = 90 then if okT36 s then ((timN s : Nat), 0) else (0, 5) else (0, 5)
def rowsI (l : List Nat) : List (List X) := l.map fun (n : Nat) => [X.int .i64 n]
theorem rowsI_get (l : List Nat) (m : Nat) (h : m < l.length) : (rowsI l)[m]? = some [X.int .i64 (l[m] : Nat)] := by
  rw [rowsI, List.getElem?_map, List.getElem?_eq_getElem h]; rfl
theorem rowsI_len (l : List Nat) : (rowsI l).length = l.length := by simp [rowsI]
theorem rowsI_take (l : List Nat) (k : Nat) : ((rowI l).take k).map (fun y => [y]) = rowsI (l.take k) := by
  rw [rowI, rowsI, ← List.map_take, List.map_map]; rfl
theorem sum_take_le (l : List Nat) (j : Nat) : (l.take j).sum ≤ l.sum := by
  conv => rhs; rw [← List.take_append_drop j l, List.sum_append]
  omega
theorem sum_take_succ (l : List Nat) (j : Nat) (h : j < l.length) : (l.take (j + 1)).sum = (l.take j).sum + l[j] := by
  rw [← List.take_append_getElem h, List.sum_append]; simp
theorem int_pred {n : Nat} (h : 1 ≤ n) : ((n : Int) - 1).toNat = n - 1 := by omega
theorem read_len (s : List UInt8) (h : ¬ (s.length = 15 ∧ s.getD 14 0 = 90)) : PCalls Try.prog 31 [.x (.str s)] (.tup [.x (.int .i64 0), .x (.int .i64 5)]) := by
  refine FCalls.pure (fcallsG (fz := true) G_ok (p := i31) rfl _ (Nat.le_of_ble_eq_true rfl) _ (fun C0 E0 => ?_)) rfl
  dsimp only [i31, argsφ]
  have uu := And.intro @tabSt6_r (And.intro @tabSt6_k (And.intro @tabSt6_q39 (And.intro @tabSt6_q40 (And.intro @tabSt6_q45 (And.intro @beforeG.eq_1 (And.intro @beforeG.eq_2 (And.intro @monthsG.eq_1 (And.intro @monthsG.eq_2 (And.intro @numberG.eq_1 (@numberG.eq_2))))))))))
  refine WI.seq ?_
  refine WI.regB tabSt6_ok [0] ?_
  iterate 2 refine oS ?_
  refine oN ?_
  refine thenQ_normal ?_
  refine WI.seq ?_
  refine WI.seq ?_
  refine WI.regB tabSt6_ok [0, 21] ?_
  refine oS ?_
  iterate 2 refine oG ?_
  refine oS ?_
  iterate 4 refine oG ?_
  refine oN ?_
  refine thenQ_normal ?_
  refine WI.cond (b := _) rfl rfl (fun h0 => ?_) (fun h0 => ?_)
  · try simp only [zB] at h0
    refine WI.seq ?_
    refine WI.regB tabSt6_ok [2, 3] ?_
    iterate 2 refine oS ?_
    refine oN ?_
    refine thenQ_normal ?_
    refine WI.ret ?_
    refine thenQ_ret ?_
    first | refine lfR ?_ | refine lfR2 ?_
    first | rfl | exact ⟨rfl, rfl⟩ | trivial -- leaf 0
  · exfalso
    simp only [zB] at h0
    refine h ⟨by omega, ?_⟩
    exact UInt8.toNat_inj.1 (by have := h0.2; show _ = 90; omega)
theorem read_ok (s : List UInt8) (h15 : s.length = 15) (hz : s.getD 14 0 = 90) : PCalls Try.prog 31 [.x (.str s)] (.tup [.x (.int .i64 (rdT s).1), .x (.int .i64 (rdT s).2)]) := by
  obtain ⟨y, by', hy, hyl⟩ := numD_le (s.take 4) 4 (by simp; omega)
  obtain ⟨v0, b0, q0, l0⟩ := numD_le ((s.take 6).drop 4) 2 (by simp; omega)
  obtain ⟨v1, b1, q1, l1⟩ := numD_le ((s.take 8).drop 6) 2 (by simp; omega)
  obtain ⟨v2, b2, q2, l2⟩ := numD_le ((s.take 10).drop 8) 2 (by simp; omega)
  obtain ⟨v3, b3, q3, l3⟩ := numD_le ((s.take 12).drop 10) 2 (by simp; omega)
  obtain ⟨v4, b4, q4, l4⟩ := numD_le ((s.take 14).drop 12) 2 (by simp; omega)
  have hrd : rdT s = if ((by' = true ∧ b0 = true ∧ b1 = true ∧ b2 = true ∧ b3 = true ∧ b4 = true) ∧ 1970 ≤ y ∧ 1 ≤ v0 ∧ v0 ≤ 12 ∧ 1 ≤ v1 ∧ v2 ≤ 23 ∧ v3 ≤ 59 ∧ v4 ≤ 59 ∧ v1 ≤ (mon y).getD (v0 - 1) 0) then ((((bef y + v1 - 1 + ((mon y).take (v0 - 1)).sum) * 86400 + v2 * 3600 + v3 * 60 + v4 : Nat) : Int), 0) else (0, 5) := by
    unfold rdT
    rw [if_pos ⟨h15, hz⟩]
    simp only [okT36, timN, yrN, fldN, fldB, hy, q0, q1, q2, q3, q4, Int.toNat_natCast]
  have hsz : (s.getD 14 0).toNat = 90 := by rw [hz]; rfl
  simp only [Nat.reducePow] at hyl l0 l1 l2 l3 l4
  refine FCalls.pure (fcallsG (fz := true) G_ok (p := i31) rfl _ (Nat.le_of_ble_eq_true rfl) _ (fun C0 E0 => ?_)) rfl
  dsimp only [i31, argsφ]
  have uu := And.intro @numberG.eq_1 (And.intro @numberG.eq_2 (And.intro hy (And.intro @q0 (And.intro @q1 (And.intro @q2 (And.intro @q3 (And.intro @q4 (And.intro @monthsG.eq_1 (And.intro @monthsG.eq_2 (And.intro @beforeG.eq_1 (And.intro @beforeG.eq_2 (And.intro @rowI_get (And.intro @rowsI_get (And.intro @rowsI_len (And.intro @Nat.mul_one (And.intro @int_pred (And.intro @tabSt6_r (And.intro @tabSt6_k (And.intro @tabSt6_q39 (And.intro @tabSt6_q40 (@tabSt6_q45)))))))))))))))))))))
  refine WI.seq ?_
  refine WI.regB tabSt6_ok [0] ?_
  iterate 2 refine oS ?_
  refine oN ?_
  refine thenQ_normal ?_
  refine WI.seq ?_
  refine WI.seq ?_
  refine WI.regB tabSt6_ok [0, 21] ?_
  refine oS ?_
  iterate 2 refine oG ?_
  refine oS ?_
  iterate 4 refine oG ?_
  refine oN ?_
  refine thenQ_normal ?_
  refine WI.cond (b := _) rfl rfl (fun h0 => ?_) (fun h0 => ?_)
  · exfalso
    simp only [zB] at h0; omega
  · try simp only [zB] at h0
    refine WI.skip ?_
    refine thenQ_normal ?_
    refine WI.seq ?_
    refine WI.regB tabSt6_ok [0, 4, 5] ?_
    refine oS ?_
    refine oG ?_
    refine oC ?_
    refine oS ?_
    iterate 2 refine oG ?_
    iterate 2 refine oS ?_
    refine oN ?_
    refine thenQ_normal ?_
    refine WI.seq ?_
    refine WI.regB tabSt6_ok [0, 4, 5, 6] ?_
    refine oG ?_
    refine oN ?_
    refine thenQ_normal ?_
    refine WI.seq ?_
    refine WI.seq ?_
    refine WI.regB tabSt6_ok [0, 4, 5, 6, 28] ?_
    refine oS ?_
    refine oN ?_
    refine thenQ_normal ?_
    refine WI.block ?_
    refine WI.loopN 6 ?_
    refine WI.round ?_
    refine WI.seq ?_
    refine WI.regB tabSt6_ok [0, 4, 5, 6, 28, 29] ?_
    refine oG ?_
    refine oN ?_
    refine thenQ_normal ?_
    refine WI.seq ?_
    refine WI.cond (b := _) rfl rfl (fun h1 => ?_) (fun h1 => ?_)
    · try simp only [zB] at h1
      refine WI.skip ?_
      refine thenQ_normal ?_
      refine WI.seq ?_
      refine WI.block ?_
      refine WI.seq ?_
      refine WI.regB tabSt6_ok [0, 4, 5, 6, 7, 28] ?_
      iterate 2 refine oS ?_
      refine oN ?_
      refine thenQ_normal ?_
      refine WI.seq ?_
      refine WI.regB tabSt6_ok [0, 4, 5, 6, 7, 8, 9, 28] ?_
      iterate 2 refine oS ?_
      iterate 2 refine oG ?_
      refine oS ?_
      iterate 3 refine oG ?_
      refine oC ?_
      refine oS ?_
      iterate 2 refine oG ?_
      iterate 2 refine oS ?_
      refine oN ?_
      refine thenQ_normal ?_
      refine WI.regB tabSt6_ok [0, 4, 5, 6, 28] ?_
      iterate 4 refine oS ?_
      iterate 4 refine oG ?_
      refine oS ?_
      refine oN ?_
      refine blockQ_normal ?_
      refine thenQ_normal ?_
      refine WI.regB tabSt6_ok [0, 4, 5, 6, 28] ?_
      refine oG ?_
      refine oS ?_
      refine oN ?_
      refine thenQ_normal ?_
      refine WI.round ?_
      refine WI.seq ?_
      refine WI.regB tabSt6_ok [0, 4, 5, 6, 28, 29] ?_
      refine oG ?_
      refine oN ?_
      refine thenQ_normal ?_
      refine WI.seq ?_
      refine WI.cond (b := _) rfl rfl (fun h1 => ?_) (fun h1 => ?_)
      · try simp only [zB] at h1
        refine WI.skip ?_
        refine thenQ_normal ?_
        refine WI.seq ?_
        refine WI.block ?_
        refine WI.seq ?_
        refine WI.regB tabSt6_ok [0, 4, 5, 6, 7, 28] ?_
        iterate 2 refine oS ?_
        refine oN ?_
        refine thenQ_normal ?_
        refine WI.seq ?_
        refine WI.regB tabSt6_ok [0, 4, 5, 6, 7, 8, 9, 28] ?_
        iterate 2 refine oS ?_
        iterate 2 refine oG ?_
        refine oS ?_
        iterate 3 refine oG ?_
        refine oC ?_
        refine oS ?_
        iterate 2 refine oG ?_
        iterate 2 refine oS ?_
        refine oN ?_
        refine thenQ_normal ?_
        refine WI.regB tabSt6_ok [0, 4, 5, 6, 28] ?_
        iterate 4 refine oS ?_
        iterate 4 refine oG ?_
        refine oS ?_
        refine oN ?_
        refine blockQ_normal ?_
        refine thenQ_normal ?_
        refine WI.regB tabSt6_ok [0, 4, 5, 6, 28] ?_
        refine oG ?_
        refine oS ?_
        refine oN ?_
        refine thenQ_normal ?_
        refine WI.round ?_
        refine WI.seq ?_
        refine WI.regB tabSt6_ok [0, 4, 5, 6, 28, 29] ?_
        refine oG ?_
        refine oN ?_
        refine thenQ_normal ?_
        refine WI.seq ?_
        refine WI.cond (b := _) rfl rfl (fun h1 => ?_) (fun h1 => ?_)
        · try simp only [zB] at h1
          refine WI.skip ?_
          refine thenQ_normal ?_
          refine WI.seq ?_
          refine WI.block ?_
          refine WI.seq ?_
          refine WI.regB tabSt6_ok [0, 4, 5, 6, 7, 28] ?_
          iterate 2 refine oS ?_
          refine oN ?_
          refine thenQ_normal ?_
          refine WI.seq ?_
          refine WI.regB tabSt6_ok [0, 4, 5, 6, 7, 8, 9, 28] ?_
          iterate 2 refine oS ?_
          iterate 2 refine oG ?_
          refine oS ?_
          iterate 3 refine oG ?_
          refine oC ?_
          refine oS ?_
          iterate 2 refine oG ?_
          iterate 2 refine oS ?_
          refine oN ?_
          refine thenQ_normal ?_
          refine WI.regB tabSt6_ok [0, 4, 5, 6, 28] ?_
          iterate 4 refine oS ?_
          iterate 4 refine oG ?_
          refine oS ?_
          refine oN ?_
          refine blockQ_normal ?_
          refine thenQ_normal ?_
          refine WI.regB tabSt6_ok [0, 4, 5, 6, 28] ?_
          refine oG ?_
          refine oS ?_
          refine oN ?_
          refine thenQ_normal ?_
          refine WI.round ?_
          refine WI.seq ?_
          refine WI.regB tabSt6_ok [0, 4, 5, 6, 28, 29] ?_
          refine oG ?_
          refine oN ?_
          refine thenQ_normal ?_
          refine WI.seq ?_
          refine WI.cond (b := _) rfl rfl (fun h1 => ?_) (fun h1 => ?_)
          · try simp only [zB] at h1
            refine WI.skip ?_
            refine thenQ_normal ?_
            refine WI.seq ?_
            refine WI.block ?_
            refine WI.seq ?_
            refine WI.regB tabSt6_ok [0, 4, 5, 6, 7, 28] ?_
            iterate 2 refine oS ?_
            refine oN ?_
            refine thenQ_normal ?_
            refine WI.seq ?_
            refine WI.regB tabSt6_ok [0, 4, 5, 6, 7, 8, 9, 28] ?_
            iterate 2 refine oS ?_
            iterate 2 refine oG ?_
            refine oS ?_
            iterate 3 refine oG ?_
            refine oC ?_
            refine oS ?_
            iterate 2 refine oG ?_
            iterate 2 refine oS ?_
            refine oN ?_
            refine thenQ_normal ?_
            refine WI.regB tabSt6_ok [0, 4, 5, 6, 28] ?_
            iterate 4 refine oS ?_
            iterate 4 refine oG ?_
            refine oS ?_
            refine oN ?_
            refine blockQ_normal ?_
            refine thenQ_normal ?_
            refine WI.regB tabSt6_ok [0, 4, 5, 6, 28] ?_
            refine oG ?_
            refine oS ?_
            refine oN ?_
            refine thenQ_normal ?_
            refine WI.round ?_
            refine WI.seq ?_
            refine WI.regB tabSt6_ok [0, 4, 5, 6, 28, 29] ?_
            refine oG ?_
            refine oN ?_
            refine thenQ_normal ?_
            refine WI.seq ?_
            refine WI.cond (b := _) rfl rfl (fun h1 => ?_) (fun h1 => ?_)
            · try simp only [zB] at h1
              refine WI.skip ?_
              refine thenQ_normal ?_
              refine WI.seq ?_
              refine WI.block ?_
              refine WI.seq ?_
              refine WI.regB tabSt6_ok [0, 4, 5, 6, 7, 28] ?_
              iterate 2 refine oS ?_
              refine oN ?_
              refine thenQ_normal ?_
              refine WI.seq ?_
              refine WI.regB tabSt6_ok [0, 4, 5, 6, 7, 8, 9, 28] ?_
              iterate 2 refine oS ?_
              iterate 2 refine oG ?_
              refine oS ?_
              iterate 3 refine oG ?_
              refine oC ?_
              refine oS ?_
              iterate 2 refine oG ?_
              iterate 2 refine oS ?_
              refine oN ?_
              refine thenQ_normal ?_
              refine WI.regB tabSt6_ok [0, 4, 5, 6, 28] ?_
              iterate 4 refine oS ?_
              iterate 4 refine oG ?_
              refine oS ?_
              refine oN ?_
              refine blockQ_normal ?_
              refine thenQ_normal ?_
              refine WI.regB tabSt6_ok [0, 4, 5, 6, 28] ?_
              refine oG ?_
              refine oS ?_
              refine oN ?_
              refine thenQ_normal ?_
              refine WI.round ?_
              refine WI.seq ?_
              refine WI.regB tabSt6_ok [0, 4, 5, 6, 28, 29] ?_
              refine oG ?_
              refine oN ?_
              refine thenQ_normal ?_
              refine WI.seq ?_
              refine WI.cond (b := _) rfl rfl (fun h1 => ?_) (fun h1 => ?_)
              · exact absurd h1 (by decide)
              · try simp only [zB] at h1
                refine WI.exit ?_
                refine thenQ_exit ?_
                refine thenQ_exit ?_
                refine blockQ_hit ?_
                refine thenQ_normal ?_
                refine WI.seq ?_
                refine WI.seq ?_
                refine WI.regB tabSt6_ok [4, 6, 86] ?_
                refine oS ?_
                refine oG ?_
                refine oS ?_
                iterate 3 refine oG ?_
                refine oS ?_
                iterate 4 refine oG ?_
                refine oS ?_
                iterate 4 refine oG ?_
                refine oS ?_
                iterate 4 refine oG ?_
                refine oS ?_
                iterate 4 refine oG ?_
                refine oS ?_
                iterate 4 refine oG ?_
                refine oS ?_
                iterate 4 refine oG ?_
                refine oN ?_
                refine thenQ_normal ?_
                refine WI.cond (b := _) rfl rfl (fun h2 => ?_) (fun h2 => ?_)
                · try simp only [zB] at h2
                  refine WI.seq ?_
                  refine WI.regB tabSt6_ok [2, 3] ?_
                  iterate 2 refine oS ?_
                  refine oN ?_
                  refine thenQ_normal ?_
                  refine WI.ret ?_
                  refine thenQ_ret ?_
                  first | refine lfR ?_ | refine lfR2 ?_
                  rw [hrd, if_neg (by rintro ⟨⟨k1, k2, k3, k4, k5, k6⟩, _⟩; simp_all; omega)] -- leaf 0
                · try simp only [zB] at h2
                  refine WI.skip ?_
                  refine thenQ_normal ?_
                  refine WI.seq ?_
                  refine WI.regB tabSt6_ok [4, 6, 10] ?_
                  refine oS ?_
                  refine oC ?_
                  iterate 2 refine oG ?_
                  refine oN ?_
                  refine thenQ_normal ?_
                  refine WI.seq ?_
                  refine WI.seq ?_
                  rw [show [X.int .i64 31, X.int .i64 ((feb y : Nat) : Int), X.int .i64 31, X.int .i64 30, X.int .i64 31, X.int .i64 30, X.int .i64 31, X.int .i64 31, X.int .i64 30, X.int .i64 31, X.int .i64 30, X.int .i64 31] = rowI (mon y) from rfl]
                  have hml : v0 - 1 < (mon y).length := by rw [mon_len]; omega
                  refine WI.dregB tabSt6_ok [4, 6, 10, 96] ?_
                  iterate 4 refine dQG ?_
                  refine dFG ?_
                  iterate 2 refine dQG ?_
                  refine dFG ?_
                  refine dN ?_
                  refine thenQ_normal ?_
                  refine WI.cond (b := _) rfl rfl (fun h3 => ?_) (fun h3 => ?_)
                  · try simp only [zB] at h3
                    refine WI.seq ?_
                    refine WI.regB tabSt6_ok [2, 3] ?_
                    iterate 2 refine oS ?_
                    refine oN ?_
                    refine thenQ_normal ?_
                    refine WI.ret ?_
                    refine thenQ_ret ?_
                    first | refine lfR ?_ | refine lfR2 ?_
                    rw [hrd, if_neg (by rw [getD_mon y _ hml]; omega)] -- leaf 1
                  · try simp only [zB] at h3
                    refine WI.skip ?_
                    refine thenQ_normal ?_
                    refine WI.seq ?_
                    have hbd : bef y ≤ 2932897 := by have := bef_mono (a := y) (b := 10000) (by omega) (by omega); rw [bef_10000] at this; omega
                    refine WI.dregB tabSt6_ok [6, 10, 11] ?_
                    refine dFS ?_
                    refine dQC ?_
                    iterate 2 refine dQG ?_
                    iterate 2 refine dFG ?_
                    refine dFS ?_
                    refine dN ?_
                    refine thenQ_normal ?_
                    refine WI.seq ?_
                    refine WI.seq ?_
                    have e8 : ((bef y : Nat) : Int) + (v1 : Int) - 1 = ((bef y + v1 - 1 : Nat) : Int) := by omega
                    have uu := And.intro uu e8
                    refine WI.regB tabSt6_ok [6, 11, 106, 107, 108] ?_
                    iterate 5 refine oG ?_
                    refine oS ?_
                    refine oN ?_
                    refine thenQ_normal ?_
                    refine WI.block ?_
                    have hL : ((mon y).take (v0 - 1)).length = v0 - 1 := by rw [List.length_take, mon_len]; omega
                    have hS := sum_take_le ((mon y).take (v0 - 1))
                    have hS2 : ((mon y).take (v0 - 1)).sum ≤ 366 := Nat.le_trans (sum_take_le _ _) (by rw [mon_sum]; unfold yl; split <;> omega)
                    rw [rowsI_take, rowsI_len]
                    refine WI.loop (fun φ os => ∃ j : Nat, φ = [(6, .eptr 0 1 0 0), (11, .x (.int .i64 (bef y + v1 - 1 + (((mon y).take (v0 - 1)).take j).sum : Nat))), (106, .x (.sl (rowsI ((mon y).take (v0 - 1))))), (107, .x (.int .i64 ((mon y).take (v0 - 1)).length)), (108, .x (.int .i64 j))] ∧ os = [.rows false 87 5 [[.int .i64 v0, .int .i64 v1, .int .i64 v2, .int .i64 v3, .int .i64 v4]], .frz 12 [rowI (mon y)]] ∧ j ≤ ((mon y).take (v0 - 1)).length) (down 13 108) ?_ (fun φ os hI => ?_)
                    · exact ⟨0, by simp, rfl, by omega⟩
                    · obtain ⟨j, rfl, rfl, hj⟩ := hI
                      refine WI.seq ?_
                      have hSj := hS j
                      refine WI.regB tabSt6_ok [6, 11, 106, 107, 108, 109] ?_
                      refine oG ?_
                      refine oN ?_
                      refine thenQ_normal ?_
                      refine WI.seq ?_
                      refine WI.cond (b := _) rfl rfl (fun h4 => ?_) (fun h4 => ?_)
                      · try simp only [zB] at h4
                        refine WI.skip ?_
                        refine thenQ_normal ?_
                        refine WI.seq ?_
                        refine WI.block ?_
                        refine WI.seq ?_
                        have hj5 : j < ((mon y).take (v0 - 1)).length := by omega
                        have hSk := sum_take_succ _ j hj5
                        have hSl := hS (j + 1)
                        refine WI.regB tabSt6_ok [6, 11, 13, 106, 107, 108] ?_
                        iterate 2 refine oG ?_
                        refine oS ?_
                        refine oN ?_
                        refine thenQ_normal ?_
                        refine WI.regB tabSt6_ok [6, 11, 106, 107, 108] ?_
                        iterate 2 refine oS ?_
                        refine oG ?_
                        refine oS ?_
                        refine oN ?_
                        refine blockQ_normal ?_
                        refine thenQ_normal ?_
                        refine WI.regB tabSt6_ok [6, 11, 106, 107, 108] ?_
                        refine oG ?_
                        refine oS ?_
                        refine oN ?_
                        refine thenQ_normal ?_
                        exact ⟨⟨j + 1, by rw [sum_take_succ _ j (by omega)]; simp [Int.add_assoc], rfl, by omega⟩, by simp [down, Ab.get, D.val, intOf?]; omega⟩
                      · try simp only [zB] at h4
                        refine WI.exit ?_
                        refine thenQ_exit ?_
                        refine thenQ_exit ?_
                        refine blockQ_hit ?_
                        refine thenQ_normal ?_
                        refine WI.seq ?_
                        refine WI.regB tabSt6_ok [2, 3] ?_
                        refine oS ?_
                        iterate 12 refine oG ?_
                        iterate 2 refine oS ?_
                        refine oN ?_
                        refine thenQ_normal ?_
                        refine WI.ret ?_
                        first | refine lfR ?_ | refine lfR2 ?_
                        rw [hrd, if_pos ⟨by simp_all, by omega, by omega, by omega, by omega, by omega, by omega, by omega, by rw [getD_mon y _ hml]; omega⟩]
                        rw [List.take_of_length_le (l := (mon y).take (v0 - 1)) (by omega)]
                        generalize bef y + v1 - 1 + ((mon y).take (v0 - 1)).sum = A
                        simp -- leaf 2
            · exact absurd h1 (by decide)
          · exact absurd h1 (by decide)
        · exact absurd h1 (by decide)
      · exact absurd h1 (by decide)
    · exact absurd h1 (by decide)
theorem rdT_c (s : List UInt8) : PCalls Try.prog 31 [.x (.str s)] (.tup [.x (.int .i64 (rdT s).1), .x (.int .i64 (rdT s).2)]) := by
  by_cases h : s.length = 15 ∧ s.getD 14 0 = 90
  · exact read_ok s h.1 h.2
  · rw [rdT, if_neg h]; exact read_len s h
def rdTG : List D → Option (Bool × D)
  | [.x (.str s)] => some (true, .tup [.x (.int .i64 (rdT s).1), .x (.int .i64 (rdT s).2)])
  | _ => none
theorem rdTG_ok : ∀ args r, rdTG args = some (true, r) → PCalls Try.prog 31 args r := by
  intro args r h
  unfold rdTG at h
  split at h
  · rename_i s
    simp only [Option.some.injEq, Prod.mk.injEq, Bool.and_eq_true, decide_eq_true_eq, true_and] at h
    obtain rfl := h
    exact rdT_c s
  · cases h
end Go.Proofs.Ytogplpcamiicgaa
end
section
/- Times as texts: the laws, plain. -/
set_option linter.unusedSimpArgs false
set_option linter.unusedVariables false
namespace Go.Proofs.Ytogplpcamiicgaa
open Go.RowKit Go.Bo Go.Ab

theorem s36a : putT 0 = ([49, 57, 55, 48, 48, 49, 48, 49, 48, 48, 48, 48, 48, 48, 90], 0) := by kernel_rfl
theorem s36b : putT 951782400 = ([50, 48, 48, 48, 48, 50, 50, 57, 48, 48, 48, 48, 48, 48, 90], 0) := by kernel_rfl
theorem s36c : rdT [57, 57, 57, 57, 49, 50, 51, 49, 50, 51, 53, 57, 53, 57, 90] = (253402300799, 0) := by kernel_rfl
theorem s36d : rdT [50, 48, 50, 51, 48, 50, 50, 57, 48, 48, 48, 48, 48, 48, 90] = (0, 5) := by kernel_rfl
theorem s36e : putT (-1) = ([], 2) := by kernel_rfl
/-- A time's parts. -/
theorem parts (n : Nat) (hn : n ≤ 253402300799) : ∃ y m e : Nat, 1970 ≤ y ∧ y ≤ 9999 ∧ ∃ hm : m < (mon y).length, e < (mon y)[m] ∧ n / 86400 = bef y + (((mon y).take m).sum + e) ∧ ((mon y).take m).sum + e < yl y ∧
    txt n = dg y 4 ++ dg (m + 1) 2 ++ dg (e + 1) 2 ++ dg (n % 86400 / 3600) 2 ++ dg (n % 86400 / 60 % 60) 2 ++ dg (n % 86400 % 60) 2 ++ [90] := by
  obtain ⟨h1, h2, h3⟩ := yearOf_ok (n / 86400)
  rw [bef_succ _ h1] at h3
  obtain ⟨k1, k2, k3⟩ := cut_ok (mon (yearOf (n / 86400))) (n / 86400 - bef (yearOf (n / 86400))) (by rw [mon_sum]; omega)
  exact ⟨yearOf (n / 86400), (cut (mon (yearOf (n / 86400))) (n / 86400 - bef (yearOf (n / 86400)))).1, (cut (mon (yearOf (n / 86400))) (n / 86400 - bef (yearOf (n / 86400)))).2, h1, year_le h1 h2 (by omega), k1, k2, by omega, by omega, rfl⟩
theorem txt_is {n y m e : Nat} (h1 : 1970 ≤ y) (hm : m < (mon y).length) (he : e < (mon y)[m]) (hd : n / 86400 = bef y + (((mon y).take m).sum + e)) (hl : ((mon y).take m).sum + e < yl y) :
    txt n = dg y 4 ++ dg (m + 1) 2 ++ dg (e + 1) 2 ++ dg (n % 86400 / 3600) 2 ++ dg (n % 86400 / 60 % 60) 2 ++ dg (n % 86400 % 60) 2 ++ [90] := by
  have hy : yearOf (n / 86400) = y := yearOf_is h1 (by omega) (by rw [bef_succ _ h1]; omega)
  have hc : cut (mon y) (n / 86400 - bef y) = (m, e) := by rw [show n / 86400 - bef y = ((mon y).take m).sum + e by omega]; exact cut_is _ _ _ hm he
  rw [txt, hy, hc]
theorem txt_len (n : Nat) : (txt n).length = 15 := by simp only [txt, List.length_append, dg_len, List.length_cons, List.length_nil]
theorem mon_le (y m : Nat) (hm : m < (mon y).length) : (mon y)[m] ≤ 31 := by
  have : ∀ k ∈ mon y, k ≤ 31 := by
    intro k hk
    simp only [mon, List.mem_cons, List.not_mem_nil, or_false] at hk
    split at hk <;> omega
  exact this _ (List.getElem_mem hm)
theorem numD_dg (n k : Nat) (h : n < 10 ^ k) : numD (dg n k) = ((n : Int), true) := by
  rw [numD, if_pos (dg_dig n k), dg_val n k h]
theorem mid (A B C : List UInt8) {i j : Nat} (hi : A.length = i) (hj : A.length + B.length = j) : ((A ++ B ++ C).take j).drop i = B := by
  rw [List.append_assoc, List.take_append, List.take_of_length_le (by omega), ← hi, List.drop_left, List.take_append, List.take_of_length_le (by omega), show j - A.length - B.length = 0 by omega]
  simp
/-- What is read of digits. -/
theorem rd_dg (y a d h m s : Nat) (hy : y < 10000) (ha : a < 100) (hd : d < 100) (hh : h < 100) (hm : m < 100) (hs : s < 100) (T : List UInt8) (hT : T = dg y 4 ++ dg a 2 ++ dg d 2 ++ dg h 2 ++ dg m 2 ++ dg s 2 ++ [90]) :
    T.length = 15 ∧ T.getD 14 0 = 90 ∧ numD (T.take 4) = ((y : Int), true) ∧ numD ((T.take 6).drop 4) = ((a : Int), true) ∧ numD ((T.take 8).drop 6) = ((d : Int), true) ∧ numD ((T.take 10).drop 8) = ((h : Int), true) ∧ numD ((T.take 12).drop 10) = ((m : Int), true) ∧ numD ((T.take 14).drop 12) = ((s : Int), true) := by
  have e0 : T.take 4 = dg y 4 := by
    have := mid [] (dg y 4) (dg a 2 ++ dg d 2 ++ dg h 2 ++ dg m 2 ++ dg s 2 ++ [90]) (i := 0) (j := 4) rfl (by simp [dg_len])
    rw [hT]; simpa [List.append_assoc] using this
  have e1 : (T.take 6).drop 4 = dg a 2 := by
    have := mid (dg y 4) (dg a 2) (dg d 2 ++ dg h 2 ++ dg m 2 ++ dg s 2 ++ [90]) (i := 4) (j := 6) (by simp [dg_len]) (by simp [dg_len])
    rw [hT]; simpa [List.append_assoc] using this
  have e2 : (T.take 8).drop 6 = dg d 2 := by
    have := mid (dg y 4 ++ dg a 2) (dg d 2) (dg h 2 ++ dg m 2 ++ dg s 2 ++ [90]) (i := 6) (j := 8) (by simp [dg_len]) (by simp [dg_len])
    rw [hT]; simpa [List.append_assoc] using this
  have e3 : (T.take 10).drop 8 = dg h 2 := by
    have := mid (dg y 4 ++ dg a 2 ++ dg d 2) (dg h 2) (dg m 2 ++ dg s 2 ++ [90]) (i := 8) (j := 10) (by simp [dg_len]) (by simp [dg_len])
    rw [hT]; simpa [List.append_assoc] using this
  have e4 : (T.take 12).drop 10 = dg m 2 := by
    have := mid (dg y 4 ++ dg a 2 ++ dg d 2 ++ dg h 2) (dg m 2) (dg s 2 ++ [90]) (i := 10) (j := 12) (by simp [dg_len]) (by simp [dg_len])
    rw [hT]; simpa [List.append_assoc] using this
  have e5 : (T.take 14).drop 12 = dg s 2 := by
    have := mid (dg y 4 ++ dg a 2 ++ dg d 2 ++ dg h 2 ++ dg m 2) (dg s 2) [90] (i := 12) (j := 14) (by simp [dg_len]) (by simp [dg_len])
    rw [hT]; simpa [List.append_assoc] using this
  have e6 : T.length = 15 := by rw [hT]; simp [dg_len]
  have e7 : T.getD 14 0 = 90 := by
    rw [hT, List.getD_eq_getElem?_getD, List.getElem?_append_right (by simp [dg_len])]
    simp [dg_len]
  rw [e0, e1, e2, e3, e4, e5]
  exact ⟨e6, e7, numD_dg _ _ (by omega), numD_dg _ _ (by omega), numD_dg _ _ (by omega), numD_dg _ _ (by omega), numD_dg _ _ (by omega), numD_dg _ _ (by omega)⟩
theorem rd_txt (n : Nat) (hn : n ≤ 253402300799) : rdT (txt n) = ((n : Int), 0) := by
  obtain ⟨y, m, e, h1, h2, hm, he, hd, hl, ht⟩ := parts n hn
  have hm2 : m < 12 := hm
  have he2 := mon_le y m hm
  obtain ⟨k1, k2, k3, k4, k5, k6, k7, k8⟩ := rd_dg y (m + 1) (e + 1) (n % 86400 / 3600) (n % 86400 / 60 % 60) (n % 86400 % 60) (by omega) (by omega) (by omega) (by omega) (by omega) (by omega) (txt n) ht
  rw [rdT, if_pos ⟨k1, k2⟩, if_pos]
  · simp only [timN, yrN, fldN, k3, k4, k5, k6, k7, k8, Int.toNat_natCast, Nat.add_sub_cancel]
    congr 2
    rw [show bef y + (e + 1) - 1 + ((mon y).take m).sum = n / 86400 by omega]
    omega
  · simp only [okT36, yrN, fldN, fldB, k3, k4, k5, k6, k7, k8, Int.toNat_natCast, Nat.add_sub_cancel]
    rw [getD_mon y m hm]
    exact ⟨by simp, by omega, by omega, by omega, by omega, by omega, by omega, by omega, by omega⟩
theorem numD_dig {s : List UInt8} (h : (numD s).2 = true) : s.all digB = true ∧ (numD s).1 = (valD s : Nat) := by
  unfold numD at h ⊢
  split at h
  · rename_i hd; rw [if_pos hd]; exact ⟨hd, rfl⟩
  · cases h
theorem seg_dg (s : List UInt8) (lo hi k : Nat) (h : fldB s lo hi = true) (hk : ((s.take hi).drop lo).length = k) : (s.take hi).drop lo = dg (fldN s lo hi) k := by
  obtain ⟨h1, h2⟩ := numD_dig h
  have := dg_of_val _ h1
  unfold fldN
  rw [h2, Int.toNat_natCast, ← hk, this]
theorem cat_take (s : List UInt8) (lo hi : Nat) (h : lo ≤ hi) : s.take lo ++ (s.take hi).drop lo = s.take hi := by
  have := List.take_append_drop lo (s.take hi)
  rwa [List.take_take, Nat.min_eq_left h] at this
/-- A text that is read is that of what is read. -/
theorem put_rd (s : List UInt8) (h : (rdT s).2 = 0) : 0 ≤ (rdT s).1 ∧ (rdT s).1 ≤ 253402300799 ∧ txt (rdT s).1.toNat = s := by
  unfold rdT at h ⊢
  split at h
  · rename_i h0
    rw [if_pos h0]
    split at h
    · rename_i h1
      rw [if_pos h1]
      obtain ⟨h15, hz⟩ := h0
      obtain ⟨⟨b0, b1, b2, b3, b4, b5⟩, c1, c2, c3, c4, c5, c6, c7, c8⟩ := h1
      have hml : fldN s 4 6 - 1 < (mon (yrN s)).length := by rw [mon_len]; omega
      rw [getD_mon _ _ hml] at c8
      have hy4 : yrN s < 10 ^ 4 := by
        obtain ⟨v, b, q, ql⟩ := numD_le (s.take 4) 4 (by simp; omega)
        unfold yrN; rw [q]; simpa using ql
      have hsum := sum_take_succ (mon (yrN s)) _ hml
      have hle := sum_take_le (mon (yrN s)) (fldN s 4 6 - 1 + 1)
      rw [mon_sum] at hle
      have hbs := bef_succ (yrN s) c1
      have hb2 := bef_mono (a := yrN s + 1) (b := 10000) (by omega) (by omega)
      rw [bef_10000] at hb2
      have ht : timN s = (bef (yrN s) + (((mon (yrN s)).take (fldN s 4 6 - 1)).sum + (fldN s 6 8 - 1))) * 86400 + (fldN s 8 10 * 3600 + fldN s 10 12 * 60 + fldN s 12 14) := by
        unfold timN; rw [show bef (yrN s) + fldN s 6 8 - 1 + ((mon (yrN s)).take (fldN s 4 6 - 1)).sum = bef (yrN s) + (((mon (yrN s)).take (fldN s 4 6 - 1)).sum + (fldN s 6 8 - 1)) by omega]; omega
      have hd : timN s / 86400 = bef (yrN s) + (((mon (yrN s)).take (fldN s 4 6 - 1)).sum + (fldN s 6 8 - 1)) := by omega
      have hr : timN s % 86400 = fldN s 8 10 * 3600 + fldN s 10 12 * 60 + fldN s 12 14 := by omega
      refine ⟨by simp only; omega, by simp only; omega, ?_⟩
      simp only [Int.toNat_natCast]
      rw [txt_is c1 hml (by omega) hd (by omega), hr, show fldN s 4 6 - 1 + 1 = fldN s 4 6 by omega, show fldN s 6 8 - 1 + 1 = fldN s 6 8 by omega,
        show (fldN s 8 10 * 3600 + fldN s 10 12 * 60 + fldN s 12 14) / 3600 = fldN s 8 10 by omega, show (fldN s 8 10 * 3600 + fldN s 10 12 * 60 + fldN s 12 14) / 60 % 60 = fldN s 10 12 by omega, show (fldN s 8 10 * 3600 + fldN s 10 12 * 60 + fldN s 12 14) % 60 = fldN s 12 14 by omega]
      rw [← seg_dg s 4 6 2 b1 (by simp; omega), ← seg_dg s 6 8 2 b2 (by simp; omega), ← seg_dg s 8 10 2 b3 (by simp; omega), ← seg_dg s 10 12 2 b4 (by simp; omega), ← seg_dg s 12 14 2 b5 (by simp; omega)]
      have hy : dg (yrN s) 4 = s.take 4 := by
        have := seg_dg s 0 4 4 b0 (by simp; omega)
        exact this.symm
      rw [hy, cat_take s 4 6 (by omega), cat_take s 6 8 (by omega), cat_take s 8 10 (by omega), cat_take s 10 12 (by omega), cat_take s 12 14 (by omega)]
      have h14 : 14 < s.length := by omega
      rw [List.getD_eq_getElem?_getD, List.getElem?_eq_getElem h14, Option.getD_some] at hz
      rw [← hz, List.take_append_getElem h14, List.take_of_length_le (by omega)]
    · cases h
  · cases h
theorem rd_bad (s : List UInt8) (h : ¬ (rdT s).2 = 0) : rdT s = (0, 5) := by
  unfold rdT at h ⊢
  split at h
  · rename_i h0
    rw [if_pos h0]
    split at h
    · exact absurd rfl h
    · rename_i h1; rw [if_neg h1]
  · rename_i h0; rw [if_neg h0]
end Go.Proofs.Ytogplpcamiicgaa
end
section
/- Times as texts: their order; the laws. -/
set_option linter.unusedSimpArgs false
set_option linter.unusedVariables false
namespace Go.Proofs.Ytogplpcamiicgaa
open Go.RowKit Go.Bo Go.Ab

theorem valD_cons (c : UInt8) (s : List UInt8) : valD (c :: s) = (c.toNat - 48) * 10 ^ s.length + valD s := by
  rw [valD, List.foldl_cons, valF]; simp
theorem bl_val : ∀ a b : List UInt8, a.length = b.length → a.all digB = true → b.all digB = true → Op.bytesLess a b = decide (valD a < valD b)
  | [], [], _, _, _ => by simp [Op.bytesLess]
  | [], _ :: _, h, _, _ => by simp at h
  | _ :: _, [], h, _, _ => by simp at h
  | a :: x, b :: y, h, ha, hb => by
    simp only [List.length_cons, Nat.add_right_cancel_iff] at h
    rw [List.all_cons, Bool.and_eq_true] at ha hb
    have ih := bl_val x y h ha.2 hb.2
    have h1 := valD_lt x ha.2
    have h2 := valD_lt y hb.2
    have ha1 := ha.1
    have hb1 := hb.1
    simp only [digB, Bool.and_eq_true, decide_eq_true_eq] at ha1 hb1
    rw [Op.bytesLess, ih, valD_cons, valD_cons, h]
    rw [h] at h1
    generalize hp : 10 ^ y.length = p at h1 h2 ⊢
    rw [Bool.eq_iff_iff]
    simp only [Bool.or_eq_true, Bool.and_eq_true, decide_eq_true_eq, beq_iff_eq]
    have hlt : (a < b) ↔ a.toNat < b.toNat := UInt8.lt_iff_toNat_lt
    have heq : (a = b) ↔ a.toNat = b.toNat := UInt8.toNat_inj.symm
    rw [hlt, heq]
    rcases Nat.lt_trichotomy a.toNat b.toNat with q | q | q
    · have : (a.toNat - 48 + 1) * p ≤ (b.toNat - 48) * p := Nat.mul_le_mul_right _ (by omega)
      rw [Nat.add_mul] at this
      constructor
      · intro _; omega
      · intro _; exact .inl q
    · rw [q]
      constructor
      · rintro (k | k)
        · omega
        · omega
      · intro k; exact .inr ⟨rfl, by omega⟩
    · have : (b.toNat - 48 + 1) * p ≤ (a.toNat - 48) * p := Nat.mul_le_mul_right _ (by omega)
      rw [Nat.add_mul] at this
      constructor
      · rintro (k | k) <;> omega
      · intro k; omega
theorem bl_app (z : UInt8) : ∀ a b : List UInt8, a.length = b.length → Op.bytesLess (a ++ [z]) (b ++ [z]) = Op.bytesLess a b
  | [], [], _ => by simp [Op.bytesLess]
  | [], _ :: _, h => by simp at h
  | _ :: _, [], h => by simp at h
  | a :: x, b :: y, h => by
    rw [List.cons_append, List.cons_append, Op.bytesLess, Op.bytesLess, bl_app z x y (by simpa using h)]
/-- A time's digits. -/
def dig14 (n : Nat) : List UInt8 := dg (yearOf (n / 86400)) 4 ++ dg ((cut (mon (yearOf (n / 86400))) (n / 86400 - bef (yearOf (n / 86400)))).1 + 1) 2 ++ dg ((cut (mon (yearOf (n / 86400))) (n / 86400 - bef (yearOf (n / 86400)))).2 + 1) 2 ++ dg (n % 86400 / 3600) 2 ++ dg (n % 86400 / 60 % 60) 2 ++ dg (n % 86400 % 60) 2
theorem txt_dig (n : Nat) : txt n = dig14 n ++ [90] := rfl
theorem dig14_len (n : Nat) : (dig14 n).length = 14 := by simp only [dig14, List.length_append, dg_len]
theorem dig14_all (n : Nat) : (dig14 n).all digB = true := by simp only [dig14, List.all_append, dg_dig, Bool.and_self]
/-- A day's number. -/
def dayV (d : Nat) : Nat := (yearOf d * 100 + ((cut (mon (yearOf d)) (d - bef (yearOf d))).1 + 1)) * 100 + ((cut (mon (yearOf d)) (d - bef (yearOf d))).2 + 1)
theorem dig14_val (n : Nat) (hn : n ≤ 253402300799) : valD (dig14 n) = ((dayV (n / 86400) * 100 + n % 86400 / 3600) * 100 + n % 86400 / 60 % 60) * 100 + n % 86400 % 60 := by
  obtain ⟨h1, h2, h3⟩ := yearOf_ok (n / 86400)
  have h4 := year_le h1 h2 (by omega)
  rw [bef_succ _ h1] at h3
  obtain ⟨k1, k2, k3⟩ := cut_ok (mon (yearOf (n / 86400))) (n / 86400 - bef (yearOf (n / 86400))) (by rw [mon_sum]; omega)
  have k4 := mon_le _ _ k1
  rw [mon_len] at k1
  simp only [dig14, valD_app, dg_len]
  rw [dg_val _ 4 (by omega), dg_val _ 2 (by omega), dg_val _ 2 (by omega), dg_val _ 2 (by omega), dg_val _ 2 (by omega), dg_val _ 2 (by omega)]
  rfl
theorem dayV_lt {a b : Nat} (h : a < b) : dayV a < dayV b := by
  have hm := yearOf_mono (Nat.le_of_lt h)
  obtain ⟨h1, h2, h3⟩ := yearOf_ok a
  obtain ⟨g1, g2, g3⟩ := yearOf_ok b
  rw [bef_succ _ h1] at h3
  rw [bef_succ _ g1] at g3
  obtain ⟨k1, k2, k3⟩ := cut_ok (mon (yearOf a)) (a - bef (yearOf a)) (by rw [mon_sum]; omega)
  have k4 := mon_le _ _ k1
  rw [mon_len] at k1
  unfold dayV
  rcases Nat.lt_or_ge (yearOf a) (yearOf b) with q | q
  · omega
  · have e : yearOf a = yearOf b := by omega
    rw [← e] at g2 g3 ⊢
    have := cut_lt (mon (yearOf a)) (a - bef (yearOf a)) (b - bef (yearOf a)) (by omega) (by rw [mon_sum]; omega)
    rcases this with t | ⟨t1, t2⟩ <;> omega
theorem two_lt {a b : Nat} (h : a < b) : a / 60 < b / 60 ∨ a / 60 = b / 60 ∧ a % 60 < b % 60 := by omega
theorem day_lt (D a b : Nat) (h : a < b) (hb : b < 86400) : ((D * 100 + a / 3600) * 100 + a / 60 % 60) * 100 + a % 60 < ((D * 100 + b / 3600) * 100 + b / 60 % 60) * 100 + b % 60 := by
  have e1 : a / 3600 = a / 60 / 60 := (Nat.div_div_eq_div_mul a 60 60).symm
  have e2 : b / 3600 = b / 60 / 60 := (Nat.div_div_eq_div_mul b 60 60).symm
  have m1 : a / 60 % 60 < 60 := Nat.mod_lt _ (by omega)
  have m2 : b / 60 % 60 < 60 := Nat.mod_lt _ (by omega)
  have m3 : a % 60 < 60 := Nat.mod_lt _ (by omega)
  have m4 : b % 60 < 60 := Nat.mod_lt _ (by omega)
  rw [e1, e2]
  rcases two_lt h with k | ⟨k, k'⟩
  · rcases two_lt k with q | ⟨q, q'⟩
    · generalize a / 60 / 60 = A at *; generalize b / 60 / 60 = B at *; generalize a / 60 % 60 = A1 at *; generalize b / 60 % 60 = B1 at *; generalize a % 60 = A2 at *; generalize b % 60 = B2 at *
      omega
    · rw [q]; generalize b / 60 / 60 = B at *; generalize a / 60 % 60 = A1 at *; generalize b / 60 % 60 = B1 at *; generalize a % 60 = A2 at *; generalize b % 60 = B2 at *
      omega
  · rw [k]; omega
theorem dig14_lt {m n : Nat} (hn : n ≤ 253402300799) (h : m < n) : valD (dig14 m) < valD (dig14 n) := by
  rw [dig14_val n hn, dig14_val m (by omega)]
  rcases Nat.lt_or_ge (m / 86400) (n / 86400) with q | q
  · have := dayV_lt q
    omega
  · have e : m / 86400 = n / 86400 := by omega
    rw [e]
    exact day_lt _ _ _ (by omega) (by omega)
theorem txt_less (m n : Nat) (hm : m ≤ 253402300799) (hn : n ≤ 253402300799) : Op.bytesLess (txt m) (txt n) = decide (m < n) := by
  rw [txt_dig, txt_dig, bl_app _ _ _ (by rw [dig14_len, dig14_len]), bl_val _ _ (by rw [dig14_len, dig14_len]) (dig14_all m) (dig14_all n), Bool.eq_iff_iff]
  simp only [decide_eq_true_eq]
  rcases Nat.lt_trichotomy m n with q | q | q
  · have := dig14_lt hn q; omega
  · subst q; omega
  · have := dig14_lt hm q; omega
theorem txt_same (m n : Nat) (hm : m ≤ 253402300799) (hn : n ≤ 253402300799) : txt m = txt n ↔ m = n := by
  constructor
  · intro h
    have h1 := rd_txt m hm
    rw [h, rd_txt n hn] at h1
    simp only [Prod.mk.injEq, and_true] at h1
    omega
  · rintro rfl; rfl
def tabSt7 : Tabs := addQ (addQ (noTabs) 28 putTG) 31 rdTG
theorem tabSt7_ok : SsOk Try.prog tabSt7 := addQ_ok (addQ_ok (noTabs_ok) (G_enters G_ok (p := i28) rfl) putTG_ok) (G_enters G_ok (p := i31) rfl) rdTG_ok
theorem tabSt7_q28 (a : List D) : tabSt7.q 28 a = putTG a := rfl
theorem tabSt7_q31 (a : List D) : tabSt7.q 31 a = rdTG a := rfl
theorem tabSt7_r (f : FuncId) (a : List D) (o : List Ob) : tabSt7.r f a o = none := rfl
theorem tabSt7_k (f : FuncId) (a : List D) (o : List Ob) : tabSt7.k f a o = none := rfl
theorem awake36_c : PCalls Try.prog 30 [] (.x (.bool true)) := by
  refine FCalls.pure (fcallsG (fz := true) G_ok (p := i30) rfl _ (Nat.le_of_ble_eq_true rfl) _ (fun C0 E0 => ?_)) rfl
  dsimp only [i30, argsφ]
  have uu := And.intro @putTG.eq_1 (And.intro @putTG.eq_2 (And.intro @rdTG.eq_1 (And.intro @rdTG.eq_2 (And.intro @s36a (And.intro @s36b (And.intro @s36c (And.intro @s36d (And.intro @s36e (And.intro @tabSt7_r (And.intro @tabSt7_k (And.intro @tabSt7_q28 (@tabSt7_q31))))))))))))
  refine WI.seq ?_
  refine WI.regB tabSt7_ok [] ?_
  refine oS ?_
  refine oN ?_
  refine thenQ_normal ?_
  refine WI.seq ?_
  refine WI.regB tabSt7_ok [1, 2] ?_
  refine oC ?_
  refine oS ?_
  iterate 2 refine oG ?_
  iterate 2 refine oS ?_
  refine oN ?_
  refine thenQ_normal ?_
  refine WI.seq ?_
  refine WI.regB tabSt7_ok [1, 2, 3] ?_
  refine oC ?_
  refine oS ?_
  iterate 2 refine oG ?_
  iterate 2 refine oS ?_
  refine oN ?_
  refine thenQ_normal ?_
  refine WI.seq ?_
  refine WI.regB tabSt7_ok [1, 2, 3, 5, 6] ?_
  refine oC ?_
  refine oS ?_
  iterate 2 refine oG ?_
  iterate 2 refine oS ?_
  refine oN ?_
  refine thenQ_normal ?_
  refine WI.seq ?_
  refine WI.regB tabSt7_ok [1, 2, 3, 5, 6, 8] ?_
  refine oC ?_
  refine oS ?_
  iterate 2 refine oG ?_
  iterate 2 refine oS ?_
  refine oN ?_
  refine thenQ_normal ?_
  refine WI.seq ?_
  refine WI.regB tabSt7_ok [1, 2, 3, 5, 6, 8, 10] ?_
  refine oC ?_
  refine oS ?_
  iterate 2 refine oG ?_
  iterate 2 refine oS ?_
  refine oN ?_
  refine thenQ_normal ?_
  refine WI.seq ?_
  refine WI.regB tabSt7_ok [0] ?_
  refine oS ?_
  refine oG ?_
  refine oS ?_
  iterate 3 refine oG ?_
  refine oS ?_
  iterate 3 refine oG ?_
  refine oS ?_
  iterate 3 refine oG ?_
  refine oS ?_
  iterate 3 refine oG ?_
  refine oS ?_
  iterate 3 refine oG ?_
  refine oS ?_
  iterate 3 refine oG ?_
  refine oS ?_
  refine oN ?_
  refine thenQ_normal ?_
  refine WI.ret ?_
  first | refine lfR ?_ | refine lfR2 ?_
  first | rfl | exact ⟨rfl, rfl⟩ | trivial -- leaf 0
def awake36G : List D → Option (Bool × D)
  | [] => some (true, .x (.bool true))
  | _ => none
theorem awake36G_ok : ∀ args r, awake36G args = some (true, r) → PCalls Try.prog 30 args r := by
  intro args r h
  unfold awake36G at h
  split at h
  · simp only [Option.some.injEq, Prod.mk.injEq, Bool.and_eq_true, decide_eq_true_eq, true_and] at h
    obtain rfl := h
    exact awake36_c 
  · cases h
def tabSt8 : Tabs := addQ (addQ (addQ (addQ (noTabs) 28 putTG) 31 rdTG) 29 putTRG) 30 awake36G
theorem tabSt8_ok : SsOk Try.prog tabSt8 := addQ_ok (addQ_ok (addQ_ok (addQ_ok (noTabs_ok) (G_enters G_ok (p := i28) rfl) putTG_ok) (G_enters G_ok (p := i31) rfl) rdTG_ok) (G_enters G_ok (p := i29) rfl) putTRG_ok) (G_enters G_ok (p := i30) rfl) awake36G_ok
theorem tabSt8_q28 (a : List D) : tabSt8.q 28 a = putTG a := rfl
theorem tabSt8_q31 (a : List D) : tabSt8.q 31 a = rdTG a := rfl
theorem tabSt8_q29 (a : List D) : tabSt8.q 29 a = putTRG a := rfl
theorem tabSt8_q30 (a : List D) : tabSt8.q 30 a = awake36G a := rfl
theorem tabSt8_r (f : FuncId) (a : List D) (o : List Ob) : tabSt8.r f a o = none := rfl
theorem tabSt8_k (f : FuncId) (a : List D) (o : List Ob) : tabSt8.k f a o = none := rfl
theorem stampPuts_c (n : Int) : PCalls Try.prog 9 [.x (.int .i64 n)] (.x (.bool true)) := by
  by_cases h : 0 ≤ n ∧ n ≤ 253402300799
  · have h1 : putT n = (txt n.toNat, 0) := by rw [putT, if_pos h]
    have h2 : decide (0 ≤ n ∧ n ≤ 253402300799) = true := decide_eq_true h
    refine FCalls.pure (fcallsG (fz := true) G_ok (p := i9) rfl _ (Nat.le_of_ble_eq_true rfl) _ (fun C0 E0 => ?_)) rfl
    dsimp only [i9, argsφ]
    have uu := And.intro @putTG.eq_1 (And.intro @putTG.eq_2 (And.intro @putTRG.eq_1 (And.intro @putTRG.eq_2 (And.intro @awake36G.eq_1 (And.intro @awake36G.eq_2 (And.intro h1 (And.intro h2 (And.intro @tabSt8_r (And.intro @tabSt8_k (And.intro @tabSt8_q28 (And.intro @tabSt8_q29 (And.intro @tabSt8_q30 (And.intro @tabSt8_q31 (And.intro @rdTG.eq_1 (@rdTG.eq_2)))))))))))))))
    refine WI.seq ?_
    refine WI.regB tabSt8_ok [0] ?_
    refine oS ?_
    refine oN ?_
    refine thenQ_normal ?_
    refine WI.seq ?_
    refine WI.regB tabSt8_ok [0, 3, 4] ?_
    refine oS ?_
    refine oC ?_
    refine oS ?_
    iterate 2 refine oG ?_
    iterate 2 refine oS ?_
    refine oN ?_
    refine thenQ_normal ?_
    refine WI.seq ?_
    refine WI.regB tabSt8_ok [3, 4, 5, 6] ?_
    refine oS ?_
    refine oC ?_
    refine oS ?_
    iterate 2 refine oG ?_
    iterate 2 refine oS ?_
    refine oN ?_
    refine thenQ_normal ?_
    refine WI.seq ?_
    refine WI.regB tabSt8_ok [2] ?_
    iterate 2 refine oS ?_
    refine oG ?_
    refine oS ?_
    iterate 5 refine oG ?_
    refine oS ?_
    iterate 6 refine oG ?_
    refine oS ?_
    refine oC ?_
    refine oG ?_
    refine oS ?_
    refine oN ?_
    refine thenQ_normal ?_
    refine WI.ret ?_
    first | refine lfR ?_ | refine lfR2 ?_
    first | rfl | exact ⟨rfl, rfl⟩ | trivial -- leaf 0
  · have h1 : putT n = ([], 2) := by rw [putT, if_neg h]
    have h2 : decide (0 ≤ n ∧ n ≤ 253402300799) = false := decide_eq_false h
    refine FCalls.pure (fcallsG (fz := true) G_ok (p := i9) rfl _ (Nat.le_of_ble_eq_true rfl) _ (fun C0 E0 => ?_)) rfl
    dsimp only [i9, argsφ]
    have uu := And.intro @putTG.eq_1 (And.intro @putTG.eq_2 (And.intro @putTRG.eq_1 (And.intro @putTRG.eq_2 (And.intro @awake36G.eq_1 (And.intro @awake36G.eq_2 (And.intro h1 (And.intro h2 (And.intro @tabSt8_r (And.intro @tabSt8_k (And.intro @tabSt8_q28 (And.intro @tabSt8_q29 (And.intro @tabSt8_q30 (And.intro @tabSt8_q31 (And.intro @rdTG.eq_1 (@rdTG.eq_2)))))))))))))))
    refine WI.seq ?_
    refine WI.regB tabSt8_ok [0] ?_
    refine oS ?_
    refine oN ?_
    refine thenQ_normal ?_
    refine WI.seq ?_
    refine WI.regB tabSt8_ok [0, 3, 4] ?_
    refine oS ?_
    refine oC ?_
    refine oS ?_
    iterate 2 refine oG ?_
    iterate 2 refine oS ?_
    refine oN ?_
    refine thenQ_normal ?_
    refine WI.seq ?_
    refine WI.regB tabSt8_ok [3, 4, 5, 6] ?_
    refine oS ?_
    refine oC ?_
    refine oS ?_
    iterate 2 refine oG ?_
    iterate 2 refine oS ?_
    refine oN ?_
    refine thenQ_normal ?_
    refine WI.seq ?_
    refine WI.regB tabSt8_ok [2] ?_
    iterate 2 refine oS ?_
    refine oG ?_
    refine oS ?_
    iterate 5 refine oG ?_
    refine oS ?_
    iterate 6 refine oG ?_
    refine oS ?_
    refine oC ?_
    refine oG ?_
    refine oS ?_
    refine oN ?_
    refine thenQ_normal ?_
    refine WI.ret ?_
    first | refine lfR ?_ | refine lfR2 ?_
    first | rfl | exact ⟨rfl, rfl⟩ | trivial -- leaf 0
theorem putT_ok (k : Nat) (h : k ≤ 253402300799) : putT (k : Int) = (txt k, 0) := by rw [putT, if_pos (by omega), Int.toNat_natCast]
theorem tm_u (k : Nat) : ((k : Int)).tmod 253402300800 = ((k % 253402300800 : Nat) : Int) := (Int.ofNat_tmod k 253402300800).symm
theorem stampBack_c (n : Int) (hn : 0 ≤ n ∧ n ≤ 18446744073709551615) (s : List UInt8) : PCalls Try.prog 10 [.x (.int .u64 n), .x (.str s)] (.x (.bool true)) := by
  obtain ⟨k, rfl⟩ := Int.eq_ofNat_of_zero_le hn.1
  have hk : k % 253402300800 ≤ 253402300799 := by omega
  have h1 := putT_ok _ hk
  have h2 := rd_txt _ hk
  by_cases hr : (rdT s).2 = 0
  · obtain ⟨k1, k2, k3⟩ := put_rd s hr
    have h6 : rdT s = ((rdT s).1, 0) := Prod.ext rfl hr
    generalize (rdT s).1 = t at k1 k2 k3 h6
    have h7 : putT t = (s, 0) := by rw [putT, if_pos ⟨k1, k2⟩, k3]
    have h8 : decide (0 ≤ t ∧ t ≤ 253402300799) = true := decide_eq_true ⟨k1, k2⟩
    clear hr k3
    refine FCalls.pure (fcallsG (fz := true) G_ok (p := i10) rfl _ (Nat.le_of_ble_eq_true rfl) _ (fun C0 E0 => ?_)) rfl
    dsimp only [i10, argsφ]
    have uu := And.intro @putTG.eq_1 (And.intro @putTG.eq_2 (And.intro @putTRG.eq_1 (And.intro @putTRG.eq_2 (And.intro @rdTG.eq_1 (And.intro @rdTG.eq_2 (And.intro @awake36G.eq_1 (And.intro @awake36G.eq_2 (And.intro @tm_u (And.intro h1 (And.intro h2 (And.intro h6 (And.intro h7 (And.intro h8 (And.intro @tabSt8_r (And.intro @tabSt8_k (And.intro @tabSt8_q28 (And.intro @tabSt8_q29 (And.intro @tabSt8_q30 (@tabSt8_q31)))))))))))))))))))
    refine WI.seq ?_
    refine WI.regB tabSt8_ok [0, 1] ?_
    refine oS ?_
    refine oN ?_
    refine thenQ_normal ?_
    refine WI.seq ?_
    refine WI.seq ?_
    refine WI.regB tabSt8_ok [0, 1, 16] ?_
    refine oS ?_
    iterate 2 refine oG ?_
    refine oN ?_
    refine thenQ_normal ?_
    refine WI.cond (b := _) rfl rfl (fun h0 => ?_) (fun h0 => ?_)
    · try simp only [zB] at h0
      refine WI.seq ?_
      refine WI.regB tabSt8_ok [4] ?_
      refine oC ?_
      refine oS ?_
      refine oN ?_
      refine thenQ_normal ?_
      refine WI.ret ?_
      refine thenQ_ret ?_
      first | refine lfR ?_ | refine lfR2 ?_
      first | rfl | exact ⟨rfl, rfl⟩ | trivial -- leaf 0
    · try simp only [zB] at h0
      refine WI.skip ?_
      refine thenQ_normal ?_
      refine WI.seq ?_
      refine WI.regB tabSt8_ok [1, 5] ?_
      refine oS ?_
      iterate 2 refine oG ?_
      refine oS ?_
      refine oN ?_
      refine thenQ_normal ?_
      refine WI.seq ?_
      refine WI.regB tabSt8_ok [1, 5, 6, 7] ?_
      refine oS ?_
      refine oC ?_
      refine oS ?_
      iterate 2 refine oG ?_
      iterate 2 refine oS ?_
      refine oN ?_
      refine thenQ_normal ?_
      refine WI.seq ?_
      refine WI.regB tabSt8_ok [1, 5, 7, 8, 9] ?_
      refine oS ?_
      refine oC ?_
      refine oS ?_
      iterate 2 refine oG ?_
      iterate 2 refine oS ?_
      refine oN ?_
      refine thenQ_normal ?_
      refine WI.seq ?_
      refine WI.regB tabSt8_ok [1, 5, 7, 8, 9, 10, 11] ?_
      refine oS ?_
      refine oC ?_
      refine oS ?_
      iterate 2 refine oG ?_
      iterate 2 refine oS ?_
      refine oN ?_
      refine thenQ_normal ?_
      refine WI.seq ?_
      refine WI.regB tabSt8_ok [1, 5, 7, 8, 9, 10, 11, 12, 13] ?_
      refine oS ?_
      refine oC ?_
      refine oS ?_
      iterate 2 refine oG ?_
      iterate 2 refine oS ?_
      refine oN ?_
      refine thenQ_normal ?_
      refine WI.seq ?_
      refine WI.regB tabSt8_ok [4] ?_
      refine oS ?_
      refine oG ?_
      refine oS ?_
      iterate 4 refine oG ?_
      refine oS ?_
      iterate 3 refine oG ?_
      refine oS ?_
      iterate 19 refine oG ?_
      refine oS ?_
      refine oC ?_
      refine oG ?_
      refine oS ?_
      refine oN ?_
      refine thenQ_normal ?_
      refine WI.ret ?_
      first | refine lfR ?_ | refine lfR2 ?_
      simp -- leaf 1
  · have h6 := rd_bad s hr
    refine FCalls.pure (fcallsG (fz := true) G_ok (p := i10) rfl _ (Nat.le_of_ble_eq_true rfl) _ (fun C0 E0 => ?_)) rfl
    dsimp only [i10, argsφ]
    have uu := And.intro @putTG.eq_1 (And.intro @putTG.eq_2 (And.intro @putTRG.eq_1 (And.intro @putTRG.eq_2 (And.intro @rdTG.eq_1 (And.intro @rdTG.eq_2 (And.intro @awake36G.eq_1 (And.intro @awake36G.eq_2 (And.intro @tm_u (And.intro h1 (And.intro h2 (And.intro h6 (And.intro @tabSt8_r (And.intro @tabSt8_k (And.intro @tabSt8_q28 (And.intro @tabSt8_q29 (And.intro @tabSt8_q30 (@tabSt8_q31)))))))))))))))))
    refine WI.seq ?_
    refine WI.regB tabSt8_ok [0, 1] ?_
    refine oS ?_
    refine oN ?_
    refine thenQ_normal ?_
    refine WI.seq ?_
    refine WI.seq ?_
    refine WI.regB tabSt8_ok [0, 1, 16] ?_
    refine oS ?_
    iterate 2 refine oG ?_
    refine oN ?_
    refine thenQ_normal ?_
    refine WI.cond (b := _) rfl rfl (fun h0 => ?_) (fun h0 => ?_)
    · try simp only [zB] at h0
      refine WI.seq ?_
      refine WI.regB tabSt8_ok [4] ?_
      refine oC ?_
      refine oS ?_
      refine oN ?_
      refine thenQ_normal ?_
      refine WI.ret ?_
      refine thenQ_ret ?_
      first | refine lfR ?_ | refine lfR2 ?_
      first | rfl | exact ⟨rfl, rfl⟩ | trivial -- leaf 0
    · try simp only [zB] at h0
      refine WI.skip ?_
      refine thenQ_normal ?_
      refine WI.seq ?_
      refine WI.regB tabSt8_ok [1, 5] ?_
      refine oS ?_
      iterate 2 refine oG ?_
      refine oS ?_
      refine oN ?_
      refine thenQ_normal ?_
      refine WI.seq ?_
      refine WI.regB tabSt8_ok [1, 5, 6, 7] ?_
      refine oS ?_
      refine oC ?_
      refine oS ?_
      iterate 2 refine oG ?_
      iterate 2 refine oS ?_
      refine oN ?_
      refine thenQ_normal ?_
      refine WI.seq ?_
      refine WI.regB tabSt8_ok [1, 5, 7, 8, 9] ?_
      refine oS ?_
      refine oC ?_
      refine oS ?_
      iterate 2 refine oG ?_
      iterate 2 refine oS ?_
      refine oN ?_
      refine thenQ_normal ?_
      refine WI.seq ?_
      refine WI.regB tabSt8_ok [1, 5, 7, 8, 9, 10, 11] ?_
      refine oS ?_
      refine oC ?_
      refine oS ?_
      iterate 2 refine oG ?_
      iterate 2 refine oS ?_
      refine oN ?_
      refine thenQ_normal ?_
      refine WI.seq ?_
      refine WI.regB tabSt8_ok [1, 5, 7, 8, 9, 10, 11, 12, 13] ?_
      refine oS ?_
      refine oC ?_
      refine oS ?_
      iterate 2 refine oG ?_
      iterate 2 refine oS ?_
      refine oN ?_
      refine thenQ_normal ?_
      refine WI.seq ?_
      refine WI.regB tabSt8_ok [4] ?_
      refine oS ?_
      refine oG ?_
      refine oS ?_
      iterate 4 refine oG ?_
      refine oS ?_
      iterate 3 refine oG ?_
      refine oS ?_
      iterate 19 refine oG ?_
      refine oS ?_
      refine oC ?_
      refine oG ?_
      refine oS ?_
      refine oN ?_
      refine thenQ_normal ?_
      refine WI.ret ?_
      first | refine lfR ?_ | refine lfR2 ?_
      simp -- leaf 1
theorem stampOrder_c (m n : Int) (hm : 0 ≤ m ∧ m ≤ 18446744073709551615) (hn : 0 ≤ n ∧ n ≤ 18446744073709551615) : PCalls Try.prog 11 [.x (.int .u64 m), .x (.int .u64 n)] (.x (.bool true)) := by
  obtain ⟨j, rfl⟩ := Int.eq_ofNat_of_zero_le hm.1
  obtain ⟨k, rfl⟩ := Int.eq_ofNat_of_zero_le hn.1
  have hj : j % 253402300800 ≤ 253402300799 := by omega
  have hk : k % 253402300800 ≤ 253402300799 := by omega
  have h1 := putT_ok _ hj
  have h2 := putT_ok _ hk
  have h3 := txt_less _ _ hj hk
  have h4 := txt_same _ _ hj hk
  have h5 := txt_len (j % 253402300800)
  refine FCalls.pure (fcallsG (fz := true) G_ok (p := i11) rfl _ (Nat.le_of_ble_eq_true rfl) _ (fun C0 E0 => ?_)) rfl
  dsimp only [i11, argsφ]
  have uu := And.intro @putTG.eq_1 (And.intro @putTG.eq_2 (And.intro @awake36G.eq_1 (And.intro @awake36G.eq_2 (And.intro @tm_u (And.intro h1 (And.intro h2 (And.intro h3 (And.intro h5 (And.intro @tabSt8_r (And.intro @tabSt8_k (And.intro @tabSt8_q28 (And.intro @tabSt8_q29 (And.intro @tabSt8_q30 (And.intro @tabSt8_q31 (And.intro @putTRG.eq_1 (And.intro @putTRG.eq_2 (And.intro @rdTG.eq_1 (@rdTG.eq_2))))))))))))))))))
  refine WI.seq ?_
  refine WI.regB tabSt8_ok [0, 1] ?_
  refine oS ?_
  refine oN ?_
  refine thenQ_normal ?_
  refine WI.seq ?_
  refine WI.regB tabSt8_ok [5, 6] ?_
  refine oS ?_
  iterate 2 refine oG ?_
  refine oS ?_
  iterate 2 refine oG ?_
  iterate 2 refine oS ?_
  refine oN ?_
  refine thenQ_normal ?_
  refine WI.seq ?_
  refine WI.regB tabSt8_ok [5, 6, 7, 8] ?_
  refine oS ?_
  refine oC ?_
  refine oS ?_
  iterate 2 refine oG ?_
  iterate 2 refine oS ?_
  refine oN ?_
  refine thenQ_normal ?_
  refine WI.seq ?_
  refine WI.regB tabSt8_ok [5, 6, 7, 8, 9, 10] ?_
  refine oS ?_
  refine oC ?_
  refine oS ?_
  iterate 2 refine oG ?_
  iterate 2 refine oS ?_
  refine oN ?_
  refine thenQ_normal ?_
  refine WI.seq ?_
  refine WI.regB tabSt8_ok [4] ?_
  refine oS ?_
  refine oG ?_
  refine oS ?_
  iterate 3 refine oG ?_
  refine oS ?_
  iterate 4 refine oG ?_
  refine oS ?_
  iterate 8 refine oG ?_
  refine oS ?_
  iterate 8 refine oG ?_
  refine oS ?_
  refine oC ?_
  refine oG ?_
  refine oS ?_
  refine oN ?_
  refine thenQ_normal ?_
  refine WI.ret ?_
  first | refine lfR ?_ | refine lfR2 ?_
  clear h1 h2 uu
  generalize j % 253402300800 = a at h3 h4 h5 hj ⊢
  generalize k % 253402300800 = b at h3 h4 hk ⊢
  have e1 : ((a : Int) == (b : Int)) = (txt a == txt b) := by rw [Bool.eq_iff_iff]; simp only [beq_iff_eq, h4]; omega
  have e2 : decide ((a : Int) < (b : Int)) = decide (a < b) := by rw [Bool.eq_iff_iff]; simp only [decide_eq_true_eq]; omega
  rw [e1, e2]; simp -- leaf 0
end Go.Proofs.Ytogplpcamiicgaa
end
