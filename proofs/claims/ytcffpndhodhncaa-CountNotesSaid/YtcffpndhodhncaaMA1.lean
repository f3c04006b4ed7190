/- MA1: Ct1, Ct2, Ct3, Low, R5, R10a, R10b, Ct4, Grow, Cont. -/
import Derived.Test.YtcffpndhodhncaaLA4
import Derived.Test.YtcffpndhodhncaaIc
import Derived.Shelf.Spec.SlicesGrow
import Derived.Test.YtcffpndhodhncaaSh
section
/- Count: told, New, Of, Codes, Note, digits. -/
set_option linter.unusedSimpArgs false
set_option linter.unusedVariables false
namespace Go.Proofs.Ytcffpndhodhncaa
open Go.RowKit Go.Bo Go.Ab

def tldB (k : Int) : Bool := decide (k = 1 ∨ k = 5 ∨ k = 7 ∨ k = 9 ∨ k = 11 ∨ k = 13 ∨ k = 15 ∨ k = 24)
theorem told_c (k : Int) : PCalls Try.prog 52 [.x (.int .i64 k)] (.x (.bool (tldB k))) := by
  refine FCalls.pure (fcallsG (fz := true) G_ok (p := i52) rfl _ (Nat.le_of_ble_eq_true rfl) _ (fun C0 E0 => ?_)) rfl
  dsimp only [i52, argsφ]
  have uu := trivial
  refine WI.seq ?_
  refine WI.regB noTabs_ok [0] ?_
  refine oS ?_
  refine oN ?_
  refine thenQ_normal ?_
  refine WI.seq ?_
  refine WI.seq ?_
  refine WI.regB noTabs_ok [3] ?_
  refine oS ?_
  refine oN ?_
  refine thenQ_normal ?_
  refine WI.block ?_
  refine WI.seq ?_
  refine WI.seq ?_
  refine WI.regB noTabs_ok [3, 4] ?_
  refine oG ?_
  refine oS ?_
  refine oN ?_
  refine thenQ_normal ?_
  refine WI.cond (b := _) rfl rfl (fun h0 => ?_) (fun h0 => ?_)
  · try simp only [zB] at h0
    refine WI.skip ?_
    refine thenQ_normal ?_
    refine WI.cond (b := _) rfl rfl (fun h7 => ?_) (fun h7 => ?_)
    · try simp only [zB] at h7
      refine WI.seq ?_
      refine WI.regB noTabs_ok [2] ?_
      refine oS ?_
      refine oN ?_
      refine thenQ_normal ?_
      refine WI.ret ?_
      refine blockQ_ret ?_
      refine thenQ_ret ?_
      first | refine lfR ?_ | refine lfR2 ?_
      first | (exfalso; omega) | rw [show tldB k = true from decide_eq_true (by omega)] | rw [show tldB k = false from decide_eq_false (by omega)] -- leaf 0
    · try simp only [zB] at h7
      refine WI.skip ?_
      refine blockQ_normal ?_
      refine thenQ_normal ?_
      refine WI.seq ?_
      refine WI.regB noTabs_ok [2] ?_
      refine oS ?_
      refine oN ?_
      refine thenQ_normal ?_
      refine WI.ret ?_
      first | refine lfR ?_ | refine lfR2 ?_
      first | (exfalso; omega) | rw [show tldB k = true from decide_eq_true (by omega)] | rw [show tldB k = false from decide_eq_false (by omega)] -- leaf 1
  · try simp only [zB] at h0
    refine WI.seq ?_
    refine WI.regB noTabs_ok [3, 4] ?_
    refine oG ?_
    refine oS ?_
    refine oN ?_
    refine thenQ_normal ?_
    refine WI.cond (b := _) rfl rfl (fun h1 => ?_) (fun h1 => ?_)
    · try simp only [zB] at h1
      refine WI.skip ?_
      refine thenQ_normal ?_
      refine WI.cond (b := _) rfl rfl (fun h7 => ?_) (fun h7 => ?_)
      · try simp only [zB] at h7
        refine WI.seq ?_
        refine WI.regB noTabs_ok [2] ?_
        refine oS ?_
        refine oN ?_
        refine thenQ_normal ?_
        refine WI.ret ?_
        refine blockQ_ret ?_
        refine thenQ_ret ?_
        first | refine lfR ?_ | refine lfR2 ?_
        first | (exfalso; omega) | rw [show tldB k = true from decide_eq_true (by omega)] | rw [show tldB k = false from decide_eq_false (by omega)] -- leaf 2
      · try simp only [zB] at h7
        refine WI.skip ?_
        refine blockQ_normal ?_
        refine thenQ_normal ?_
        refine WI.seq ?_
        refine WI.regB noTabs_ok [2] ?_
        refine oS ?_
        refine oN ?_
        refine thenQ_normal ?_
        refine WI.ret ?_
        first | refine lfR ?_ | refine lfR2 ?_
        first | (exfalso; omega) | rw [show tldB k = true from decide_eq_true (by omega)] | rw [show tldB k = false from decide_eq_false (by omega)] -- leaf 3
    · try simp only [zB] at h1
      refine WI.seq ?_
      refine WI.regB noTabs_ok [3, 4] ?_
      refine oG ?_
      refine oS ?_
      refine oN ?_
      refine thenQ_normal ?_
      refine WI.cond (b := _) rfl rfl (fun h2 => ?_) (fun h2 => ?_)
      · try simp only [zB] at h2
        refine WI.skip ?_
        refine thenQ_normal ?_
        refine WI.cond (b := _) rfl rfl (fun h7 => ?_) (fun h7 => ?_)
        · try simp only [zB] at h7
          refine WI.seq ?_
          refine WI.regB noTabs_ok [2] ?_
          refine oS ?_
          refine oN ?_
          refine thenQ_normal ?_
          refine WI.ret ?_
          refine blockQ_ret ?_
          refine thenQ_ret ?_
          first | refine lfR ?_ | refine lfR2 ?_
          first | (exfalso; omega) | rw [show tldB k = true from decide_eq_true (by omega)] | rw [show tldB k = false from decide_eq_false (by omega)] -- leaf 4
        · try simp only [zB] at h7
          refine WI.skip ?_
          refine blockQ_normal ?_
          refine thenQ_normal ?_
          refine WI.seq ?_
          refine WI.regB noTabs_ok [2] ?_
          refine oS ?_
          refine oN ?_
          refine thenQ_normal ?_
          refine WI.ret ?_
          first | refine lfR ?_ | refine lfR2 ?_
          first | (exfalso; omega) | rw [show tldB k = true from decide_eq_true (by omega)] | rw [show tldB k = false from decide_eq_false (by omega)] -- leaf 5
      · try simp only [zB] at h2
        refine WI.seq ?_
        refine WI.regB noTabs_ok [3, 4] ?_
        refine oG ?_
        refine oS ?_
        refine oN ?_
        refine thenQ_normal ?_
        refine WI.cond (b := _) rfl rfl (fun h3 => ?_) (fun h3 => ?_)
        · try simp only [zB] at h3
          refine WI.skip ?_
          refine thenQ_normal ?_
          refine WI.cond (b := _) rfl rfl (fun h7 => ?_) (fun h7 => ?_)
          · try simp only [zB] at h7
            refine WI.seq ?_
            refine WI.regB noTabs_ok [2] ?_
            refine oS ?_
            refine oN ?_
            refine thenQ_normal ?_
            refine WI.ret ?_
            refine blockQ_ret ?_
            refine thenQ_ret ?_
            first | refine lfR ?_ | refine lfR2 ?_
            first | (exfalso; omega) | rw [show tldB k = true from decide_eq_true (by omega)] | rw [show tldB k = false from decide_eq_false (by omega)] -- leaf 6
          · try simp only [zB] at h7
            refine WI.skip ?_
            refine blockQ_normal ?_
            refine thenQ_normal ?_
            refine WI.seq ?_
            refine WI.regB noTabs_ok [2] ?_
            refine oS ?_
            refine oN ?_
            refine thenQ_normal ?_
            refine WI.ret ?_
            first | refine lfR ?_ | refine lfR2 ?_
            first | (exfalso; omega) | rw [show tldB k = true from decide_eq_true (by omega)] | rw [show tldB k = false from decide_eq_false (by omega)] -- leaf 7
        · try simp only [zB] at h3
          refine WI.seq ?_
          refine WI.regB noTabs_ok [3, 4] ?_
          refine oG ?_
          refine oS ?_
          refine oN ?_
          refine thenQ_normal ?_
          refine WI.cond (b := _) rfl rfl (fun h4 => ?_) (fun h4 => ?_)
          · try simp only [zB] at h4
            refine WI.skip ?_
            refine thenQ_normal ?_
            refine WI.cond (b := _) rfl rfl (fun h7 => ?_) (fun h7 => ?_)
            · try simp only [zB] at h7
              refine WI.seq ?_
              refine WI.regB noTabs_ok [2] ?_
              refine oS ?_
              refine oN ?_
              refine thenQ_normal ?_
              refine WI.ret ?_
              refine blockQ_ret ?_
              refine thenQ_ret ?_
              first | refine lfR ?_ | refine lfR2 ?_
              first | (exfalso; omega) | rw [show tldB k = true from decide_eq_true (by omega)] | rw [show tldB k = false from decide_eq_false (by omega)] -- leaf 8
            · try simp only [zB] at h7
              refine WI.skip ?_
              refine blockQ_normal ?_
              refine thenQ_normal ?_
              refine WI.seq ?_
              refine WI.regB noTabs_ok [2] ?_
              refine oS ?_
              refine oN ?_
              refine thenQ_normal ?_
              refine WI.ret ?_
              first | refine lfR ?_ | refine lfR2 ?_
              first | (exfalso; omega) | rw [show tldB k = true from decide_eq_true (by omega)] | rw [show tldB k = false from decide_eq_false (by omega)] -- leaf 9
          · try simp only [zB] at h4
            refine WI.seq ?_
            refine WI.regB noTabs_ok [3, 4] ?_
            refine oG ?_
            refine oS ?_
            refine oN ?_
            refine thenQ_normal ?_
            refine WI.cond (b := _) rfl rfl (fun h5 => ?_) (fun h5 => ?_)
            · try simp only [zB] at h5
              refine WI.skip ?_
              refine thenQ_normal ?_
              refine WI.cond (b := _) rfl rfl (fun h7 => ?_) (fun h7 => ?_)
              · try simp only [zB] at h7
                refine WI.seq ?_
                refine WI.regB noTabs_ok [2] ?_
                refine oS ?_
                refine oN ?_
                refine thenQ_normal ?_
                refine WI.ret ?_
                refine blockQ_ret ?_
                refine thenQ_ret ?_
                first | refine lfR ?_ | refine lfR2 ?_
                first | (exfalso; omega) | rw [show tldB k = true from decide_eq_true (by omega)] | rw [show tldB k = false from decide_eq_false (by omega)] -- leaf 10
              · try simp only [zB] at h7
                refine WI.skip ?_
                refine blockQ_normal ?_
                refine thenQ_normal ?_
                refine WI.seq ?_
                refine WI.regB noTabs_ok [2] ?_
                refine oS ?_
                refine oN ?_
                refine thenQ_normal ?_
                refine WI.ret ?_
                first | refine lfR ?_ | refine lfR2 ?_
                first | (exfalso; omega) | rw [show tldB k = true from decide_eq_true (by omega)] | rw [show tldB k = false from decide_eq_false (by omega)] -- leaf 11
            · try simp only [zB] at h5
              refine WI.seq ?_
              refine WI.regB noTabs_ok [3, 4] ?_
              refine oG ?_
              refine oS ?_
              refine oN ?_
              refine thenQ_normal ?_
              refine WI.cond (b := _) rfl rfl (fun h6 => ?_) (fun h6 => ?_)
              · try simp only [zB] at h6
                refine WI.skip ?_
                refine thenQ_normal ?_
                refine WI.cond (b := _) rfl rfl (fun h7 => ?_) (fun h7 => ?_)
                · try simp only [zB] at h7
                  refine WI.seq ?_
                  refine WI.regB noTabs_ok [2] ?_
                  refine oS ?_
                  refine oN ?_
                  refine thenQ_normal ?_
                  refine WI.ret ?_
                  refine blockQ_ret ?_
                  refine thenQ_ret ?_
                  first | refine lfR ?_ | refine lfR2 ?_
                  first | (exfalso; omega) | rw [show tldB k = true from decide_eq_true (by omega)] | rw [show tldB k = false from decide_eq_false (by omega)] -- leaf 12
                · try simp only [zB] at h7
                  refine WI.skip ?_
                  refine blockQ_normal ?_
                  refine thenQ_normal ?_
                  refine WI.seq ?_
                  refine WI.regB noTabs_ok [2] ?_
                  refine oS ?_
                  refine oN ?_
                  refine thenQ_normal ?_
                  refine WI.ret ?_
                  first | refine lfR ?_ | refine lfR2 ?_
                  first | (exfalso; omega) | rw [show tldB k = true from decide_eq_true (by omega)] | rw [show tldB k = false from decide_eq_false (by omega)] -- leaf 13
              · try simp only [zB] at h6
                refine WI.regB noTabs_ok [4] ?_
                refine oG ?_
                refine oS ?_
                refine oN ?_
                refine thenQ_normal ?_
                refine WI.cond (b := _) rfl rfl (fun h7 => ?_) (fun h7 => ?_)
                · try simp only [zB] at h7
                  refine WI.seq ?_
                  refine WI.regB noTabs_ok [2] ?_
                  refine oS ?_
                  refine oN ?_
                  refine thenQ_normal ?_
                  refine WI.ret ?_
                  refine blockQ_ret ?_
                  refine thenQ_ret ?_
                  first | refine lfR ?_ | refine lfR2 ?_
                  first | (exfalso; omega) | rw [show tldB k = true from decide_eq_true (by omega)] | rw [show tldB k = false from decide_eq_false (by omega)] -- leaf 14
                · try simp only [zB] at h7
                  refine WI.skip ?_
                  refine blockQ_normal ?_
                  refine thenQ_normal ?_
                  refine WI.seq ?_
                  refine WI.regB noTabs_ok [2] ?_
                  refine oS ?_
                  refine oN ?_
                  refine thenQ_normal ?_
                  refine WI.ret ?_
                  first | refine lfR ?_ | refine lfR2 ?_
                  first | (exfalso; omega) | rw [show tldB k = true from decide_eq_true (by omega)] | rw [show tldB k = false from decide_eq_false (by omega)] -- leaf 15
theorem done_c (k : Int) : PCalls Try.prog 21 [.x (.int .i64 k)] (.x (.bool (tldB k))) := by
  refine FCalls.pure (fcallsG (fz := true) G_ok (p := i21) rfl _ (Nat.le_of_ble_eq_true rfl) _ (fun C0 E0 => ?_)) rfl
  dsimp only [i21, argsφ]
  have uu := trivial
  refine WI.seq ?_
  refine WI.regB noTabs_ok [0] ?_
  refine oS ?_
  refine oN ?_
  refine thenQ_normal ?_
  refine WI.seq ?_
  refine WI.regB noTabs_ok [2] ?_
  refine oS ?_
  refine oG ?_
  refine oS ?_
  iterate 3 refine oG ?_
  refine oS ?_
  iterate 3 refine oG ?_
  refine oS ?_
  iterate 3 refine oG ?_
  refine oS ?_
  iterate 3 refine oG ?_
  refine oS ?_
  iterate 3 refine oG ?_
  refine oS ?_
  iterate 3 refine oG ?_
  refine oS ?_
  iterate 3 refine oG ?_
  refine oS ?_
  refine oN ?_
  refine thenQ_normal ?_
  refine WI.ret ?_
  first | refine lfR ?_ | refine lfR2 ?_
  have e : (k == 1 || k == 5 || k == 7 || k == 9 || k == 11 || k == 13 || k == 15 || k == 24) = tldB k := by unfold tldB; rw [Bool.eq_iff_iff]; simp [or_assoc]
  rw [e] -- leaf 0
def toldG : List D → Option (Bool × D)
  | [.x (.int .i64 k)] => some (true, .x (.bool (tldB k)))
  | _ => none
theorem toldG_ok : ∀ args r, toldG args = some (true, r) → PCalls Try.prog 52 args r := by
  intro args r h
  unfold toldG at h
  split at h
  · rename_i k
    simp only [Option.some.injEq, Prod.mk.injEq, Bool.and_eq_true, decide_eq_true_eq, true_and] at h
    obtain rfl := h
    exact (told_c k)
  · cases h
def done51G : List D → Option (Bool × D)
  | [.x (.int .i64 k)] => some (true, .x (.bool (tldB k)))
  | _ => none
theorem done51G_ok : ∀ args r, done51G args = some (true, r) → PCalls Try.prog 21 args r := by
  intro args r h
  unfold done51G at h
  split at h
  · rename_i k
    simp only [Option.some.injEq, Prod.mk.injEq, Bool.and_eq_true, decide_eq_true_eq, true_and] at h
    obtain rfl := h
    exact (done_c k)
  · cases h
theorem quo10 (n : Nat) (h : n < 1000) : IntKind.i64.wrap ((n : Int).tdiv 10) = ((n / 10 : Nat) : Int) := by
  have : (n : Int).tdiv 10 = ((n / 10 : Nat) : Int) := rfl
  rw [this, IntWalk.i64_in _ (by omega)]
theorem rem10 (n : Nat) : (n : Int).tmod 10 = ((n % 10 : Nat) : Int) := rfl
def dg1 (n : Nat) : List UInt8 := [UInt8.ofNat (48 + n)]
def dgt (n : Nat) : List UInt8 := if n < 10 then dg1 n else if n < 100 then dg1 (n / 10) ++ dg1 (n % 10) else (dg1 (n / 10 / 10) ++ dg1 (n / 10 % 10)) ++ dg1 (n % 10)
theorem cdigits1_c (n : Nat) (h : n < 10) : PCalls Try.prog 78 [.x (.int .i64 n)] (.x (.str (dg1 n))) := by
  refine FCalls.pure (fcallsG (fz := true) G_ok (p := i78) rfl _ (Nat.le_of_ble_eq_true rfl) _ (fun C0 E0 => ?_)) rfl
  dsimp only [i78, argsφ]
  have uu := trivial
  refine WI.seq ?_
  refine WI.regB noTabs_ok [0] ?_
  refine oS ?_
  refine oN ?_
  refine thenQ_normal ?_
  refine WI.seq ?_
  refine WI.seq ?_
  refine WI.regB noTabs_ok [0, 4] ?_
  refine oS ?_
  refine oG ?_
  refine oN ?_
  refine thenQ_normal ?_
  refine WI.cond (b := _) rfl rfl (fun h0 => ?_) (fun h0 => ?_)
  · try simp only [zB] at h0
    refine WI.seq ?_
    refine WI.regB noTabs_ok [2] ?_
    refine oS ?_
    iterate 4 refine oG ?_
    refine oS ?_
    refine oN ?_
    refine thenQ_normal ?_
    refine WI.ret ?_
    refine thenQ_ret ?_
    first | refine lfR ?_ | refine lfR2 ?_
    first | (rw [br_eq (48 + (n : Int)) (48 + n) (by omega), br_of]; rfl) | (rw [br_eq ((n : Int) + 48) (48 + n) (by omega), br_of]; rfl) -- leaf 0
  · exfalso
    simp at h0; omega
def cdig1G : List D → Option (Bool × D)
  | [.x (.int .i64 n)] => some (decide (n.toNat < 10 ∧ 0 ≤ n), .x (.str (dg1 n.toNat)))
  | _ => none
theorem cdig1G_ok : ∀ args r, cdig1G args = some (true, r) → PCalls Try.prog 78 args r := by
  intro args r h
  unfold cdig1G at h
  split at h
  · rename_i n
    simp only [Option.some.injEq, Prod.mk.injEq, Bool.and_eq_true, decide_eq_true_eq, true_and] at h
    obtain ⟨h1, rfl⟩ := h
    exact (by have := cdigits1_c n.toNat h1.1; rwa [Int.toNat_of_nonneg h1.2] at this)
  · cases h
def tabcCt1 : Tabs := addQ (noTabs) 78 cdig1G
theorem tabcCt1_ok : SsOk Try.prog tabcCt1 := addQ_ok (noTabs_ok) (G_enters G_ok (p := i78) rfl) cdig1G_ok
theorem tabcCt1_q78 (a : List D) : tabcCt1.q 78 a = cdig1G a := rfl
theorem tabcCt1_r (f : FuncId) (a : List D) (o : List Ob) : tabcCt1.r f a o = none := rfl
theorem tabcCt1_k (f : FuncId) (a : List D) (o : List Ob) : tabcCt1.k f a o = none := rfl
theorem cdigits2_c (n : Nat) (h : n < 100) (h2 : 10 ≤ n) : PCalls Try.prog 78 [.x (.int .i64 n)] (.x (.str (dg1 (n / 10) ++ dg1 (n % 10)))) := by
  have e1 := quo10 n (by omega)
  have e2 := rem10 n
  have e3 : (((n / 10 : Nat) : Int)).toNat = n / 10 := rfl
  have e4 : (((n % 10 : Nat) : Int)).toNat = n % 10 := rfl
  have e5 : decide (n / 10 < 10 ∧ 0 ≤ ((n / 10 : Nat) : Int)) = true := decide_eq_true (by omega)
  have e6 : decide (n % 10 < 10 ∧ 0 ≤ ((n % 10 : Nat) : Int)) = true := decide_eq_true (by omega)
  refine FCalls.pure (fcallsG (fz := true) G_ok (p := i78) rfl _ (Nat.le_of_ble_eq_true rfl) _ (fun C0 E0 => ?_)) rfl
  dsimp only [i78, argsφ]
  have uu := And.intro @cdig1G.eq_1 (And.intro @cdig1G.eq_2 (And.intro @e1 (And.intro @e2 (And.intro @e3 (And.intro @e4 (And.intro @e5 (And.intro @e6 (And.intro @tabcCt1_r (And.intro @tabcCt1_k (@tabcCt1_q78))))))))))
  refine WI.seq ?_
  refine WI.regB tabcCt1_ok [0] ?_
  refine oS ?_
  refine oN ?_
  refine thenQ_normal ?_
  refine WI.seq ?_
  refine WI.seq ?_
  refine WI.regB tabcCt1_ok [0, 4] ?_
  refine oS ?_
  refine oG ?_
  refine oN ?_
  refine thenQ_normal ?_
  refine WI.cond (b := _) rfl rfl (fun h0 => ?_) (fun h0 => ?_)
  · exfalso
    simp at h0; omega
  · try simp only [zB] at h0
    refine WI.skip ?_
    refine thenQ_normal ?_
    refine WI.seq ?_
    refine WI.regB tabcCt1_ok [2] ?_
    refine oS ?_
    refine oG ?_
    refine oC ?_
    refine oS ?_
    refine oG ?_
    refine oC ?_
    refine oG ?_
    refine oS ?_
    refine oN ?_
    refine thenQ_normal ?_
    refine WI.ret ?_
    first | refine lfR ?_ | refine lfR2 ?_
    first | rfl | exact ⟨rfl, rfl⟩ | trivial -- leaf 0
theorem cdigits12 (n : Nat) (h : n < 100) : PCalls Try.prog 78 [.x (.int .i64 n)] (.x (.str (dgt n))) := by
  unfold dgt
  by_cases h1 : n < 10
  · rw [if_pos h1]; exact cdigits1_c n h1
  · rw [if_neg h1, if_pos h]; exact cdigits2_c n h (by omega)
def cdig2G : List D → Option (Bool × D)
  | [.x (.int .i64 n)] => some (decide (n.toNat < 100 ∧ 0 ≤ n), .x (.str (dgt n.toNat)))
  | _ => none
theorem cdig2G_ok : ∀ args r, cdig2G args = some (true, r) → PCalls Try.prog 78 args r := by
  intro args r h
  unfold cdig2G at h
  split at h
  · rename_i n
    simp only [Option.some.injEq, Prod.mk.injEq, Bool.and_eq_true, decide_eq_true_eq, true_and] at h
    obtain ⟨h1, rfl⟩ := h
    exact (by have := cdigits12 n.toNat h1.1; rwa [Int.toNat_of_nonneg h1.2] at this)
  · cases h
def tabcCt2 : Tabs := addQ (noTabs) 78 cdig2G
theorem tabcCt2_ok : SsOk Try.prog tabcCt2 := addQ_ok (noTabs_ok) (G_enters G_ok (p := i78) rfl) cdig2G_ok
theorem tabcCt2_q78 (a : List D) : tabcCt2.q 78 a = cdig2G a := rfl
theorem tabcCt2_r (f : FuncId) (a : List D) (o : List Ob) : tabcCt2.r f a o = none := rfl
theorem tabcCt2_k (f : FuncId) (a : List D) (o : List Ob) : tabcCt2.k f a o = none := rfl
theorem cdigits3_c (n : Nat) (h : n < 1000) (h2 : 100 ≤ n) : PCalls Try.prog 78 [.x (.int .i64 n)] (.x (.str (dgt n))) := by
  have e1 := quo10 n (by omega)
  have e2 := rem10 n
  have e3 : (((n / 10 : Nat) : Int)).toNat = n / 10 := rfl
  have e4 : (((n % 10 : Nat) : Int)).toNat = n % 10 := rfl
  have e5 : decide (n / 10 < 100 ∧ 0 ≤ ((n / 10 : Nat) : Int)) = true := decide_eq_true (by omega)
  have e6 : decide (n % 10 < 100 ∧ 0 ≤ ((n % 10 : Nat) : Int)) = true := decide_eq_true (by omega)
  have l1 : ∀ k, (dgt k).length ≤ 3 := fun k => by unfold dgt; split; simp [dg1]; split <;> simp [dg1]
  have l2 := l1 (n / 10)
  have l3 := l1 (n % 10)
  have ed : dgt n = dgt (n / 10) ++ dgt (n % 10) := by
    have a1 : dgt (n / 10) = dg1 (n / 10 / 10) ++ dg1 (n / 10 % 10) := by unfold dgt; rw [if_neg (by omega), if_pos (by omega)]
    have a2 : dgt (n % 10) = dg1 (n % 10) := by unfold dgt; rw [if_pos (by omega)]
    rw [a1, a2]; unfold dgt; rw [if_neg (by omega), if_neg (by omega)]
  rw [ed]
  refine FCalls.pure (fcallsG (fz := true) G_ok (p := i78) rfl _ (Nat.le_of_ble_eq_true rfl) _ (fun C0 E0 => ?_)) rfl
  dsimp only [i78, argsφ]
  have uu := And.intro @cdig2G.eq_1 (And.intro @cdig2G.eq_2 (And.intro @e1 (And.intro @e2 (And.intro @e3 (And.intro @e4 (And.intro @e5 (And.intro @e6 (And.intro @tabcCt2_r (And.intro @tabcCt2_k (@tabcCt2_q78))))))))))
  refine WI.seq ?_
  refine WI.regB tabcCt2_ok [0] ?_
  refine oS ?_
  refine oN ?_
  refine thenQ_normal ?_
  refine WI.seq ?_
  refine WI.seq ?_
  refine WI.regB tabcCt2_ok [0, 4] ?_
  refine oS ?_
  refine oG ?_
  refine oN ?_
  refine thenQ_normal ?_
  refine WI.cond (b := _) rfl rfl (fun h0 => ?_) (fun h0 => ?_)
  · exfalso
    simp at h0; omega
  · try simp only [zB] at h0
    refine WI.skip ?_
    refine thenQ_normal ?_
    refine WI.seq ?_
    refine WI.regB tabcCt2_ok [2] ?_
    refine oS ?_
    refine oG ?_
    refine oC ?_
    refine oS ?_
    refine oG ?_
    refine oC ?_
    refine oG ?_
    refine oS ?_
    refine oN ?_
    refine thenQ_normal ?_
    refine WI.ret ?_
    first | refine lfR ?_ | refine lfR2 ?_
    first | rfl | exact ⟨rfl, rfl⟩ | trivial -- leaf 0
theorem cdigits_c (n : Nat) (h : n < 1000) : PCalls Try.prog 78 [.x (.int .i64 n)] (.x (.str (dgt n))) := by
  by_cases h1 : n < 100
  · exact cdigits12 n h1
  · exact cdigits3_c n h (by omega)
def cdigG : List D → Option (Bool × D)
  | [.x (.int .i64 n)] => some (decide (n.toNat < 1000 ∧ 0 ≤ n), .x (.str (dgt n.toNat)))
  | _ => none
theorem cdigG_ok : ∀ args r, cdigG args = some (true, r) → PCalls Try.prog 78 args r := by
  intro args r h
  unfold cdigG at h
  split at h
  · rename_i n
    simp only [Option.some.injEq, Prod.mk.injEq, Bool.and_eq_true, decide_eq_true_eq, true_and] at h
    obtain ⟨h1, rfl⟩ := h
    exact (by have := cdigits_c n.toNat h1.1; rwa [Int.toNat_of_nonneg h1.2] at this)
  · cases h
theorem bdigits1_c (n : Nat) (h : n < 10) : PCalls Try.prog 20 [.x (.int .i64 n)] (.x (.str (dg1 n))) := by
  refine FCalls.pure (fcallsG (fz := true) G_ok (p := i20) rfl _ (Nat.le_of_ble_eq_true rfl) _ (fun C0 E0 => ?_)) rfl
  dsimp only [i20, argsφ]
  have uu := trivial
  refine WI.seq ?_
  refine WI.regB noTabs_ok [0] ?_
  refine oS ?_
  refine oN ?_
  refine thenQ_normal ?_
  refine WI.seq ?_
  refine WI.seq ?_
  refine WI.regB noTabs_ok [0, 4] ?_
  refine oS ?_
  refine oG ?_
  refine oN ?_
  refine thenQ_normal ?_
  refine WI.cond (b := _) rfl rfl (fun h0 => ?_) (fun h0 => ?_)
  · try simp only [zB] at h0
    refine WI.seq ?_
    refine WI.regB noTabs_ok [2] ?_
    refine oS ?_
    iterate 4 refine oG ?_
    refine oS ?_
    refine oN ?_
    refine thenQ_normal ?_
    refine WI.ret ?_
    refine thenQ_ret ?_
    first | refine lfR ?_ | refine lfR2 ?_
    first | (rw [br_eq (48 + (n : Int)) (48 + n) (by omega), br_of]; rfl) | (rw [br_eq ((n : Int) + 48) (48 + n) (by omega), br_of]; rfl) -- leaf 0
  · exfalso
    simp at h0; omega
def bdig1G : List D → Option (Bool × D)
  | [.x (.int .i64 n)] => some (decide (n.toNat < 10 ∧ 0 ≤ n), .x (.str (dg1 n.toNat)))
  | _ => none
theorem bdig1G_ok : ∀ args r, bdig1G args = some (true, r) → PCalls Try.prog 20 args r := by
  intro args r h
  unfold bdig1G at h
  split at h
  · rename_i n
    simp only [Option.some.injEq, Prod.mk.injEq, Bool.and_eq_true, decide_eq_true_eq, true_and] at h
    obtain ⟨h1, rfl⟩ := h
    exact (by have := bdigits1_c n.toNat h1.1; rwa [Int.toNat_of_nonneg h1.2] at this)
  · cases h
def tabbCt1 : Tabs := addQ (noTabs) 20 bdig1G
theorem tabbCt1_ok : SsOk Try.prog tabbCt1 := addQ_ok (noTabs_ok) (G_enters G_ok (p := i20) rfl) bdig1G_ok
theorem tabbCt1_q20 (a : List D) : tabbCt1.q 20 a = bdig1G a := rfl
theorem tabbCt1_r (f : FuncId) (a : List D) (o : List Ob) : tabbCt1.r f a o = none := rfl
theorem tabbCt1_k (f : FuncId) (a : List D) (o : List Ob) : tabbCt1.k f a o = none := rfl
theorem bdigits2_c (n : Nat) (h : n < 100) (h2 : 10 ≤ n) : PCalls Try.prog 20 [.x (.int .i64 n)] (.x (.str (dg1 (n / 10) ++ dg1 (n % 10)))) := by
  have e1 := quo10 n (by omega)
  have e2 := rem10 n
  have e3 : (((n / 10 : Nat) : Int)).toNat = n / 10 := rfl
  have e4 : (((n % 10 : Nat) : Int)).toNat = n % 10 := rfl
  have e5 : decide (n / 10 < 10 ∧ 0 ≤ ((n / 10 : Nat) : Int)) = true := decide_eq_true (by omega)
  have e6 : decide (n % 10 < 10 ∧ 0 ≤ ((n % 10 : Nat) : Int)) = true := decide_eq_true (by omega)
  refine FCalls.pure (fcallsG (fz := true) G_ok (p := i20) rfl _ (Nat.le_of_ble_eq_true rfl) _ (fun C0 E0 => ?_)) rfl
  dsimp only [i20, argsφ]
  have uu := And.intro @bdig1G.eq_1 (And.intro @bdig1G.eq_2 (And.intro @e1 (And.intro @e2 (And.intro @e3 (And.intro @e4 (And.intro @e5 (And.intro @e6 (And.intro @tabbCt1_r (And.intro @tabbCt1_k (@tabbCt1_q20))))))))))
  refine WI.seq ?_
  refine WI.regB tabbCt1_ok [0] ?_
  refine oS ?_
  refine oN ?_
  refine thenQ_normal ?_
  refine WI.seq ?_
  refine WI.seq ?_
  refine WI.regB tabbCt1_ok [0, 4] ?_
  refine oS ?_
  refine oG ?_
  refine oN ?_
  refine thenQ_normal ?_
  refine WI.cond (b := _) rfl rfl (fun h0 => ?_) (fun h0 => ?_)
  · exfalso
    simp at h0; omega
  · try simp only [zB] at h0
    refine WI.skip ?_
    refine thenQ_normal ?_
    refine WI.seq ?_
    refine WI.regB tabbCt1_ok [2] ?_
    refine oS ?_
    refine oG ?_
    refine oC ?_
    refine oS ?_
    refine oG ?_
    refine oC ?_
    refine oG ?_
    refine oS ?_
    refine oN ?_
    refine thenQ_normal ?_
    refine WI.ret ?_
    first | refine lfR ?_ | refine lfR2 ?_
    first | rfl | exact ⟨rfl, rfl⟩ | trivial -- leaf 0
theorem bdigits12 (n : Nat) (h : n < 100) : PCalls Try.prog 20 [.x (.int .i64 n)] (.x (.str (dgt n))) := by
  unfold dgt
  by_cases h1 : n < 10
  · rw [if_pos h1]; exact bdigits1_c n h1
  · rw [if_neg h1, if_pos h]; exact bdigits2_c n h (by omega)
def bdig2G : List D → Option (Bool × D)
  | [.x (.int .i64 n)] => some (decide (n.toNat < 100 ∧ 0 ≤ n), .x (.str (dgt n.toNat)))
  | _ => none
theorem bdig2G_ok : ∀ args r, bdig2G args = some (true, r) → PCalls Try.prog 20 args r := by
  intro args r h
  unfold bdig2G at h
  split at h
  · rename_i n
    simp only [Option.some.injEq, Prod.mk.injEq, Bool.and_eq_true, decide_eq_true_eq, true_and] at h
    obtain ⟨h1, rfl⟩ := h
    exact (by have := bdigits12 n.toNat h1.1; rwa [Int.toNat_of_nonneg h1.2] at this)
  · cases h
def tabbCt2 : Tabs := addQ (noTabs) 20 bdig2G
theorem tabbCt2_ok : SsOk Try.prog tabbCt2 := addQ_ok (noTabs_ok) (G_enters G_ok (p := i20) rfl) bdig2G_ok
theorem tabbCt2_q20 (a : List D) : tabbCt2.q 20 a = bdig2G a := rfl
theorem tabbCt2_r (f : FuncId) (a : List D) (o : List Ob) : tabbCt2.r f a o = none := rfl
theorem tabbCt2_k (f : FuncId) (a : List D) (o : List Ob) : tabbCt2.k f a o = none := rfl
theorem bdigits3_c (n : Nat) (h : n < 1000) (h2 : 100 ≤ n) : PCalls Try.prog 20 [.x (.int .i64 n)] (.x (.str (dgt n))) := by
  have e1 := quo10 n (by omega)
  have e2 := rem10 n
  have e3 : (((n / 10 : Nat) : Int)).toNat = n / 10 := rfl
  have e4 : (((n % 10 : Nat) : Int)).toNat = n % 10 := rfl
  have e5 : decide (n / 10 < 100 ∧ 0 ≤ ((n / 10 : Nat) : Int)) = true := decide_eq_true (by omega)
  have e6 : decide (n % 10 < 100 ∧ 0 ≤ ((n % 10 : Nat) : Int)) = true := decide_eq_true (by omega)
  have l1 : ∀ k, (dgt k).length ≤ 3 := fun k => by unfold dgt; split; simp [dg1]; split <;> simp [dg1]
  have l2 := l1 (n / 10)
  have l3 := l1 (n % 10)
  have ed : dgt n = dgt (n / 10) ++ dgt (n % 10) := by
    have a1 : dgt (n / 10) = dg1 (n / 10 / 10) ++ dg1 (n / 10 % 10) := by unfold dgt; rw [if_neg (by omega), if_pos (by omega)]
    have a2 : dgt (n % 10) = dg1 (n % 10) := by unfold dgt; rw [if_pos (by omega)]
    rw [a1, a2]; unfold dgt; rw [if_neg (by omega), if_neg (by omega)]
  rw [ed]
  refine FCalls.pure (fcallsG (fz := true) G_ok (p := i20) rfl _ (Nat.le_of_ble_eq_true rfl) _ (fun C0 E0 => ?_)) rfl
  dsimp only [i20, argsφ]
  have uu := And.intro @bdig2G.eq_1 (And.intro @bdig2G.eq_2 (And.intro @e1 (And.intro @e2 (And.intro @e3 (And.intro @e4 (And.intro @e5 (And.intro @e6 (And.intro @tabbCt2_r (And.intro @tabbCt2_k (@tabbCt2_q20))))))))))
  refine WI.seq ?_
  refine WI.regB tabbCt2_ok [0] ?_
  refine oS ?_
  refine oN ?_
  refine thenQ_normal ?_
  refine WI.seq ?_
  refine WI.seq ?_
  refine WI.regB tabbCt2_ok [0, 4] ?_
  refine oS ?_
  refine oG ?_
  refine oN ?_
  refine thenQ_normal ?_
  refine WI.cond (b := _) rfl rfl (fun h0 => ?_) (fun h0 => ?_)
  · exfalso
    simp at h0; omega
  · try simp only [zB] at h0
    refine WI.skip ?_
    refine thenQ_normal ?_
    refine WI.seq ?_
    refine WI.regB tabbCt2_ok [2] ?_
    refine oS ?_
    refine oG ?_
    refine oC ?_
    refine oS ?_
    refine oG ?_
    refine oC ?_
    refine oG ?_
    refine oS ?_
    refine oN ?_
    refine thenQ_normal ?_
    refine WI.ret ?_
    first | refine lfR ?_ | refine lfR2 ?_
    first | rfl | exact ⟨rfl, rfl⟩ | trivial -- leaf 0
theorem bdigits_c (n : Nat) (h : n < 1000) : PCalls Try.prog 20 [.x (.int .i64 n)] (.x (.str (dgt n))) := by
  by_cases h1 : n < 100
  · exact bdigits12 n h1
  · exact bdigits3_c n h (by omega)
def bdigG : List D → Option (Bool × D)
  | [.x (.int .i64 n)] => some (decide (n.toNat < 1000 ∧ 0 ≤ n), .x (.str (dgt n.toNat)))
  | _ => none
theorem bdigG_ok : ∀ args r, bdigG args = some (true, r) → PCalls Try.prog 20 args r := by
  intro args r h
  unfold bdigG at h
  split at h
  · rename_i n
    simp only [Option.some.injEq, Prod.mk.injEq, Bool.and_eq_true, decide_eq_true_eq, true_and] at h
    obtain ⟨h1, rfl⟩ := h
    exact (by have := bdigits_c n.toNat h1.1; rwa [Int.toNat_of_nonneg h1.2] at this)
  · cases h
end Go.Proofs.Ytcffpndhodhncaa
end
section
/- Count: Counts. -/
set_option linter.unusedSimpArgs false
set_option linter.unusedVariables false
namespace Go.Proofs.Ytcffpndhodhncaa
open Go.RowKit Go.Bo Go.Ab

abbrev xI (n : Int) : D := .x (.int .i64 n)
/-- The counts: 32 of kinds, 128 of codes. -/
abbrev cnB (l : List Int) : Ob := .box (l.map xI)
/-- A message with a kind and a code. -/
abbrev msgD (k c : Int) : D := .agg [xI 0, xI k, .x (.str []), .x (.str []), xI 0, xI 0, .x (.bool false), xI 0, .x (.str []), .x (.str []), .x (.str []), .x .nils, .x (.str []), .x .nils, .x .nils, .x (.str []), .x .nils, .x .nils, .x (.str []), .x (.bool false), .x (.str []), .x (.bool false), .x (.str []), .x (.str []), xI 0, xI c, .x (.str []), .x (.str []), .x .nils]
theorem pk_xI (f : Nat → Nat) (ρ : List Nat) (os : List Ob) : ∀ l : List Int, renL f ((l.map xI).map (onF ρ os)) = l.map xI
  | [] => rfl
  | x :: l => by
    have ih := pk_xI f ρ os l
    simp only [List.map_cons, renL] at ih ⊢
    rw [ih]; rfl
def unI : List D → Option (List Int)
  | [] => some []
  | .x (.int .i64 n) :: l => (unI l).map (n :: ·)
  | _ => none
theorem unI_map : ∀ l : List Int, unI (l.map xI) = some l
  | [] => rfl
  | x :: l => by simp only [List.map_cons, unI, unI_map l, Option.map_some]
theorem unI_inv : ∀ {B : List D} {l : List Int}, unI B = some l → B = l.map xI
  | [], l, h => by cases h; rfl
  | .x (.int .i64 n) :: B, l, h => by
    simp only [unI, Option.map_eq_some_iff] at h
    obtain ⟨m, h1, rfl⟩ := h
    rw [unI_inv h1]; rfl
theorem new51_c : MCalls Try.prog 17 [] [] (.ptr 0 0) [cnB (List.replicate 160 0)] := by
  refine FCalls.mcalls (fcallsG (fz := true) G_ok (p := i17) rfl _ (Nat.le_of_ble_eq_true rfl) _ (fun C0 E0 => ?_))
  dsimp only [i17, argsφ]
  have uu := trivial
  refine WI.seq ?_
  refine WI.regB noTabs_ok [] ?_
  refine oS ?_
  refine oN ?_
  refine thenQ_normal ?_
  refine WI.seq ?_
  refine WI.regB noTabs_ok [0] ?_
  iterate 2 refine oG ?_
  refine oS ?_
  refine oN ?_
  refine thenQ_normal ?_
  refine WI.ret ?_
  first | refine lfR ?_ | refine lfR2 ?_
  first | rfl | exact ⟨rfl, rfl⟩ | trivial -- leaf 0
theorem of_c (l : List Int) (k : Int) (hl : l.length = 160) : MCalls Try.prog 19 [.ptr 0 0, xI k] [cnB l] (xI (if 0 ≤ k ∧ k < 32 then l.getD k.toNat 0 else 0)) [cnB l] := by
  by_cases hk : 0 ≤ k ∧ k < 32
  · rw [if_pos hk]
    obtain ⟨n, rfl⟩ : ∃ n : Nat, k = n := ⟨k.toNat, by omega⟩
    have hg : (l.map xI)[n]? = some (xI l[n]) := by rw [List.getElem?_map, List.getElem?_eq_getElem (by omega)]; rfl
    have hd : l.getD ((n : Int)).toNat 0 = l[n] := by simp [show n < l.length by omega]
    have m1 : n * 1 = n := Nat.mul_one n
    rw [hd]
    refine FCalls.mcalls (fcallsG (fz := true) G_ok (p := i19) rfl _ (Nat.le_of_ble_eq_true rfl) _ (fun C0 E0 => ?_))
    dsimp only [i19, argsφ]
    have uu := And.intro hg (@m1)
    refine WI.seq ?_
    refine WI.regB noTabs_ok [0, 1] ?_
    refine oS ?_
    refine oN ?_
    refine thenQ_normal ?_
    refine WI.seq ?_
    refine WI.seq ?_
    refine WI.regB noTabs_ok [0, 1, 14] ?_
    refine oS ?_
    refine oG ?_
    refine oS ?_
    iterate 3 refine oG ?_
    refine oS ?_
    iterate 3 refine oG ?_
    refine oN ?_
    refine thenQ_normal ?_
    refine WI.cond (b := _) rfl rfl (fun h0 => ?_) (fun h0 => ?_)
    · exfalso
      simp at h0; omega
    · try simp only [zB] at h0
      refine WI.skip ?_
      refine thenQ_normal ?_
      refine WI.seq ?_
      refine WI.regB noTabs_ok [4] ?_
      iterate 4 refine oS ?_
      iterate 2 refine oG ?_
      refine oS ?_
      refine oN ?_
      refine thenQ_normal ?_
      refine WI.ret ?_
      first | refine lfR ?_ | refine lfR2 ?_
      first | rfl | exact ⟨rfl, rfl⟩ | trivial -- leaf 0
  · rw [if_neg hk]
    refine FCalls.mcalls (fcallsG (fz := true) G_ok (p := i19) rfl _ (Nat.le_of_ble_eq_true rfl) _ (fun C0 E0 => ?_))
    dsimp only [i19, argsφ]
    have uu := trivial
    refine WI.seq ?_
    refine WI.regB noTabs_ok [0, 1] ?_
    refine oS ?_
    refine oN ?_
    refine thenQ_normal ?_
    refine WI.seq ?_
    refine WI.seq ?_
    refine WI.regB noTabs_ok [0, 1, 14] ?_
    refine oS ?_
    refine oG ?_
    refine oS ?_
    iterate 3 refine oG ?_
    refine oS ?_
    iterate 3 refine oG ?_
    refine oN ?_
    refine thenQ_normal ?_
    refine WI.cond (b := _) rfl rfl (fun h0 => ?_) (fun h0 => ?_)
    · try simp only [zB] at h0
      refine WI.seq ?_
      refine WI.regB noTabs_ok [4] ?_
      refine oS ?_
      refine oN ?_
      refine thenQ_normal ?_
      refine WI.ret ?_
      refine thenQ_ret ?_
      first | refine lfR ?_ | refine lfR2 ?_
      first | rfl | exact ⟨rfl, rfl⟩ | trivial -- leaf 0
    · exfalso
      simp at h0; omega
theorem codes_c (l : List Int) (k : Int) (hl : l.length = 160) : MCalls Try.prog 22 [.ptr 0 0, xI k] [cnB l] (xI (if 0 ≤ k ∧ k < 128 then l.getD (32 + k.toNat) 0 else 0)) [cnB l] := by
  by_cases hk : 0 ≤ k ∧ k < 128
  · rw [if_pos hk]
    obtain ⟨n, rfl⟩ : ∃ n : Nat, k = n := ⟨k.toNat, by omega⟩
    have hg : (l.map xI)[32 + n]? = some (xI l[32 + n]) := by rw [List.getElem?_map, List.getElem?_eq_getElem (by omega)]; rfl
    have hd : l.getD (32 + ((n : Int)).toNat) 0 = l[32 + n] := by simp [show 32 + n < l.length by omega]
    have m1 : n * 1 = n := Nat.mul_one n
    rw [hd]
    refine FCalls.mcalls (fcallsG (fz := true) G_ok (p := i22) rfl _ (Nat.le_of_ble_eq_true rfl) _ (fun C0 E0 => ?_))
    dsimp only [i22, argsφ]
    have uu := And.intro hg (@m1)
    refine WI.seq ?_
    refine WI.regB noTabs_ok [0, 1] ?_
    refine oS ?_
    refine oN ?_
    refine thenQ_normal ?_
    refine WI.seq ?_
    refine WI.seq ?_
    refine WI.regB noTabs_ok [0, 1, 14] ?_
    refine oS ?_
    refine oG ?_
    refine oS ?_
    iterate 3 refine oG ?_
    refine oS ?_
    iterate 3 refine oG ?_
    refine oN ?_
    refine thenQ_normal ?_
    refine WI.cond (b := _) rfl rfl (fun h0 => ?_) (fun h0 => ?_)
    · exfalso
      simp at h0; omega
    · try simp only [zB] at h0
      refine WI.skip ?_
      refine thenQ_normal ?_
      refine WI.seq ?_
      refine WI.regB noTabs_ok [4] ?_
      iterate 4 refine oS ?_
      iterate 2 refine oG ?_
      refine oS ?_
      refine oN ?_
      refine thenQ_normal ?_
      refine WI.ret ?_
      first | refine lfR ?_ | refine lfR2 ?_
      first | rfl | exact ⟨rfl, rfl⟩ | trivial -- leaf 0
  · rw [if_neg hk]
    refine FCalls.mcalls (fcallsG (fz := true) G_ok (p := i22) rfl _ (Nat.le_of_ble_eq_true rfl) _ (fun C0 E0 => ?_))
    dsimp only [i22, argsφ]
    have uu := trivial
    refine WI.seq ?_
    refine WI.regB noTabs_ok [0, 1] ?_
    refine oS ?_
    refine oN ?_
    refine thenQ_normal ?_
    refine WI.seq ?_
    refine WI.seq ?_
    refine WI.regB noTabs_ok [0, 1, 14] ?_
    refine oS ?_
    refine oG ?_
    refine oS ?_
    iterate 3 refine oG ?_
    refine oS ?_
    iterate 3 refine oG ?_
    refine oN ?_
    refine thenQ_normal ?_
    refine WI.cond (b := _) rfl rfl (fun h0 => ?_) (fun h0 => ?_)
    · try simp only [zB] at h0
      refine WI.seq ?_
      refine WI.regB noTabs_ok [4] ?_
      refine oS ?_
      refine oN ?_
      refine thenQ_normal ?_
      refine WI.ret ?_
      refine thenQ_ret ?_
      first | refine lfR ?_ | refine lfR2 ?_
      first | rfl | exact ⟨rfl, rfl⟩ | trivial -- leaf 0
    · exfalso
      simp at h0; omega
def tabCt3 : Tabs := addQ (noTabs) 52 toldG
theorem tabCt3_ok : SsOk Try.prog tabCt3 := addQ_ok (noTabs_ok) (G_enters G_ok (p := i52) rfl) toldG_ok
theorem tabCt3_q52 (a : List D) : tabCt3.q 52 a = toldG a := rfl
theorem tabCt3_r (f : FuncId) (a : List D) (o : List Ob) : tabCt3.r f a o = none := rfl
theorem tabCt3_k (f : FuncId) (a : List D) (o : List Ob) : tabCt3.k f a o = none := rfl
/-- One more at a place. -/
def upL (l : List Int) (i : Nat) : List Int := l.set i (l.getD i 0 + 1)
def notL (l : List Int) (k c : Int) : List Int :=
  if 0 ≤ k ∧ k < 32 then if tldB k = true ∧ 0 ≤ c ∧ c < 128 then upL (upL l k.toNat) (32 + c.toNat) else upL l k.toNat else l
theorem upL_len (l : List Int) (i : Nat) : (upL l i).length = l.length := by simp [upL]
theorem st_row (l : List Int) (n : Nat) (h : n < l.length) : (l.map xI).take n ++ [D.x (X.int .i64 (l[n] + 1))] ++ (l.map xI).drop (n + 1) = (upL l n).map xI := by
  have e : upL l n = l.take n ++ (l[n] + 1) :: l.drop (n + 1) := by
    unfold upL
    rw [List.set_eq_take_append_cons_drop, if_pos h]
    simp [h]
  rw [e]; simp
theorem note_c (l : List Int) (k c : Int) (hl : l.length = 160) (hb : ∀ x ∈ l, 0 ≤ x ∧ x ≤ 1000000) : MCalls Try.prog 18 [.ptr 0 0, msgD k c] [cnB l] (.tup []) [cnB (notL l k c)] := by
  by_cases hk : 0 ≤ k ∧ k < 32
  · obtain ⟨n, rfl⟩ : ∃ n : Nat, k = n := ⟨k.toNat, by omega⟩
    have hn : n < 32 := by omega
    have hg : (l.map xI)[n]? = some (xI l[n]) := by rw [List.getElem?_map, List.getElem?_eq_getElem (by omega)]; rfl
    have hx := hb l[n] (List.getElem_mem _)
    have hs := st_row l n (by omega)
    have hle : (n + 1 ≤ (l.map xI).length) = True := eq_true (by rw [List.length_map]; omega)
    have m1 : n * 1 = n := Nat.mul_one n
    have hl2 := upL_len l n
    by_cases hc : tldB n = true ∧ 0 ≤ c ∧ c < 128
    · obtain ⟨m, rfl⟩ : ∃ m : Nat, c = m := ⟨c.toNat, by omega⟩
      have hN : notL l n m = upL (upL l n) (32 + m) := by unfold notL; rw [if_pos hk, if_pos hc]; rfl
      rw [hN]
      have hm : m < 128 := by omega
      have hg2 : ((upL l n).map xI)[32 + m]? = some (xI (upL l n)[32 + m]) := by rw [List.getElem?_map, List.getElem?_eq_getElem (by omega)]; rfl
      have hx2 : 0 ≤ (upL l n)[32 + m] ∧ (upL l n)[32 + m] ≤ 1000000 := by
        have : (upL l n)[32 + m] = l[32 + m] := by simp [upL]; rw [List.getElem_set_ne (by omega)]
        rw [this]; exact hb _ (List.getElem_mem _)
      have hs2 := st_row (upL l n) (32 + m) (by omega)
      have hle2 : (32 + m + 1 ≤ ((upL l n).map xI).length) = True := eq_true (by rw [List.length_map]; omega)
      have m2 : m * 1 = m := Nat.mul_one m
      have ht := hc.1
      refine FCalls.mcalls (fcallsG (fz := true) G_ok (p := i18) rfl _ (Nat.le_of_ble_eq_true rfl) _ (fun C0 E0 => ?_))
      dsimp only [i18, argsφ]
      have uu := And.intro @toldG.eq_1 (And.intro @toldG.eq_2 (And.intro hg (And.intro hs (And.intro @m1 (And.intro hle (And.intro hg2 (And.intro hs2 (And.intro @m2 (And.intro ht (And.intro hle2 (And.intro @tabCt3_r (And.intro @tabCt3_k (@tabCt3_q52)))))))))))))
      refine WI.seq ?_
      refine WI.regB tabCt3_ok [0, 3] ?_
      refine oG ?_
      refine oN ?_
      refine thenQ_normal ?_
      refine WI.seq ?_
      refine WI.seq ?_
      refine WI.regB tabCt3_ok [0, 3, 16] ?_
      refine oS ?_
      refine oG ?_
      refine oS ?_
      iterate 4 refine oG ?_
      refine oS ?_
      iterate 4 refine oG ?_
      refine oN ?_
      refine thenQ_normal ?_
      refine WI.cond (b := _) rfl rfl (fun h0 => ?_) (fun h0 => ?_)
      · exfalso
        simp at h0; omega
      · try simp only [zB] at h0
        refine WI.skip ?_
        refine thenQ_normal ?_
        refine WI.seq ?_
        refine WI.dregB tabCt3_ok [0, 3] ?_
        iterate 2 refine dFS ?_
        refine dAG ?_
        iterate 2 refine dFS ?_
        iterate 2 refine dAG ?_
        refine dFG ?_
        iterate 2 refine dFS ?_
        iterate 2 refine dAG ?_
        refine dN ?_
        refine thenQ_normal ?_
        refine WI.seq ?_
        refine WI.regB tabCt3_ok [0, 3, 4] ?_
        iterate 2 refine oS ?_
        refine oG ?_
        refine oS ?_
        refine oN ?_
        refine thenQ_normal ?_
        refine WI.seq ?_
        refine WI.regB tabCt3_ok [0, 4, 41] ?_
        refine oS ?_
        refine oG ?_
        refine oC ?_
        refine oS ?_
        iterate 3 refine oG ?_
        refine oS ?_
        iterate 3 refine oG ?_
        refine oN ?_
        refine thenQ_normal ?_
        refine WI.cond (b := _) rfl rfl (fun h1 => ?_) (fun h1 => ?_)
        · try simp only [zB] at h1
          refine WI.pickA [0] ?_
          rw [pk_xI]
          refine WI.dregB tabCt3_ok [] ?_
          iterate 4 refine dFS ?_
          iterate 2 refine dAG ?_
          refine dFG ?_
          iterate 2 refine dFS ?_
          iterate 2 refine dAG ?_
          refine dsN ?_
          first | refine lfN ?_ | refine lfN2 ?_
          first | exact ⟨rfl, rfl⟩ | exact ⟨rfl, congrArg (fun z => [Ob.box z]) (pk_xI _ _ _ _)⟩ | (trace_state; sorry) -- leaf 0
        · exfalso
          simp at h1; omega
    · have hN : notL l n c = upL l n := by unfold notL; rw [if_pos hk, if_neg hc]; rfl
      rw [hN]
      refine FCalls.mcalls (fcallsG (fz := true) G_ok (p := i18) rfl _ (Nat.le_of_ble_eq_true rfl) _ (fun C0 E0 => ?_))
      dsimp only [i18, argsφ]
      have uu := And.intro @toldG.eq_1 (And.intro @toldG.eq_2 (And.intro hg (And.intro hs (And.intro @m1 (And.intro hle (And.intro @tabCt3_r (And.intro @tabCt3_k (@tabCt3_q52))))))))
      refine WI.seq ?_
      refine WI.regB tabCt3_ok [0, 3] ?_
      refine oG ?_
      refine oN ?_
      refine thenQ_normal ?_
      refine WI.seq ?_
      refine WI.seq ?_
      refine WI.regB tabCt3_ok [0, 3, 16] ?_
      refine oS ?_
      refine oG ?_
      refine oS ?_
      iterate 4 refine oG ?_
      refine oS ?_
      iterate 4 refine oG ?_
      refine oN ?_
      refine thenQ_normal ?_
      refine WI.cond (b := _) rfl rfl (fun h0 => ?_) (fun h0 => ?_)
      · exfalso
        simp at h0; omega
      · try simp only [zB] at h0
        refine WI.skip ?_
        refine thenQ_normal ?_
        refine WI.seq ?_
        refine WI.dregB tabCt3_ok [0, 3] ?_
        iterate 2 refine dFS ?_
        refine dAG ?_
        iterate 2 refine dFS ?_
        iterate 2 refine dAG ?_
        refine dFG ?_
        iterate 2 refine dFS ?_
        iterate 2 refine dAG ?_
        refine dN ?_
        refine thenQ_normal ?_
        refine WI.seq ?_
        refine WI.regB tabCt3_ok [0, 3, 4] ?_
        iterate 2 refine oS ?_
        refine oG ?_
        refine oS ?_
        refine oN ?_
        refine thenQ_normal ?_
        refine WI.seq ?_
        refine WI.regB tabCt3_ok [0, 4, 41] ?_
        refine oS ?_
        refine oG ?_
        refine oC ?_
        refine oS ?_
        iterate 3 refine oG ?_
        refine oS ?_
        iterate 3 refine oG ?_
        refine oN ?_
        refine thenQ_normal ?_
        refine WI.cond (b := _) rfl rfl (fun h1 => ?_) (fun h1 => ?_)
        · exfalso
          simp at h1; exact hc ⟨h1.1.1, by omega, by omega⟩
        · try simp only [zB] at h1
          refine WI.pickA [0] ?_
          refine WI.skip ?_
          first | refine lfN ?_ | refine lfN2 ?_
          first | exact ⟨rfl, rfl⟩ | exact ⟨rfl, congrArg (fun z => [Ob.box z]) (pk_xI _ _ _ _)⟩ | (trace_state; sorry) -- leaf 0
  · have hN : notL l k c = l := by unfold notL; rw [if_neg hk]
    rw [hN]
    refine FCalls.mcalls (fcallsG (fz := true) G_ok (p := i18) rfl _ (Nat.le_of_ble_eq_true rfl) _ (fun C0 E0 => ?_))
    dsimp only [i18, argsφ]
    have uu := trivial
    refine WI.seq ?_
    refine WI.regB noTabs_ok [0, 3] ?_
    refine oG ?_
    refine oN ?_
    refine thenQ_normal ?_
    refine WI.seq ?_
    refine WI.seq ?_
    refine WI.regB noTabs_ok [0, 3, 16] ?_
    refine oS ?_
    refine oG ?_
    refine oS ?_
    iterate 4 refine oG ?_
    refine oS ?_
    iterate 4 refine oG ?_
    refine oN ?_
    refine thenQ_normal ?_
    refine WI.cond (b := _) rfl rfl (fun h0 => ?_) (fun h0 => ?_)
    · try simp only [zB] at h0
      refine WI.pickA [0] ?_
      refine WI.ret ?_
      refine thenQ_ret ?_
      first | refine lfR ?_ | refine lfR2 ?_
      first | exact ⟨rfl, rfl⟩ | exact ⟨rfl, congrArg (fun z => [Ob.box z]) (pk_xI _ _ _ _)⟩ | (trace_state; sorry) -- leaf 0
    · exfalso
      simp at h0; omega
end Go.Proofs.Ytcffpndhodhncaa
end
section
/- Count: lines. -/
set_option linter.unusedSimpArgs false
set_option linter.unusedVariables false
namespace Go.Proofs.Ytcffpndhodhncaa
open Go.RowKit Go.Bo Go.Ab

def tabCt4 : Tabs := addQ (noTabs) 78 cdigG
theorem tabCt4_ok : SsOk Try.prog tabCt4 := addQ_ok (noTabs_ok) (G_enters G_ok (p := i78) rfl) cdigG_ok
theorem tabCt4_q78 (a : List D) : tabCt4.q 78 a = cdigG a := rfl
theorem tabCt4_r (f : FuncId) (a : List D) (o : List Ob) : tabCt4.r f a o = none := rfl
theorem tabCt4_k (f : FuncId) (a : List D) (o : List Ob) : tabCt4.k f a o = none := rfl
/-- One line. -/
def lin (mark : List UInt8) (i : Nat) (n : Int) : List UInt8 := ((mark ++ dgt i) ++ [32]) ++ dgt n.toNat
/-- The lines of those that count, from place i on. -/
def linL (mark : List UInt8) : Nat → List Int → List (List UInt8)
  | _, [] => []
  | i, n :: l => if 0 < n then lin mark i n :: linL mark (i + 1) l else linL mark (i + 1) l
theorem linL_snoc (mark : List UInt8) : ∀ (l : List Int) (i : Nat) (n : Int), linL mark i (l ++ [n]) = linL mark i l ++ (if 0 < n then [lin mark (i + l.length) n] else [])
  | [], i, n => by simp only [List.nil_append, linL, List.length_nil, Nat.add_zero]
  | x :: l, i, n => by
    have ih := linL_snoc mark l (i + 1) n
    simp only [List.cons_append, linL, List.length_cons, ih, show i + 1 + l.length = i + (l.length + 1) by omega]
    split <;> simp
theorem linL_len (mark : List UInt8) : ∀ (l : List Int) (i : Nat), (linL mark i l).length ≤ l.length
  | [], _ => Nat.le_refl _
  | x :: l, i => by
    have := linL_len mark l (i + 1)
    unfold linL; split <;> simp only [List.length_cons] <;> omega
theorem dgt_len (n : Nat) : (dgt n).length ≤ 3 := by unfold dgt; split; simp [dg1]; split <;> simp [dg1]
theorem lines_c (mark : List UInt8) (l : List Int) (off len : Nat) (hm : mark.length ≤ 100) (hl : off + len ≤ l.length) (hn : len ≤ 128) (hb : ∀ x ∈ l, 0 ≤ x ∧ x < 1000) : MCalls Try.prog 57 [.x (.str mark), .bref 0 off len] [cnB l] (.ref 1 (linL mark 0 ((l.drop off).take len)).length 0 (linL mark 0 ((l.drop off).take len)).length) [cnB l, .rows false 9 1 (rows rStr (linL mark 0 ((l.drop off).take len)))] := by
  have hlen : ((l.drop off).take len).length = len := by simp; omega
  generalize hv : (l.drop off).take len = v at hlen
  refine FCalls.mcalls (fcallsG (fz := false) G_ok (p := i57) rfl _ (Nat.le_of_ble_eq_true rfl) _ (fun C0 E0 => ?_))
  dsimp only [i57, argsφ]
  have uu := And.intro @cdigG.eq_1 (And.intro @cdigG.eq_2 (And.intro @tabCt4_r (And.intro @tabCt4_k (@tabCt4_q78))))
  refine WI.seq ?_
  refine WI.regB tabCt4_ok [0, 1] ?_
  refine oS ?_
  refine oN ?_
  refine thenQ_normal ?_
  refine WI.seq ?_
  refine WI.regB tabCt4_ok [0, 1, 5] ?_
  refine oS ?_
  refine oN ?_
  refine thenQ_normal ?_
  refine WI.seq ?_
  refine WI.seq ?_
  refine WI.regB tabCt4_ok [0, 5, 8, 9, 10] ?_
  refine oS ?_
  refine oG (hok := by first | with_reducible rfl | omega | (exact decide_eq_true (by omega)) | (exact decide_eq_true (by simp only [List.length_append, List.length_cons, List.length_nil]; omega)) | (simp; done) | (simp; omega) | rfl) ?_
  refine oS ?_
  refine oN ?_
  refine thenQ_normal ?_
  refine WI.block ?_
  refine WI.ownA 5 9 1 ?_
  refine WI.loop (fun φ os => ∃ (j : Nat), φ = [(0, .x (.str mark)), (5, .ref 1 (linL mark 0 (v.take j)).length 0 (linL mark 0 (v.take j)).length), (8, .bref 0 off len), (9, xI len), (10, xI j)] ∧ os = [cnB l, .rows false 9 1 (rows rStr (linL mark 0 (v.take j)))] ∧ j ≤ len) (down len 10) ?_ (fun φ os hI => ?_)
  · exact ⟨0, rfl, rfl, by omega⟩
  · obtain ⟨j, rfl, rfl, hj⟩ := hI
    refine WI.seq ?_
    refine WI.regB tabCt4_ok [0, 5, 8, 9, 10, 11] ?_
    refine oG (hok := by first | with_reducible rfl | omega | (exact decide_eq_true (by omega)) | (exact decide_eq_true (by simp only [List.length_append, List.length_cons, List.length_nil]; omega)) | (simp; done) | (simp; omega) | rfl) ?_
    refine oN ?_
    refine thenQ_normal ?_
    refine WI.seq ?_
    refine WI.cond (b := _) rfl rfl (fun h0 => ?_) (fun h0 => ?_)
    · try simp only [zB] at h0
      refine WI.skip ?_
      refine thenQ_normal ?_
      refine WI.seq ?_
      refine WI.block ?_
      refine WI.seq ?_
      have hj4 : j < len := by omega
      have hg : (l.map xI)[off + j]? = some (xI l[off + j]) := by rw [List.getElem?_map, List.getElem?_eq_getElem (by omega)]; rfl
      have hx := hb l[off + j] (List.getElem_mem _)
      have hvj : v[j]'(by omega) = l[off + j] := by subst hv; simp
      have hsn := linL_snoc mark (v.take j) 0 l[off + j]
      rw [← hvj, ← List.take_succ_eq_append_getElem (by omega), hvj, List.length_take, Nat.min_eq_left (by omega), Nat.zero_add] at hsn
      have d1 := dgt_len j
      have d2 := dgt_len (l[off + j]).toNat
      have e3 : ((j : Int)).toNat = j := rfl
      have hlj := linL_len mark (v.take j) 0
      rw [List.length_take] at hlj
      have uu := And.intro uu (And.intro hg e3)
      refine WI.regB tabCt4_ok [0, 5, 6, 7, 8, 9, 10] ?_
      refine oS ?_
      iterate 2 refine oG (hok := by first | with_reducible rfl | omega | (exact decide_eq_true (by omega)) | (exact decide_eq_true (by simp only [List.length_append, List.length_cons, List.length_nil]; omega)) | (simp; done) | (simp; omega) | rfl) ?_
      iterate 2 refine oS ?_
      refine oN ?_
      refine thenQ_normal ?_
      refine WI.seq ?_
      refine WI.regB tabCt4_ok [0, 5, 6, 7, 8, 9, 10, 16] ?_
      refine oS ?_
      refine oG (hok := by first | with_reducible rfl | omega | (exact decide_eq_true (by omega)) | (exact decide_eq_true (by simp only [List.length_append, List.length_cons, List.length_nil]; omega)) | (simp; done) | (simp; omega) | rfl) ?_
      refine oN ?_
      refine thenQ_normal ?_
      refine WI.cond (b := _) rfl rfl (fun h1 => ?_) (fun h1 => ?_)
      · try simp only [zB] at h1
        have hst : linL mark 0 (v.take (j + 1)) = linL mark 0 (v.take j) ++ [lin mark j l[off + j]] := by rw [hsn, if_pos (by omega)]
        refine WI.post ?_
        refine WI.regB tabCt4_ok [0, 5, 8, 9, 10] ?_
        iterate 3 refine oS ?_
        refine oC (hok := by first | with_reducible rfl | omega | (exact decide_eq_true (by omega)) | (exact decide_eq_true (by simp only [List.length_append, List.length_cons, List.length_nil]; omega)) | (simp; done) | (simp; omega) | rfl) ?_
        iterate 2 refine oG (hok := by first | with_reducible rfl | omega | (exact decide_eq_true (by omega)) | (exact decide_eq_true (by simp only [List.length_append, List.length_cons, List.length_nil]; omega)) | (simp; done) | (simp; omega) | rfl) ?_
        refine oS ?_
        refine oC (hok := by first | with_reducible rfl | omega | (exact decide_eq_true (by omega)) | (exact decide_eq_true (by simp only [List.length_append, List.length_cons, List.length_nil]; omega)) | (simp; done) | (simp; omega) | rfl) ?_
        iterate 3 refine oG (hok := by first | with_reducible rfl | omega | (exact decide_eq_true (by omega)) | (exact decide_eq_true (by simp only [List.length_append, List.length_cons, List.length_nil]; omega)) | (simp; done) | (simp; omega) | rfl) ?_
        refine oS ?_
        refine oP ?_
        refine pPick [0, 1] ?_
        refine pEnd ?_
        refine blockQ_normal ?_
        refine thenQ_normal ?_
        refine WI.regB tabCt4_ok [0, 5, 8, 9, 10] ?_
        refine oG (hok := by first | with_reducible rfl | omega | (exact decide_eq_true (by omega)) | (exact decide_eq_true (by simp only [List.length_append, List.length_cons, List.length_nil]; omega)) | (simp; done) | (simp; omega) | rfl) ?_
        refine oS ?_
        refine oN ?_
        refine thenQ_normal ?_
        first | exact ⟨⟨j + 1, by rw [hst]; first | rfl | simp, by rw [hst, pk_xI, ← rows_str]; rfl, by omega⟩, by simp [down, Ab.get, D.val, intOf?]; omega⟩ | exact ⟨⟨j + 1, by rw [hst]; first | rfl | simp, by rw [hst], by omega⟩, by simp [down, Ab.get, D.val, intOf?]; omega⟩
      · try simp only [zB] at h1
        have hst : linL mark 0 (v.take (j + 1)) = linL mark 0 (v.take j) := by rw [hsn, if_neg (by omega)]; simp
        refine WI.skip ?_
        refine blockQ_normal ?_
        refine thenQ_normal ?_
        refine WI.regB tabCt4_ok [0, 5, 8, 9, 10] ?_
        refine oG (hok := by first | with_reducible rfl | omega | (exact decide_eq_true (by omega)) | (exact decide_eq_true (by simp only [List.length_append, List.length_cons, List.length_nil]; omega)) | (simp; done) | (simp; omega) | rfl) ?_
        refine oS ?_
        refine oN ?_
        refine thenQ_normal ?_
        first | exact ⟨⟨j + 1, by rw [hst]; first | rfl | simp, by rw [hst, pk_xI, ← rows_str]; rfl, by omega⟩, by simp [down, Ab.get, D.val, intOf?]; omega⟩ | exact ⟨⟨j + 1, by rw [hst]; first | rfl | simp, by rw [hst], by omega⟩, by simp [down, Ab.get, D.val, intOf?]; omega⟩
    · try simp only [zB] at h0
      refine WI.exit ?_
      refine thenQ_exit ?_
      refine thenQ_exit ?_
      refine blockQ_hit ?_
      refine thenQ_normal ?_
      refine WI.seq ?_
      have hvt : v.take j = v := List.take_of_length_le (by omega)
      rw [hvt]
      refine WI.regB tabCt4_ok [4] ?_
      iterate 2 refine oS ?_
      refine oN ?_
      refine thenQ_normal ?_
      refine WI.pickA [0, 1] ?_
      rw [pk_xI]
      refine WI.ret ?_
      first | refine lfR ?_ | refine lfR2 ?_
      first | rfl | exact ⟨rfl, rfl⟩ | trivial -- leaf 0
end Go.Proofs.Ytcffpndhodhncaa
end
section
/- fold.Lower. -/
set_option linter.unusedSimpArgs false
set_option linter.unusedVariables false
namespace Go.Proofs.Ytcffpndhodhncaa
open Go.RowKit Go.Bo Go.Ab

/-! ### small letters -/
def lowC (c : UInt8) : UInt8 := if 65 ≤ c.toNat ∧ c.toNat ≤ 90 then UInt8.ofNat (c.toNat + 32) else c
theorem lowC_up {c : UInt8} (h : 65 ≤ c.toNat ∧ c.toNat ≤ 90) : ((lowC c).toNat : Int) = (c.toNat : Int) - 65 + 97 := by
  unfold lowC; rw [if_pos h]; simp; omega
def lowS (s : List UInt8) : List UInt8 := s.map lowC
def lowL (s : List UInt8) (i : Nat) : List UInt8 := (s.take i).map lowC ++ s.drop i
theorem lowL_len (s : List UInt8) (i : Nat) : (lowL s i).length = s.length := by simp [lowL]; omega
theorem lowL_zero (s : List UInt8) : lowL s 0 = s := by simp [lowL]
theorem lowL_end (s : List UInt8) (i : Nat) (h : s.length ≤ i) : lowL s i = lowS s := by simp [lowL, lowS, List.take_of_length_le h, List.drop_of_length_le h]
theorem lowL_get (s : List UInt8) (i : Nat) (h : i < s.length) : (lowL s i)[i]'(by rw [lowL_len]; exact h) = s[i] := by
  simp [lowL, List.getElem_append, Nat.min_eq_left (Nat.le_of_lt h)]
theorem lowL_set (s : List UInt8) (i : Nat) (h : i < s.length) (c : UInt8) (hc : c = lowC s[i]) : (lowL s i).set i c = lowL s (i + 1) := by
  subst hc
  unfold lowL
  rw [List.take_succ_eq_append_getElem h, List.drop_eq_getElem_cons h, List.set_append_right _ _ (by simp; omega)]
  have hm : i - ((s.take i).map lowC).length = 0 := by simp; omega
  rw [hm, List.set_cons_zero, List.map_append, List.append_assoc]; rfl
theorem lowL_row (s : List UInt8) (i : Nat) (h : i < s.length) : ((lowL s i).map byteRow)[i]? = some [X.int .u8 s[i].toNat] := by
  have h2 : i < (lowL s i).length := by rw [lowL_len]; exact h
  rw [List.getElem?_map, List.getElem?_eq_getElem h2, lowL_get s i h]; rfl
theorem lowL_rset (s : List UInt8) (i : Nat) (h : i < s.length) (hc : 65 ≤ s[i].toNat ∧ s[i].toNat ≤ 90) : ((lowL s i).map byteRow).set i [X.int .u8 (IntKind.u8.wrap (IntKind.u8.wrap ((s[i].toNat : Int) - 65) + 97))] = (lowL s (i + 1)).map byteRow := by
  have e1 : IntKind.u8.wrap ((s[i].toNat : Int) - 65) = (s[i].toNat : Int) - 65 := IntWalk.u8_in _ (by omega)
  have e2 : IntKind.u8.wrap ((s[i].toNat : Int) - 65 + 97) = ((lowC s[i]).toNat : Int) := by rw [IntWalk.u8_in _ (by omega), lowC_up hc]
  rw [e1, e2, ← lowL_set s i h _ rfl, List.map_set]; rfl
theorem lowL_skip (s : List UInt8) (i : Nat) (h : i < s.length) (hc : lowC s[i] = s[i]) : lowL s i = lowL s (i + 1) := by
  unfold lowL
  rw [List.take_succ_eq_append_getElem h, List.map_append, List.append_assoc, List.drop_eq_getElem_cons h]
  simp [hc]
theorem lowC_no {c : UInt8} (h : ¬ (65 ≤ c.toNat ∧ c.toNat ≤ 90)) : lowC c = c := if_neg h
theorem lower_c (s : List UInt8) (hl : s.length ≤ 1000000) : PCalls Try.prog 89 [.x (.str s)] (.x (.str (lowS s))) := by
  refine FCalls.pure (fcallsG (fz := true) G_ok (p := i89) rfl _ (Nat.le_of_ble_eq_true rfl) _ (fun C0 E0 => ?_)) rfl
  dsimp only [i89, argsφ]
  have uu := And.intro @lowL_len (And.intro @bytes_all (@bytes_row))
  refine WI.seq ?_
  refine WI.regB noTabs_ok [0] ?_
  refine oS ?_
  refine oN ?_
  refine thenQ_normal ?_
  refine WI.seq ?_
  refine WI.regB noTabs_ok [3] ?_
  refine oS ?_
  refine oG ?_
  refine oS ?_
  refine oN ?_
  refine thenQ_normal ?_
  refine WI.seq ?_
  refine WI.seq ?_
  refine WI.regB noTabs_ok [3, 8, 9, 10] ?_
  refine oS ?_
  refine oG ?_
  refine oS ?_
  refine oN ?_
  refine thenQ_normal ?_
  refine WI.block ?_
  refine WI.loop (fun φ os => ∃ (i : Nat), φ = [(3, .ref 0 s.length 0 s.length), (8, .ref 0 s.length 0 s.length), (9, .x (.int .i64 s.length)), (10, .x (.int .i64 i))] ∧ os = [.rows true 5 1 ((lowL s i).map byteRow)] ∧ i ≤ s.length) (down s.length 10) ?_ (fun φ os hI => ?_)
  · exact ⟨0, rfl, by rw [lowL_zero], by omega⟩
  · obtain ⟨i, rfl, rfl, hi⟩ := hI
    refine WI.seq ?_
    refine WI.regB noTabs_ok [3, 8, 9, 10, 11] ?_
    refine oG ?_
    refine oN ?_
    refine thenQ_normal ?_
    refine WI.seq ?_
    refine WI.cond (b := _) rfl rfl (fun h0 => ?_) (fun h0 => ?_)
    · try simp only [zB] at h0
      refine WI.skip ?_
      refine thenQ_normal ?_
      refine WI.seq ?_
      refine WI.block ?_
      refine WI.seq ?_
      have hi4 : i < s.length := by omega
      have uu := And.intro uu (lowL_row s i hi4)
      have hb8 : s[i].toNat < 256 := UInt8.toNat_lt _
      refine WI.regB noTabs_ok [3, 4, 5, 8, 9, 10] ?_
      refine oS ?_
      iterate 2 refine oG ?_
      iterate 2 refine oS ?_
      refine oN ?_
      refine thenQ_normal ?_
      refine WI.seq ?_
      refine WI.regB noTabs_ok [3, 4, 5, 8, 9, 10, 20] ?_
      refine oS ?_
      refine oG ?_
      refine oS ?_
      iterate 3 refine oG ?_
      refine oN ?_
      refine thenQ_normal ?_
      refine WI.cond (b := _) rfl rfl (fun h1 => ?_) (fun h1 => ?_)
      · try simp only [zB] at h1
        have hcs : 65 ≤ s[i].toNat ∧ s[i].toNat ≤ 90 := by omega
        have uu := And.intro uu (lowL_rset s i hi4 hcs)
        refine WI.regB noTabs_ok [3, 8, 9, 10] ?_
        iterate 3 refine oS ?_
        iterate 4 refine oG ?_
        refine oN ?_
        refine blockQ_normal ?_
        refine thenQ_normal ?_
        refine WI.regB noTabs_ok [3, 8, 9, 10] ?_
        refine oG ?_
        refine oS ?_
        refine oN ?_
        refine thenQ_normal ?_
        exact ⟨⟨i + 1, by first | rfl | simp, by first | rfl | rw [← hset], by omega⟩, by simp [down, Ab.get, D.val, intOf?]; omega⟩
      · try simp only [zB] at h1
        have hcs : ¬ (65 ≤ s[i].toNat ∧ s[i].toNat ≤ 90) := by omega
        have hset := lowL_skip s i hi4 (lowC_no hcs)
        refine WI.skip ?_
        refine blockQ_normal ?_
        refine thenQ_normal ?_
        refine WI.regB noTabs_ok [3, 8, 9, 10] ?_
        refine oG ?_
        refine oS ?_
        refine oN ?_
        refine thenQ_normal ?_
        exact ⟨⟨i + 1, by first | rfl | simp, by first | rfl | rw [← hset], by omega⟩, by simp [down, Ab.get, D.val, intOf?]; omega⟩
    · try simp only [zB] at h0
      refine WI.exit ?_
      refine thenQ_exit ?_
      refine thenQ_exit ?_
      refine blockQ_hit ?_
      refine thenQ_normal ?_
      refine WI.seq ?_
      have e8 : ((lowL s i).map byteRow).take s.length = (lowS s).map byteRow := by rw [List.take_of_length_le (by simp [lowL_len]), lowL_end s i (by omega)]
      have uu := And.intro uu e8
      refine WI.regB noTabs_ok [2] ?_
      refine oS ?_
      refine oG ?_
      refine oS ?_
      refine oN ?_
      refine thenQ_normal ?_
      refine WI.ret ?_
      first | refine lfR ?_ | refine lfR2 ?_
      first | rfl | exact ⟨rfl, rfl⟩ | trivial -- leaf 0
def lowerG : List D → Option (Bool × D)
  | [.x (.str s)] => some (decide (s.length ≤ 1000000), .x (.str (lowS s)))
  | _ => none
theorem lowerG_ok : ∀ args r, lowerG args = some (true, r) → PCalls Try.prog 89 args r := by
  intro args r h
  unfold lowerG at h
  split at h
  · rename_i s
    simp only [Option.some.injEq, Prod.mk.injEq, Bool.and_eq_true, decide_eq_true_eq, true_and] at h
    obtain ⟨h1, rfl⟩ := h
    exact (lower_c s h1)
  · cases h
end Go.Proofs.Ytcffpndhodhncaa
end
section
/- bothyref05.Lower. -/
set_option linter.unusedSimpArgs false
set_option linter.unusedVariables false
namespace Go.Proofs.Ytcffpndhodhncaa
open Go.RowKit Go.Bo Go.Ab

theorem lowS_len (s : List UInt8) : (lowS s).length = s.length := by simp [lowS]
theorem lowS_take (s : List UInt8) (i : Nat) (h : i < s.length) : lowS (s.take (i + 1)) = lowS (s.take i) ++ [lowC (s.getD i 0)] := by
  rw [show s.getD i 0 = s[i] by simp [h]]; unfold lowS; rw [List.take_succ_eq_append_getElem h, List.map_append]; rfl
theorem bytes_snoc (l : List UInt8) (c : UInt8) : (l ++ [c]).map byteRow = l.map byteRow ++ [[X.int .u8 c.toNat]] := by rw [List.map_append]; rfl
theorem lowC_w {c : UInt8} (h : 65 ≤ c.toNat ∧ c.toNat ≤ 90) : IntKind.u8.wrap ((c.toNat : Int) + 32) = ((lowC c).toNat : Int) := by
  have := UInt8.toNat_lt c
  rw [IntWalk.u8_in _ (by omega), lowC_up h]; omega
theorem lower5_c (s : List UInt8) (hl : s.length ≤ 1000000) : PCalls Try.prog 55 [.x (.str s)] (.x (.str (lowS s))) := by
  refine FCalls.pure (fcallsG (fz := true) G_ok (p := i55) rfl _ (Nat.le_of_ble_eq_true rfl) _ (fun C0 E0 => ?_)) rfl
  dsimp only [i55, argsφ]
  have uu := And.intro @bytes_all (@bytes_row)
  refine WI.seq ?_
  refine WI.regB noTabs_ok [0] ?_
  refine oS ?_
  refine oN ?_
  refine thenQ_normal ?_
  refine WI.seq ?_
  refine WI.regB noTabs_ok [0, 3] ?_
  refine oS ?_
  refine oN ?_
  refine thenQ_normal ?_
  refine WI.seq ?_
  refine WI.seq ?_
  refine WI.regB noTabs_ok [0, 3, 4] ?_
  refine oS ?_
  refine oN ?_
  refine thenQ_normal ?_
  refine WI.block ?_
  refine WI.ownA 3 5 1 ?_
  refine WI.loop (fun φ os => ∃ (i : Nat), φ = [(0, .x (.str s)), (3, .ref 0 (lowS (s.take i)).length 0 (lowS (s.take i)).length), (4, .x (.int .i64 i))] ∧ os = [.rows false 5 1 ((lowS (s.take i)).map byteRow)] ∧ i ≤ s.length) (down s.length 4) ?_ (fun φ os hI => ?_)
  · exact ⟨0, rfl, rfl, by omega⟩
  · obtain ⟨i, rfl, rfl, hi⟩ := hI
    refine WI.seq ?_
    refine WI.seq ?_
    refine WI.regB noTabs_ok [0, 3, 4, 9] ?_
    iterate 2 refine oS ?_
    iterate 2 refine oG (hok := by first | with_reducible rfl | omega | (exact decide_eq_true (by omega)) | (rw [List.take_of_length_le (by simp)]; exact bytes_all _) | (simp; done) | (simp; omega) | rfl) ?_
    refine oN ?_
    refine thenQ_normal ?_
    refine WI.cond (b := _) rfl rfl (fun h0 => ?_) (fun h0 => ?_)
    · try simp only [zB] at h0
      refine WI.skip ?_
      refine thenQ_normal ?_
      refine WI.seq ?_
      refine WI.block ?_
      refine WI.seq ?_
      have hi4 : i < s.length := by omega
      have hlt : (lowS (s.take i)).length ≤ 1000000 := by rw [lowS_len, List.length_take]; omega
      have hst := lowS_take s i hi4
      have hb8 : (s.getD i 0).toNat < 256 := UInt8.toNat_lt _
      refine WI.regB noTabs_ok [0, 3, 4, 5] ?_
      iterate 2 refine oS ?_
      refine oG (hok := by first | with_reducible rfl | omega | (exact decide_eq_true (by omega)) | (rw [List.take_of_length_le (by simp)]; exact bytes_all _) | (simp; done) | (simp; omega) | rfl) ?_
      refine oS ?_
      refine oN ?_
      refine thenQ_normal ?_
      refine WI.seq ?_
      refine WI.seq ?_
      refine WI.regB noTabs_ok [0, 3, 4, 5, 20] ?_
      refine oS ?_
      refine oG (hok := by first | with_reducible rfl | omega | (exact decide_eq_true (by omega)) | (rw [List.take_of_length_le (by simp)]; exact bytes_all _) | (simp; done) | (simp; omega) | rfl) ?_
      refine oS ?_
      iterate 3 refine oG (hok := by first | with_reducible rfl | omega | (exact decide_eq_true (by omega)) | (rw [List.take_of_length_le (by simp)]; exact bytes_all _) | (simp; done) | (simp; omega) | rfl) ?_
      refine oN ?_
      refine thenQ_normal ?_
      refine WI.cond (b := _) rfl rfl (fun h1 => ?_) (fun h1 => ?_)
      · try simp only [zB] at h1
        have hcs : 65 ≤ (s.getD i 0).toNat ∧ (s.getD i 0).toNat ≤ 90 := by omega
        refine WI.regB noTabs_ok [0, 3, 4, 5] ?_
        refine oS ?_
        refine oG (hok := by first | with_reducible rfl | omega | (exact decide_eq_true (by omega)) | (rw [List.take_of_length_le (by simp)]; exact bytes_all _) | (simp; done) | (simp; omega) | rfl) ?_
        refine oS ?_
        refine oN ?_
        refine thenQ_normal ?_
        refine WI.regB noTabs_ok [0, 3, 4] ?_
        iterate 2 refine oS ?_
        iterate 2 refine oG (hok := by first | with_reducible rfl | omega | (exact decide_eq_true (by omega)) | (rw [List.take_of_length_le (by simp)]; exact bytes_all _) | (simp; done) | (simp; omega) | rfl) ?_
        refine oS ?_
        refine oN ?_
        refine blockQ_normal ?_
        refine thenQ_normal ?_
        refine WI.post ?_
        refine WI.regB noTabs_ok [0, 3, 4] ?_
        refine oS ?_
        refine oG (hok := by first | with_reducible rfl | omega | (exact decide_eq_true (by omega)) | (rw [List.take_of_length_le (by simp)]; exact bytes_all _) | (simp; done) | (simp; omega) | rfl) ?_
        refine oS ?_
        refine oP ?_
        refine pPick [0] ?_
        refine pEnd ?_
        refine thenQ_normal ?_
        exact ⟨⟨i + 1, by rw [hst, List.length_append]; rfl, by rw [hst, bytes_snoc]; first | rfl | rw [lowC_no hcs] | rw [lowC_w hcs], by omega⟩, by simp [down, Ab.get, D.val, intOf?]; omega⟩
      · try simp only [zB] at h1
        have hcs : ¬ (65 ≤ (s.getD i 0).toNat ∧ (s.getD i 0).toNat ≤ 90) := by omega
        refine WI.skip ?_
        refine thenQ_normal ?_
        refine WI.regB noTabs_ok [0, 3, 4] ?_
        iterate 2 refine oS ?_
        iterate 2 refine oG (hok := by first | with_reducible rfl | omega | (exact decide_eq_true (by omega)) | (rw [List.take_of_length_le (by simp)]; exact bytes_all _) | (simp; done) | (simp; omega) | rfl) ?_
        refine oS ?_
        refine oN ?_
        refine blockQ_normal ?_
        refine thenQ_normal ?_
        refine WI.post ?_
        refine WI.regB noTabs_ok [0, 3, 4] ?_
        refine oS ?_
        refine oG (hok := by first | with_reducible rfl | omega | (exact decide_eq_true (by omega)) | (rw [List.take_of_length_le (by simp)]; exact bytes_all _) | (simp; done) | (simp; omega) | rfl) ?_
        refine oS ?_
        refine oP ?_
        refine pPick [0] ?_
        refine pEnd ?_
        refine thenQ_normal ?_
        exact ⟨⟨i + 1, by rw [hst, List.length_append]; rfl, by rw [hst, bytes_snoc]; first | rfl | rw [lowC_no hcs] | rw [lowC_w hcs], by omega⟩, by simp [down, Ab.get, D.val, intOf?]; omega⟩
    · try simp only [zB] at h0
      refine WI.exit ?_
      refine thenQ_exit ?_
      refine thenQ_exit ?_
      refine blockQ_hit ?_
      refine thenQ_normal ?_
      refine WI.seq ?_
      have e8 : ((lowS (s.take i)).map byteRow).take (lowS (s.take i)).length = (lowS s).map byteRow := by rw [List.take_of_length_le (by simp), List.take_of_length_le (by omega)]
      have uu := And.intro uu e8
      refine WI.regB noTabs_ok [2] ?_
      refine oS ?_
      refine oG (hok := by first | with_reducible rfl | omega | (exact decide_eq_true (by omega)) | (rw [List.take_of_length_le (by simp)]; exact bytes_all _) | (simp; done) | (simp; omega) | rfl) ?_
      refine oS ?_
      refine oN ?_
      refine thenQ_normal ?_
      refine WI.ret ?_
      first | refine lfR ?_ | refine lfR2 ?_
      first | rfl | exact ⟨rfl, rfl⟩ | trivial -- leaf 0
def lower5G : List D → Option (Bool × D)
  | [.x (.str s)] => some (decide (s.length ≤ 1000000), .x (.str (lowS s)))
  | _ => none
theorem lower5G_ok : ∀ args r, lower5G args = some (true, r) → PCalls Try.prog 55 args r := by
  intro args r h
  unfold lower5G at h
  split at h
  · rename_i s
    simp only [Option.some.injEq, Prod.mk.injEq, Bool.and_eq_true, decide_eq_true_eq, true_and] at h
    obtain ⟨h1, rfl⟩ := h
    exact (lower5_c s h1)
  · cases h
end Go.Proofs.Ytcffpndhodhncaa
end
section
/- bothyref10.put. -/
set_option linter.unusedSimpArgs false
set_option linter.unusedVariables false
namespace Go.Proofs.Ytcffpndhodhncaa
open Go.RowKit Go.Bo Go.Ab

/-! ### values behind values, each once -/
def insV (acc : List (List UInt8)) (v : List UInt8) : List (List UInt8) := if v ∈ acc then acc else acc ++ [v]
def addV (b vs : List (List UInt8)) : List (List UInt8) := vs.foldl insV b
theorem addV_nil (b : List (List UInt8)) : addV b [] = b := rfl
theorem addV_take (b vs : List (List UInt8)) (j : Nat) (h : j < vs.length) : addV b (vs.take (j + 1)) = insV (addV b (vs.take j)) vs[j] := by
  unfold addV; rw [List.take_succ_eq_append_getElem h, List.foldl_append]; rfl
theorem insV_len (acc : List (List UInt8)) (v : List UInt8) : (insV acc v).length ≤ acc.length + 1 := by unfold insV; split <;> simp
theorem addV_len (b vs : List (List UInt8)) : (addV b vs).length ≤ b.length + vs.length := by
  induction vs generalizing b with
  | nil => simp [addV]
  | cons v vs ih => have := ih (insV b v); have := insV_len b v; simp only [addV, List.foldl_cons, List.length_cons] at *; omega
/-- The place of a type: behind those that are less. -/
def putAt (l : List TAttr) (n : List UInt8) : Nat := (l.takeWhile fun a => Op.bytesLess a.1 n).length
theorem putAt_le (l : List TAttr) (n : List UInt8) : putAt l n ≤ l.length := (List.takeWhile_sublist _).length_le
theorem putAt_eq (l : List TAttr) (n : List UInt8) (k : Nat) (hk : k ≤ l.length) (ha : ∀ a ∈ l.take k, Op.bytesLess a.1 n = true) (hb : ∀ h : k < l.length, Op.bytesLess l[k].1 n = false) : putAt l n = k := by
  unfold putAt
  rw [← List.take_append_drop k l, List.takeWhile_append_of_pos ha, List.length_append, List.length_take, Nat.min_eq_left hk]
  by_cases h : k < l.length
  · rw [List.drop_eq_getElem_cons h, List.takeWhile_cons, hb h]; simp
  · rw [List.drop_of_length_le (by omega)]; simp
/-- Is the type there? -/
def hitA (l : List TAttr) (n : List UInt8) : Bool := match l[putAt l n]? with
  | some a => a.1 == n
  | none => false
def baseV (l : List TAttr) (n : List UInt8) : List (List UInt8) := if hitA l n then (l.getD (putAt l n) ([], [], ())).2.1 else []
def restA (l : List TAttr) (n : List UInt8) : List TAttr := if hitA l n then l.drop (putAt l n + 1) else l.drop (putAt l n)
def oneA (n : List UInt8) (v : List (List UInt8)) : List TAttr := if v = [] then [] else [(n, v, ())]
def rputL (l : List TAttr) (n : List UInt8) (vs : List (List UInt8)) : List TAttr := (l.take (putAt l n) ++ oneA n (addV (baseV l n) vs)) ++ restA l n

theorem putAt_less (l : List TAttr) (n : List UInt8) (j : Nat) (h : j < putAt l n) : Op.bytesLess (l[j]'(Nat.lt_of_lt_of_le h (putAt_le l n))).1 n = true := by
  have hp : (l.takeWhile fun a => Op.bytesLess a.1 n) <+: l := List.takeWhile_prefix _
  have := List.all_eq_true.1 (List.all_takeWhile (p := fun a : TAttr => Op.bytesLess a.1 n) (l := l)) _ (List.getElem_mem (h := h))
  rwa [hp.getElem h] at this
theorem putAt_stop (l : List TAttr) (n : List UInt8) (h : putAt l n < l.length) : Op.bytesLess l[putAt l n].1 n = false := by
  unfold putAt at *
  induction l with
  | nil => simp at h
  | cons a l ih =>
    by_cases ha : Op.bytesLess a.1 n = true
    · simp only [List.takeWhile_cons, ha, if_true, List.length_cons] at h ⊢
      simpa using ih (by omega)
    · simp only [List.takeWhile_cons, ha, Bool.false_eq_true, if_false, List.length_nil]
      simpa using ha
theorem putAt_more (l : List TAttr) (n : List UInt8) (j : Nat) (hj : j < l.length) (hk : j ≤ putAt l n) (h : Op.bytesLess l[j].1 n = true) : j < putAt l n := by
  rcases Nat.lt_or_eq_of_le hk with h1 | h1
  · exact h1
  · subst h1; rw [putAt_stop l n hj] at h; cases h
theorem hitA_eq (l : List TAttr) (n : List UInt8) (hk : putAt l n < l.length) (h : hitA l n = true) : l[putAt l n].1 = n := by
  unfold hitA at h; rw [List.getElem?_eq_getElem hk] at h; simpa using h
theorem mem_take_succ (b : List (List UInt8)) (v : List UInt8) (i : Nat) (h : i < b.length) : decide (v ∈ b.take (i + 1)) = (decide (v ∈ b.take i) || (b[i] == v)) := by
  rw [List.take_succ_eq_append_getElem h, Bool.eq_iff_iff]
  simp only [decide_eq_true_eq, Bool.or_eq_true, beq_iff_eq, List.mem_append, List.mem_singleton]
  exact ⟨fun h => h.imp id Eq.symm, fun h => h.imp id Eq.symm⟩
theorem oneA_some (n : List UInt8) (v : List (List UInt8)) (h : 0 < v.length) : rows rAttr (oneA n v) = [[X.str n, X.sl (rows rStr v)]] := by
  unfold oneA; rw [if_neg (fun e => by simp [e] at h)]; rfl
theorem oneA_none (n : List UInt8) (v : List (List UInt8)) (h : ¬ 0 < v.length) : oneA n v = [] := by
  unfold oneA; rw [if_pos (List.length_eq_zero_iff.1 (by omega))]
-- WALKS
theorem rput_A (l : List TAttr) (n : List UInt8) (vs : List (List UInt8)) (hh : hitA l n = true) (hk : putAt l n < l.length) (hl : l.length ≤ 1000) (hv : vs.length ≤ 1000) (hb : ∀ a ∈ l, a.2.1.length ≤ 100000) : PCalls Try.prog 54 [.x (.sl (rows rAttr l)), .agg [.x (.str n), .x (.sl (rows rStr vs))]] (.x (.sl (rows rAttr (rputL l n vs)))) := by
  have hn : l[putAt l n].1 = n := hitA_eq l n hk hh
  have hba : l[putAt l n].2.1.length ≤ 100000 := hb _ (List.getElem_mem _)
  have hb0 : baseV l n = l[putAt l n].2.1 := by unfold baseV; rw [hh]; simp [hk]
  have hr0 : restA l n = l.drop (putAt l n + 1) := by unfold restA; rw [hh]; rfl
  have hlen := addV_len (l[putAt l n].2.1) vs
  have hple := putAt_le l n
  unfold rputL
  rw [hb0, hr0]
  refine FCalls.pure (fcallsG (fz := true) G_ok (p := i54) rfl _ (Nat.le_of_ble_eq_true rfl) _ (fun C0 E0 => ?_)) rfl
  dsimp only [i54, argsφ]
  have uu := trivial
  refine WI.seq ?_
  refine WI.regB noTabs_ok [0, 3] ?_
  refine oG (hok := by first | with_reducible rfl | omega | (exact decide_eq_true (by omega)) | (exact decide_eq_true (by simp only [List.length_append, List.length_cons, List.length_nil, List.length_take, List.length_drop]; omega)) | (rw [Bool.and_eq_true]; constructor <;> exact decide_eq_true (by simp [rows_len] <;> omega)) | (simp; done) | (simp; omega) | rfl) ?_
  refine oS ?_
  refine oN ?_
  refine thenQ_normal ?_
  refine WI.seq ?_
  refine WI.regB noTabs_ok [0, 3, 5] ?_
  refine oS ?_
  refine oN ?_
  refine thenQ_normal ?_
  refine WI.seq ?_
  refine WI.block ?_
  refine WI.loop (fun φ os => ∃ (j : Nat), φ = [(0, .x (.sl (rows rAttr l))), (3, .ptr 0 0), (5, .x (.int .i64 j))] ∧ os = [.box [.x (.str n), .x (.sl (rows rStr vs))]] ∧ j ≤ putAt l n) (down (putAt l n) 5) ?_ (fun φ os hI => ?_)
  · exact ⟨0, rfl, rfl, by omega⟩
  · obtain ⟨j, rfl, rfl, hj⟩ := hI
    refine WI.seq ?_
    refine WI.seq ?_
    have hd := decide_eq_true (show (j : Int) < (l.length : Int) by omega)
    have uu := And.intro uu hd
    refine WI.dregB noTabs_ok [0, 3, 5, 26] ?_
    iterate 2 refine dFS ?_
    refine dQG (hok := by first | with_reducible rfl | omega | (exact decide_eq_true (by omega)) | (exact decide_eq_true (by simp only [List.length_append, List.length_cons, List.length_nil, List.length_take, List.length_drop]; omega)) | (rw [Bool.and_eq_true]; constructor <;> exact decide_eq_true (by simp [rows_len] <;> omega)) | (simp; done) | (simp; omega) | rfl) ?_
    refine dFG (hok := by first | with_reducible rfl | omega | (exact decide_eq_true (by omega)) | (exact decide_eq_true (by simp only [List.length_append, List.length_cons, List.length_nil, List.length_take, List.length_drop]; omega)) | (rw [Bool.and_eq_true]; constructor <;> exact decide_eq_true (by simp [rows_len] <;> omega)) | (simp; done) | (simp; omega) | rfl) ?_
    refine dFS ?_
    iterate 2 refine dFG (hok := by first | with_reducible rfl | omega | (exact decide_eq_true (by omega)) | (exact decide_eq_true (by simp only [List.length_append, List.length_cons, List.length_nil, List.length_take, List.length_drop]; omega)) | (rw [Bool.and_eq_true]; constructor <;> exact decide_eq_true (by simp [rows_len] <;> omega)) | (simp; done) | (simp; omega) | rfl) ?_
    refine dQG (hok := by first | with_reducible rfl | omega | (exact decide_eq_true (by omega)) | (exact decide_eq_true (by simp only [List.length_append, List.length_cons, List.length_nil, List.length_take, List.length_drop]; omega)) | (rw [Bool.and_eq_true]; constructor <;> exact decide_eq_true (by simp [rows_len] <;> omega)) | (simp; done) | (simp; omega) | rfl) ?_
    refine dFG (hok := by first | with_reducible rfl | omega | (exact decide_eq_true (by omega)) | (exact decide_eq_true (by simp only [List.length_append, List.length_cons, List.length_nil, List.length_take, List.length_drop]; omega)) | (rw [Bool.and_eq_true]; constructor <;> exact decide_eq_true (by simp [rows_len] <;> omega)) | (simp; done) | (simp; omega) | rfl) ?_
    refine dQG (hok := by first | with_reducible rfl | omega | (exact decide_eq_true (by omega)) | (exact decide_eq_true (by simp only [List.length_append, List.length_cons, List.length_nil, List.length_take, List.length_drop]; omega)) | (rw [Bool.and_eq_true]; constructor <;> exact decide_eq_true (by simp [rows_len] <;> omega)) | (simp; done) | (simp; omega) | rfl) ?_
    refine dFG (hok := by first | with_reducible rfl | omega | (exact decide_eq_true (by omega)) | (exact decide_eq_true (by simp only [List.length_append, List.length_cons, List.length_nil, List.length_take, List.length_drop]; omega)) | (rw [Bool.and_eq_true]; constructor <;> exact decide_eq_true (by simp [rows_len] <;> omega)) | (simp; done) | (simp; omega) | rfl) ?_
    refine dQG (hok := by first | with_reducible rfl | omega | (exact decide_eq_true (by omega)) | (exact decide_eq_true (by simp only [List.length_append, List.length_cons, List.length_nil, List.length_take, List.length_drop]; omega)) | (rw [Bool.and_eq_true]; constructor <;> exact decide_eq_true (by simp [rows_len] <;> omega)) | (simp; done) | (simp; omega) | rfl) ?_
    iterate 2 refine dFG (hok := by first | with_reducible rfl | omega | (exact decide_eq_true (by omega)) | (exact decide_eq_true (by simp only [List.length_append, List.length_cons, List.length_nil, List.length_take, List.length_drop]; omega)) | (rw [Bool.and_eq_true]; constructor <;> exact decide_eq_true (by simp [rows_len] <;> omega)) | (simp; done) | (simp; omega) | rfl) ?_
    refine dN ?_
    refine thenQ_normal ?_
    refine WI.cond (b := _) rfl rfl (fun h0 => ?_) (fun h0 => ?_)
    · try simp only [zB] at h0
      have hjk : j < putAt l n := putAt_more l n j (by omega) hj (by simpa using h0)
      refine WI.skip ?_
      refine thenQ_normal ?_
      refine WI.block ?_
      refine WI.regB noTabs_ok [0, 3, 5] ?_
      refine oS ?_
      refine oG (hok := by first | with_reducible rfl | omega | (exact decide_eq_true (by omega)) | (exact decide_eq_true (by simp only [List.length_append, List.length_cons, List.length_nil, List.length_take, List.length_drop]; omega)) | (rw [Bool.and_eq_true]; constructor <;> exact decide_eq_true (by simp [rows_len] <;> omega)) | (simp; done) | (simp; omega) | rfl) ?_
      refine oS ?_
      refine oN ?_
      refine blockQ_normal ?_
      refine thenQ_normal ?_
      exact ⟨⟨j + 1, rfl, rfl, by omega⟩, by simp [down, Ab.get, D.val, intOf?]; omega⟩
    · try simp only [zB] at h0
      have hjk : j = putAt l n := by
        apply Nat.le_antisymm hj; apply Nat.le_of_not_lt; intro hc; exact absurd (putAt_less l n j hc) (by simpa using h0)
      subst hjk
      refine WI.exit ?_
      refine thenQ_exit ?_
      refine thenQ_exit ?_
      refine blockQ_hit ?_
      refine thenQ_normal ?_
      refine WI.seq ?_
      refine WI.regB noTabs_ok [0, 3, 5, 6] ?_
      refine oS ?_
      iterate 4 refine oG (hok := by first | with_reducible rfl | omega | (exact decide_eq_true (by omega)) | (exact decide_eq_true (by simp only [List.length_append, List.length_cons, List.length_nil, List.length_take, List.length_drop]; omega)) | (rw [Bool.and_eq_true]; constructor <;> exact decide_eq_true (by simp [rows_len] <;> omega)) | (simp; done) | (simp; omega) | rfl) ?_
      refine oN ?_
      refine thenQ_normal ?_
      refine WI.seq ?_
      refine WI.regB noTabs_ok [0, 3, 5, 6, 7] ?_
      iterate 2 refine oS ?_
      refine oG (hok := by first | with_reducible rfl | omega | (exact decide_eq_true (by omega)) | (exact decide_eq_true (by simp only [List.length_append, List.length_cons, List.length_nil, List.length_take, List.length_drop]; omega)) | (rw [Bool.and_eq_true]; constructor <;> exact decide_eq_true (by simp [rows_len] <;> omega)) | (simp; done) | (simp; omega) | rfl) ?_
      refine oS ?_
      refine oN ?_
      refine thenQ_normal ?_
      refine WI.seq ?_
      refine WI.seq ?_
      have hd6 := decide_eq_true (show ((putAt l n : Nat) : Int) < (l.length : Int) by omega)
      have uu := And.intro uu hd6
      refine WI.dregB noTabs_ok [0, 3, 5, 6, 7, 48] ?_
      iterate 2 refine dFS ?_
      refine dQG (hok := by first | with_reducible rfl | omega | (exact decide_eq_true (by omega)) | (exact decide_eq_true (by simp only [List.length_append, List.length_cons, List.length_nil, List.length_take, List.length_drop]; omega)) | (rw [Bool.and_eq_true]; constructor <;> exact decide_eq_true (by simp [rows_len] <;> omega)) | (simp; done) | (simp; omega) | rfl) ?_
      refine dFG (hok := by first | with_reducible rfl | omega | (exact decide_eq_true (by omega)) | (exact decide_eq_true (by simp only [List.length_append, List.length_cons, List.length_nil, List.length_take, List.length_drop]; omega)) | (rw [Bool.and_eq_true]; constructor <;> exact decide_eq_true (by simp [rows_len] <;> omega)) | (simp; done) | (simp; omega) | rfl) ?_
      refine dFS ?_
      iterate 2 refine dFG (hok := by first | with_reducible rfl | omega | (exact decide_eq_true (by omega)) | (exact decide_eq_true (by simp only [List.length_append, List.length_cons, List.length_nil, List.length_take, List.length_drop]; omega)) | (rw [Bool.and_eq_true]; constructor <;> exact decide_eq_true (by simp [rows_len] <;> omega)) | (simp; done) | (simp; omega) | rfl) ?_
      refine dQG (hok := by first | with_reducible rfl | omega | (exact decide_eq_true (by omega)) | (exact decide_eq_true (by simp only [List.length_append, List.length_cons, List.length_nil, List.length_take, List.length_drop]; omega)) | (rw [Bool.and_eq_true]; constructor <;> exact decide_eq_true (by simp [rows_len] <;> omega)) | (simp; done) | (simp; omega) | rfl) ?_
      refine dFG (hok := by first | with_reducible rfl | omega | (exact decide_eq_true (by omega)) | (exact decide_eq_true (by simp only [List.length_append, List.length_cons, List.length_nil, List.length_take, List.length_drop]; omega)) | (rw [Bool.and_eq_true]; constructor <;> exact decide_eq_true (by simp [rows_len] <;> omega)) | (simp; done) | (simp; omega) | rfl) ?_
      refine dQG (hok := by first | with_reducible rfl | omega | (exact decide_eq_true (by omega)) | (exact decide_eq_true (by simp only [List.length_append, List.length_cons, List.length_nil, List.length_take, List.length_drop]; omega)) | (rw [Bool.and_eq_true]; constructor <;> exact decide_eq_true (by simp [rows_len] <;> omega)) | (simp; done) | (simp; omega) | rfl) ?_
      refine dFG (hok := by first | with_reducible rfl | omega | (exact decide_eq_true (by omega)) | (exact decide_eq_true (by simp only [List.length_append, List.length_cons, List.length_nil, List.length_take, List.length_drop]; omega)) | (rw [Bool.and_eq_true]; constructor <;> exact decide_eq_true (by simp [rows_len] <;> omega)) | (simp; done) | (simp; omega) | rfl) ?_
      refine dQG (hok := by first | with_reducible rfl | omega | (exact decide_eq_true (by omega)) | (exact decide_eq_true (by simp only [List.length_append, List.length_cons, List.length_nil, List.length_take, List.length_drop]; omega)) | (rw [Bool.and_eq_true]; constructor <;> exact decide_eq_true (by simp [rows_len] <;> omega)) | (simp; done) | (simp; omega) | rfl) ?_
      iterate 2 refine dFG (hok := by first | with_reducible rfl | omega | (exact decide_eq_true (by omega)) | (exact decide_eq_true (by simp only [List.length_append, List.length_cons, List.length_nil, List.length_take, List.length_drop]; omega)) | (rw [Bool.and_eq_true]; constructor <;> exact decide_eq_true (by simp [rows_len] <;> omega)) | (simp; done) | (simp; omega) | rfl) ?_
      refine dN ?_
      refine thenQ_normal ?_
      refine WI.cond (b := _) rfl rfl (fun h1 => ?_) (fun h1 => ?_)
      · try simp only [zB] at h1
        refine WI.seq ?_
        refine WI.regB noTabs_ok [0, 3, 5, 6] ?_
        iterate 2 refine oS ?_
        iterate 3 refine oG (hok := by first | with_reducible rfl | omega | (exact decide_eq_true (by omega)) | (exact decide_eq_true (by simp only [List.length_append, List.length_cons, List.length_nil, List.length_take, List.length_drop]; omega)) | (rw [Bool.and_eq_true]; constructor <;> exact decide_eq_true (by simp [rows_len] <;> omega)) | (simp; done) | (simp; omega) | rfl) ?_
        refine oN ?_
        refine thenQ_normal ?_
        refine WI.regB noTabs_ok [0, 3, 5, 6, 7] ?_
        iterate 2 refine oS ?_
        iterate 2 refine oG (hok := by first | with_reducible rfl | omega | (exact decide_eq_true (by omega)) | (exact decide_eq_true (by simp only [List.length_append, List.length_cons, List.length_nil, List.length_take, List.length_drop]; omega)) | (rw [Bool.and_eq_true]; constructor <;> exact decide_eq_true (by simp [rows_len] <;> omega)) | (simp; done) | (simp; omega) | rfl) ?_
        refine oS ?_
        refine oN ?_
        refine thenQ_normal ?_
        refine WI.seq ?_
        refine WI.regB noTabs_ok [0, 3, 5, 6, 7, 8] ?_
        refine oS ?_
        refine oN ?_
        refine thenQ_normal ?_
        refine WI.seq ?_
        refine WI.ownA 8 9 1 ?_
        refine WI.regB noTabs_ok [0, 3, 5, 6, 7, 8] ?_
        iterate 2 refine oS ?_
        iterate 2 refine oG (hok := by first | with_reducible rfl | omega | (exact decide_eq_true (by omega)) | (exact decide_eq_true (by simp only [List.length_append, List.length_cons, List.length_nil, List.length_take, List.length_drop]; omega)) | (rw [Bool.and_eq_true]; constructor <;> exact decide_eq_true (by simp [rows_len] <;> omega)) | (simp; done) | (simp; omega) | rfl) ?_
        refine oS ?_
        refine oN ?_
        refine thenQ_normal ?_
        refine WI.seq ?_
        refine WI.seq ?_
        refine WI.regB noTabs_ok [0, 3, 5, 6, 7, 8, 9] ?_
        refine oS ?_
        refine oN ?_
        refine thenQ_normal ?_
        refine WI.block ?_
        refine WI.loop (fun φ os => ∃ (j : Nat), φ = [(0, .x (.sl (rows rAttr l))), (3, .ptr 0 0), (5, .x (.int .i64 (putAt l n : Nat))), (6, .ptr 1 0), (7, .x (.sl (rows rAttr (l.drop (putAt l n + 1))))), (8, .ref 2 (addV (l[putAt l n].2.1) (vs.take j)).length 0 (addV (l[putAt l n].2.1) (vs.take j)).length), (9, .x (.int .i64 j))] ∧ os = [.box [.x (.str n), .x (.sl (rows rStr vs))], .box [.x (.str n), .x (.sl (rows rStr l[putAt l n].2.1))], .rows false 9 1 (rows rStr (addV (l[putAt l n].2.1) (vs.take j)))] ∧ j ≤ vs.length) (down vs.length 9) ?_ (fun φ os hI => ?_)
        · exact ⟨0, by rw [List.take_zero, addV_nil]; rfl, by rw [List.take_zero, addV_nil]; first | rfl | (rw [hn]; rfl) | rw [hn], by omega⟩
        · obtain ⟨j, rfl, rfl, hj⟩ := hI
          refine WI.seq ?_
          refine WI.seq ?_
          refine WI.regB noTabs_ok [0, 3, 5, 6, 7, 8, 9, 65] ?_
          iterate 2 refine oS ?_
          iterate 3 refine oG (hok := by first | with_reducible rfl | omega | (exact decide_eq_true (by omega)) | (exact decide_eq_true (by simp only [List.length_append, List.length_cons, List.length_nil, List.length_take, List.length_drop]; omega)) | (rw [Bool.and_eq_true]; constructor <;> exact decide_eq_true (by simp [rows_len] <;> omega)) | (simp; done) | (simp; omega) | rfl) ?_
          refine oN ?_
          refine thenQ_normal ?_
          refine WI.cond (b := _) rfl rfl (fun h2 => ?_) (fun h2 => ?_)
          · try simp only [zB] at h2
            refine WI.skip ?_
            refine thenQ_normal ?_
            refine WI.seq ?_
            refine WI.block ?_
            refine WI.seq ?_
            have hj4 : j < vs.length := by omega
            have hlt := addV_len (l[putAt l n].2.1) (vs.take j)
            simp only [List.length_take, List.length_nil, Nat.zero_add] at hlt
            have hsn := addV_take (l[putAt l n].2.1) vs j hj4
            refine WI.regB noTabs_ok [0, 3, 5, 6, 7, 8, 9, 10] ?_
            refine oS ?_
            refine oN ?_
            refine thenQ_normal ?_
            refine WI.seq ?_
            refine WI.seq ?_
            refine WI.regB noTabs_ok [0, 3, 5, 6, 7, 8, 9, 10, 11] ?_
            refine oS ?_
            refine oN ?_
            refine thenQ_normal ?_
            refine WI.block ?_
            refine WI.loop (fun φ os => ∃ (i : Nat), φ = [(0, .x (.sl (rows rAttr l))), (3, .ptr 0 0), (5, .x (.int .i64 (putAt l n : Nat))), (6, .ptr 1 0), (7, .x (.sl (rows rAttr (l.drop (putAt l n + 1))))), (8, .ref 2 (addV (l[putAt l n].2.1) (vs.take j)).length 0 (addV (l[putAt l n].2.1) (vs.take j)).length), (9, .x (.int .i64 j)), (10, .x (.bool (decide (vs[j] ∈ (addV (l[putAt l n].2.1) (vs.take j)).take i)))), (11, .x (.int .i64 i))] ∧ os = [.box [.x (.str n), .x (.sl (rows rStr vs))], .box [.x (.str n), .x (.sl (rows rStr l[putAt l n].2.1))], .rows false 9 1 (rows rStr (addV (l[putAt l n].2.1) (vs.take j)))] ∧ i ≤ (addV (l[putAt l n].2.1) (vs.take j)).length) (down (addV (l[putAt l n].2.1) (vs.take j)).length 11) ?_ (fun φ os hI => ?_)
            · exact ⟨0, by simp, rfl, by omega⟩
            · obtain ⟨i, rfl, rfl, hi⟩ := hI
              refine WI.seq ?_
              refine WI.seq ?_
              refine WI.regB noTabs_ok [0, 3, 5, 6, 7, 8, 9, 10, 11, 71] ?_
              iterate 2 refine oS ?_
              iterate 2 refine oG (hok := by first | with_reducible rfl | omega | (exact decide_eq_true (by omega)) | (exact decide_eq_true (by simp only [List.length_append, List.length_cons, List.length_nil, List.length_take, List.length_drop]; omega)) | (rw [Bool.and_eq_true]; constructor <;> exact decide_eq_true (by simp [rows_len] <;> omega)) | (simp; done) | (simp; omega) | rfl) ?_
              refine oN ?_
              refine thenQ_normal ?_
              refine WI.cond (b := _) rfl rfl (fun h3 => ?_) (fun h3 => ?_)
              · try simp only [zB] at h3
                refine WI.skip ?_
                refine thenQ_normal ?_
                refine WI.seq ?_
                refine WI.block ?_
                have hi4 : i < (addV (l[putAt l n].2.1) (vs.take j)).length := by omega
                have hmt := mem_take_succ (addV (l[putAt l n].2.1) (vs.take j)) vs[j] i hi4
                have hdi := decide_eq_true (show (i : Int) < ((addV (l[putAt l n].2.1) (vs.take j)).length : Int) by omega)
                have uu := And.intro uu (And.intro hdi (rows_get rStr _ i hi4))
                refine WI.dregB noTabs_ok [0, 3, 5, 6, 7, 8, 9, 10, 11] ?_
                iterate 2 refine dFS ?_
                iterate 2 refine dFG (hok := by first | with_reducible rfl | omega | (exact decide_eq_true (by omega)) | (exact decide_eq_true (by simp only [List.length_append, List.length_cons, List.length_nil, List.length_take, List.length_drop]; omega)) | (rw [Bool.and_eq_true]; constructor <;> exact decide_eq_true (by simp [rows_len] <;> omega)) | (simp; done) | (simp; omega) | rfl) ?_
                iterate 2 refine dQG (hok := by first | with_reducible rfl | omega | (exact decide_eq_true (by omega)) | (exact decide_eq_true (by simp only [List.length_append, List.length_cons, List.length_nil, List.length_take, List.length_drop]; omega)) | (rw [Bool.and_eq_true]; constructor <;> exact decide_eq_true (by simp [rows_len] <;> omega)) | (simp; done) | (simp; omega) | rfl) ?_
                refine dFG (hok := by first | with_reducible rfl | omega | (exact decide_eq_true (by omega)) | (exact decide_eq_true (by simp only [List.length_append, List.length_cons, List.length_nil, List.length_take, List.length_drop]; omega)) | (rw [Bool.and_eq_true]; constructor <;> exact decide_eq_true (by simp [rows_len] <;> omega)) | (simp; done) | (simp; omega) | rfl) ?_
                refine dQG (hok := by first | with_reducible rfl | omega | (exact decide_eq_true (by omega)) | (exact decide_eq_true (by simp only [List.length_append, List.length_cons, List.length_nil, List.length_take, List.length_drop]; omega)) | (rw [Bool.and_eq_true]; constructor <;> exact decide_eq_true (by simp [rows_len] <;> omega)) | (simp; done) | (simp; omega) | rfl) ?_
                refine dFG (hok := by first | with_reducible rfl | omega | (exact decide_eq_true (by omega)) | (exact decide_eq_true (by simp only [List.length_append, List.length_cons, List.length_nil, List.length_take, List.length_drop]; omega)) | (rw [Bool.and_eq_true]; constructor <;> exact decide_eq_true (by simp [rows_len] <;> omega)) | (simp; done) | (simp; omega) | rfl) ?_
                iterate 2 refine dQG (hok := by first | with_reducible rfl | omega | (exact decide_eq_true (by omega)) | (exact decide_eq_true (by simp only [List.length_append, List.length_cons, List.length_nil, List.length_take, List.length_drop]; omega)) | (rw [Bool.and_eq_true]; constructor <;> exact decide_eq_true (by simp [rows_len] <;> omega)) | (simp; done) | (simp; omega) | rfl) ?_
                iterate 2 refine dFG (hok := by first | with_reducible rfl | omega | (exact decide_eq_true (by omega)) | (exact decide_eq_true (by simp only [List.length_append, List.length_cons, List.length_nil, List.length_take, List.length_drop]; omega)) | (rw [Bool.and_eq_true]; constructor <;> exact decide_eq_true (by simp [rows_len] <;> omega)) | (simp; done) | (simp; omega) | rfl) ?_
                refine dFS ?_
                refine dN ?_
                refine blockQ_normal ?_
                refine thenQ_normal ?_
                refine WI.regB noTabs_ok [0, 3, 5, 6, 7, 8, 9, 10, 11] ?_
                refine oS ?_
                refine oG (hok := by first | with_reducible rfl | omega | (exact decide_eq_true (by omega)) | (exact decide_eq_true (by simp only [List.length_append, List.length_cons, List.length_nil, List.length_take, List.length_drop]; omega)) | (rw [Bool.and_eq_true]; constructor <;> exact decide_eq_true (by simp [rows_len] <;> omega)) | (simp; done) | (simp; omega) | rfl) ?_
                refine oS ?_
                refine oN ?_
                refine thenQ_normal ?_
                exact ⟨⟨i + 1, by first | (rw [hmt]; done) | (rw [hmt]; rfl), rfl, by omega⟩, by simp [down, Ab.get, D.val, intOf?]; omega⟩
              · try simp only [zB] at h3
                refine WI.exit ?_
                refine thenQ_exit ?_
                refine thenQ_exit ?_
                refine blockQ_hit ?_
                refine thenQ_normal ?_
                refine WI.seq ?_
                have hti : (addV (l[putAt l n].2.1) (vs.take j)).take i = (addV (l[putAt l n].2.1) (vs.take j)) := List.take_of_length_le (by omega)
                rw [hti]
                refine WI.regB noTabs_ok [0, 3, 5, 6, 7, 8, 9, 88] ?_
                refine oS ?_
                refine oG (hok := by first | with_reducible rfl | omega | (exact decide_eq_true (by omega)) | (exact decide_eq_true (by simp only [List.length_append, List.length_cons, List.length_nil, List.length_take, List.length_drop]; omega)) | (rw [Bool.and_eq_true]; constructor <;> exact decide_eq_true (by simp [rows_len] <;> omega)) | (simp; done) | (simp; omega) | rfl) ?_
                refine oN ?_
                refine thenQ_normal ?_
                refine WI.cond (b := _) rfl rfl (fun h4 => ?_) (fun h4 => ?_)
                · try simp only [zB] at h4
                  have hst : addV (l[putAt l n].2.1) (vs.take (j + 1)) = (addV (l[putAt l n].2.1) (vs.take j)) ++ [vs[j]] := by rw [hsn]; unfold insV; rw [if_neg (by simpa using h4)]
                  refine WI.post ?_
                  refine WI.regB noTabs_ok [0, 3, 5, 6, 7, 8, 9] ?_
                  iterate 2 refine oS ?_
                  refine oG (hok := by first | with_reducible rfl | omega | (exact decide_eq_true (by omega)) | (exact decide_eq_true (by simp only [List.length_append, List.length_cons, List.length_nil, List.length_take, List.length_drop]; omega)) | (rw [Bool.and_eq_true]; constructor <;> exact decide_eq_true (by simp [rows_len] <;> omega)) | (simp; done) | (simp; omega) | rfl) ?_
                  refine oS ?_
                  iterate 4 refine oG (hok := by first | with_reducible rfl | omega | (exact decide_eq_true (by omega)) | (exact decide_eq_true (by simp only [List.length_append, List.length_cons, List.length_nil, List.length_take, List.length_drop]; omega)) | (rw [Bool.and_eq_true]; constructor <;> exact decide_eq_true (by simp [rows_len] <;> omega)) | (simp; done) | (simp; omega) | rfl) ?_
                  refine oS ?_
                  refine oP ?_
                  refine pPick [0, 1, 2] ?_
                  refine pEnd ?_
                  refine blockQ_normal ?_
                  refine thenQ_normal ?_
                  refine WI.regB noTabs_ok [0, 3, 5, 6, 7, 8, 9] ?_
                  refine oS ?_
                  refine oG (hok := by first | with_reducible rfl | omega | (exact decide_eq_true (by omega)) | (exact decide_eq_true (by simp only [List.length_append, List.length_cons, List.length_nil, List.length_take, List.length_drop]; omega)) | (rw [Bool.and_eq_true]; constructor <;> exact decide_eq_true (by simp [rows_len] <;> omega)) | (simp; done) | (simp; omega) | rfl) ?_
                  refine oS ?_
                  refine oN ?_
                  refine thenQ_normal ?_
                  exact ⟨⟨j + 1, by first | (rw [hst]; done) | (rw [hst]; rfl) | (rw [hst, List.length_append]; rfl), by first | (rw [hst]; done) | rw [hst, ← rows_str], by omega⟩, by simp [down, Ab.get, D.val, intOf?]; omega⟩
                · try simp only [zB] at h4
                  have hst : addV (l[putAt l n].2.1) (vs.take (j + 1)) = (addV (l[putAt l n].2.1) (vs.take j)) := by rw [hsn]; unfold insV; rw [if_pos (by simpa using h4)]
                  refine WI.skip ?_
                  refine blockQ_normal ?_
                  refine thenQ_normal ?_
                  refine WI.regB noTabs_ok [0, 3, 5, 6, 7, 8, 9] ?_
                  refine oS ?_
                  refine oG (hok := by first | with_reducible rfl | omega | (exact decide_eq_true (by omega)) | (exact decide_eq_true (by simp only [List.length_append, List.length_cons, List.length_nil, List.length_take, List.length_drop]; omega)) | (rw [Bool.and_eq_true]; constructor <;> exact decide_eq_true (by simp [rows_len] <;> omega)) | (simp; done) | (simp; omega) | rfl) ?_
                  refine oS ?_
                  refine oN ?_
                  refine thenQ_normal ?_
                  exact ⟨⟨j + 1, by first | (rw [hst]; done) | (rw [hst]; rfl) | (rw [hst, List.length_append]; rfl), by first | (rw [hst]; done) | rw [hst, ← rows_str], by omega⟩, by simp [down, Ab.get, D.val, intOf?]; omega⟩
          · try simp only [zB] at h2
            refine WI.exit ?_
            refine thenQ_exit ?_
            refine thenQ_exit ?_
            refine blockQ_hit ?_
            refine thenQ_normal ?_
            refine WI.seq ?_
            have hvt : vs.take j = vs := List.take_of_length_le (by omega)
            rw [hvt]
            refine WI.regB noTabs_ok [0, 5, 6, 7, 8] ?_
            iterate 2 refine oS ?_
            refine oG (hok := by first | with_reducible rfl | omega | (exact decide_eq_true (by omega)) | (exact decide_eq_true (by simp only [List.length_append, List.length_cons, List.length_nil, List.length_take, List.length_drop]; omega)) | (rw [Bool.and_eq_true]; constructor <;> exact decide_eq_true (by simp [rows_len] <;> omega)) | (simp; done) | (simp; omega) | rfl) ?_
            refine oN ?_
            refine thenQ_normal ?_
            refine WI.seq ?_
            refine WI.regB noTabs_ok [0, 5, 6, 7, 8, 12] ?_
            refine oS ?_
            refine oN ?_
            refine thenQ_normal ?_
            refine WI.seq ?_
            refine WI.regB noTabs_ok [6, 7, 8, 12] ?_
            iterate 3 refine oS ?_
            iterate 2 refine oG (hok := by first | with_reducible rfl | omega | (exact decide_eq_true (by omega)) | (exact decide_eq_true (by simp only [List.length_append, List.length_cons, List.length_nil, List.length_take, List.length_drop]; omega)) | (rw [Bool.and_eq_true]; constructor <;> exact decide_eq_true (by simp [rows_len] <;> omega)) | (simp; done) | (simp; omega) | rfl) ?_
            refine oS ?_
            refine oN ?_
            refine thenQ_normal ?_
            refine WI.seq ?_
            refine WI.seq ?_
            refine WI.regB noTabs_ok [6, 7, 12, 106] ?_
            refine oS ?_
            iterate 2 refine oG (hok := by first | with_reducible rfl | omega | (exact decide_eq_true (by omega)) | (exact decide_eq_true (by simp only [List.length_append, List.length_cons, List.length_nil, List.length_take, List.length_drop]; omega)) | (rw [Bool.and_eq_true]; constructor <;> exact decide_eq_true (by simp [rows_len] <;> omega)) | (simp; done) | (simp; omega) | rfl) ?_
            refine oN ?_
            refine thenQ_normal ?_
            refine WI.cond (b := _) rfl rfl (fun h5 => ?_) (fun h5 => ?_)
            · try simp only [zB] at h5
              refine WI.regB noTabs_ok [7, 12] ?_
              refine oS ?_
              iterate 3 refine oG (hok := by first | with_reducible rfl | omega | (exact decide_eq_true (by omega)) | (exact decide_eq_true (by simp only [List.length_append, List.length_cons, List.length_nil, List.length_take, List.length_drop]; omega)) | (rw [Bool.and_eq_true]; constructor <;> exact decide_eq_true (by simp [rows_len] <;> omega)) | (simp; done) | (simp; omega) | rfl) ?_
              refine oS ?_
              refine oN ?_
              refine thenQ_normal ?_
              refine WI.seq ?_
              refine WI.regB noTabs_ok [4] ?_
              iterate 2 refine oS ?_
              refine oG (hok := by first | with_reducible rfl | omega | (exact decide_eq_true (by omega)) | (exact decide_eq_true (by simp only [List.length_append, List.length_cons, List.length_nil, List.length_take, List.length_drop]; omega)) | (rw [Bool.and_eq_true]; constructor <;> exact decide_eq_true (by simp [rows_len] <;> omega)) | (simp; done) | (simp; omega) | rfl) ?_
              refine oS ?_
              refine oN ?_
              refine thenQ_normal ?_
              refine WI.ret ?_
              first | refine lfR ?_ | refine lfR2 ?_
              rw [← rows_app, ← rows_app, oneA_some _ _ (by omega), List.take_of_length_le (by simp [rows_len] <;> omega)] -- leaf 0
            · try simp only [zB] at h5
              refine WI.skip ?_
              refine thenQ_normal ?_
              refine WI.seq ?_
              refine WI.regB noTabs_ok [4] ?_
              iterate 2 refine oS ?_
              refine oG (hok := by first | with_reducible rfl | omega | (exact decide_eq_true (by omega)) | (exact decide_eq_true (by simp only [List.length_append, List.length_cons, List.length_nil, List.length_take, List.length_drop]; omega)) | (rw [Bool.and_eq_true]; constructor <;> exact decide_eq_true (by simp [rows_len] <;> omega)) | (simp; done) | (simp; omega) | rfl) ?_
              refine oS ?_
              refine oN ?_
              refine thenQ_normal ?_
              refine WI.ret ?_
              first | refine lfR ?_ | refine lfR2 ?_
              rw [oneA_none _ _ (by omega), List.append_nil, List.take_of_length_le (by simp <;> omega)] -- leaf 1
      · exfalso
        exact absurd hn (by simpa using h1)
theorem rput_B (l : List TAttr) (n : List UInt8) (vs : List (List UInt8)) (hh : hitA l n = false) (hk : putAt l n < l.length) (hl : l.length ≤ 1000) (hv : vs.length ≤ 1000) : PCalls Try.prog 54 [.x (.sl (rows rAttr l)), .agg [.x (.str n), .x (.sl (rows rStr vs))]] (.x (.sl (rows rAttr (rputL l n vs)))) := by
  have hb0 : baseV l n = [] := by unfold baseV; rw [hh]; rfl
  have hr0 : restA l n = l.drop (putAt l n) := by unfold restA; rw [hh]; rfl
  have hne : l[putAt l n].1 ≠ n := fun e => by simp [hitA, hk, e] at hh
  have hlen := addV_len ([]) vs
  simp only [List.length_nil, Nat.zero_add] at hlen
  have hple := putAt_le l n
  unfold rputL
  rw [hb0, hr0]
  refine FCalls.pure (fcallsG (fz := true) G_ok (p := i54) rfl _ (Nat.le_of_ble_eq_true rfl) _ (fun C0 E0 => ?_)) rfl
  dsimp only [i54, argsφ]
  have uu := trivial
  refine WI.seq ?_
  refine WI.regB noTabs_ok [0, 3] ?_
  refine oG (hok := by first | with_reducible rfl | omega | (exact decide_eq_true (by omega)) | (exact decide_eq_true (by simp only [List.length_append, List.length_cons, List.length_nil, List.length_take, List.length_drop]; omega)) | (rw [Bool.and_eq_true]; constructor <;> exact decide_eq_true (by simp [rows_len] <;> omega)) | (simp; done) | (simp; omega) | rfl) ?_
  refine oS ?_
  refine oN ?_
  refine thenQ_normal ?_
  refine WI.seq ?_
  refine WI.regB noTabs_ok [0, 3, 5] ?_
  refine oS ?_
  refine oN ?_
  refine thenQ_normal ?_
  refine WI.seq ?_
  refine WI.block ?_
  refine WI.loop (fun φ os => ∃ (j : Nat), φ = [(0, .x (.sl (rows rAttr l))), (3, .ptr 0 0), (5, .x (.int .i64 j))] ∧ os = [.box [.x (.str n), .x (.sl (rows rStr vs))]] ∧ j ≤ putAt l n) (down (putAt l n) 5) ?_ (fun φ os hI => ?_)
  · exact ⟨0, rfl, rfl, by omega⟩
  · obtain ⟨j, rfl, rfl, hj⟩ := hI
    refine WI.seq ?_
    refine WI.seq ?_
    have hd := decide_eq_true (show (j : Int) < (l.length : Int) by omega)
    have uu := And.intro uu hd
    refine WI.dregB noTabs_ok [0, 3, 5, 26] ?_
    iterate 2 refine dFS ?_
    refine dQG (hok := by first | with_reducible rfl | omega | (exact decide_eq_true (by omega)) | (exact decide_eq_true (by simp only [List.length_append, List.length_cons, List.length_nil, List.length_take, List.length_drop]; omega)) | (rw [Bool.and_eq_true]; constructor <;> exact decide_eq_true (by simp [rows_len] <;> omega)) | (simp; done) | (simp; omega) | rfl) ?_
    refine dFG (hok := by first | with_reducible rfl | omega | (exact decide_eq_true (by omega)) | (exact decide_eq_true (by simp only [List.length_append, List.length_cons, List.length_nil, List.length_take, List.length_drop]; omega)) | (rw [Bool.and_eq_true]; constructor <;> exact decide_eq_true (by simp [rows_len] <;> omega)) | (simp; done) | (simp; omega) | rfl) ?_
    refine dFS ?_
    iterate 2 refine dFG (hok := by first | with_reducible rfl | omega | (exact decide_eq_true (by omega)) | (exact decide_eq_true (by simp only [List.length_append, List.length_cons, List.length_nil, List.length_take, List.length_drop]; omega)) | (rw [Bool.and_eq_true]; constructor <;> exact decide_eq_true (by simp [rows_len] <;> omega)) | (simp; done) | (simp; omega) | rfl) ?_
    refine dQG (hok := by first | with_reducible rfl | omega | (exact decide_eq_true (by omega)) | (exact decide_eq_true (by simp only [List.length_append, List.length_cons, List.length_nil, List.length_take, List.length_drop]; omega)) | (rw [Bool.and_eq_true]; constructor <;> exact decide_eq_true (by simp [rows_len] <;> omega)) | (simp; done) | (simp; omega) | rfl) ?_
    refine dFG (hok := by first | with_reducible rfl | omega | (exact decide_eq_true (by omega)) | (exact decide_eq_true (by simp only [List.length_append, List.length_cons, List.length_nil, List.length_take, List.length_drop]; omega)) | (rw [Bool.and_eq_true]; constructor <;> exact decide_eq_true (by simp [rows_len] <;> omega)) | (simp; done) | (simp; omega) | rfl) ?_
    refine dQG (hok := by first | with_reducible rfl | omega | (exact decide_eq_true (by omega)) | (exact decide_eq_true (by simp only [List.length_append, List.length_cons, List.length_nil, List.length_take, List.length_drop]; omega)) | (rw [Bool.and_eq_true]; constructor <;> exact decide_eq_true (by simp [rows_len] <;> omega)) | (simp; done) | (simp; omega) | rfl) ?_
    refine dFG (hok := by first | with_reducible rfl | omega | (exact decide_eq_true (by omega)) | (exact decide_eq_true (by simp only [List.length_append, List.length_cons, List.length_nil, List.length_take, List.length_drop]; omega)) | (rw [Bool.and_eq_true]; constructor <;> exact decide_eq_true (by simp [rows_len] <;> omega)) | (simp; done) | (simp; omega) | rfl) ?_
    refine dQG (hok := by first | with_reducible rfl | omega | (exact decide_eq_true (by omega)) | (exact decide_eq_true (by simp only [List.length_append, List.length_cons, List.length_nil, List.length_take, List.length_drop]; omega)) | (rw [Bool.and_eq_true]; constructor <;> exact decide_eq_true (by simp [rows_len] <;> omega)) | (simp; done) | (simp; omega) | rfl) ?_
    iterate 2 refine dFG (hok := by first | with_reducible rfl | omega | (exact decide_eq_true (by omega)) | (exact decide_eq_true (by simp only [List.length_append, List.length_cons, List.length_nil, List.length_take, List.length_drop]; omega)) | (rw [Bool.and_eq_true]; constructor <;> exact decide_eq_true (by simp [rows_len] <;> omega)) | (simp; done) | (simp; omega) | rfl) ?_
    refine dN ?_
    refine thenQ_normal ?_
    refine WI.cond (b := _) rfl rfl (fun h0 => ?_) (fun h0 => ?_)
    · try simp only [zB] at h0
      have hjk : j < putAt l n := putAt_more l n j (by omega) hj (by simpa using h0)
      refine WI.skip ?_
      refine thenQ_normal ?_
      refine WI.block ?_
      refine WI.regB noTabs_ok [0, 3, 5] ?_
      refine oS ?_
      refine oG (hok := by first | with_reducible rfl | omega | (exact decide_eq_true (by omega)) | (exact decide_eq_true (by simp only [List.length_append, List.length_cons, List.length_nil, List.length_take, List.length_drop]; omega)) | (rw [Bool.and_eq_true]; constructor <;> exact decide_eq_true (by simp [rows_len] <;> omega)) | (simp; done) | (simp; omega) | rfl) ?_
      refine oS ?_
      refine oN ?_
      refine blockQ_normal ?_
      refine thenQ_normal ?_
      exact ⟨⟨j + 1, rfl, rfl, by omega⟩, by simp [down, Ab.get, D.val, intOf?]; omega⟩
    · try simp only [zB] at h0
      have hjk : j = putAt l n := by
        apply Nat.le_antisymm hj; apply Nat.le_of_not_lt; intro hc; exact absurd (putAt_less l n j hc) (by simpa using h0)
      subst hjk
      refine WI.exit ?_
      refine thenQ_exit ?_
      refine thenQ_exit ?_
      refine blockQ_hit ?_
      refine thenQ_normal ?_
      refine WI.seq ?_
      refine WI.regB noTabs_ok [0, 3, 5, 6] ?_
      refine oS ?_
      iterate 4 refine oG (hok := by first | with_reducible rfl | omega | (exact decide_eq_true (by omega)) | (exact decide_eq_true (by simp only [List.length_append, List.length_cons, List.length_nil, List.length_take, List.length_drop]; omega)) | (rw [Bool.and_eq_true]; constructor <;> exact decide_eq_true (by simp [rows_len] <;> omega)) | (simp; done) | (simp; omega) | rfl) ?_
      refine oN ?_
      refine thenQ_normal ?_
      refine WI.seq ?_
      refine WI.regB noTabs_ok [0, 3, 5, 6, 7] ?_
      iterate 2 refine oS ?_
      refine oG (hok := by first | with_reducible rfl | omega | (exact decide_eq_true (by omega)) | (exact decide_eq_true (by simp only [List.length_append, List.length_cons, List.length_nil, List.length_take, List.length_drop]; omega)) | (rw [Bool.and_eq_true]; constructor <;> exact decide_eq_true (by simp [rows_len] <;> omega)) | (simp; done) | (simp; omega) | rfl) ?_
      refine oS ?_
      refine oN ?_
      refine thenQ_normal ?_
      refine WI.seq ?_
      refine WI.seq ?_
      have hd6 := decide_eq_true (show ((putAt l n : Nat) : Int) < (l.length : Int) by omega)
      have uu := And.intro uu hd6
      refine WI.dregB noTabs_ok [0, 3, 5, 6, 7, 48] ?_
      iterate 2 refine dFS ?_
      refine dQG (hok := by first | with_reducible rfl | omega | (exact decide_eq_true (by omega)) | (exact decide_eq_true (by simp only [List.length_append, List.length_cons, List.length_nil, List.length_take, List.length_drop]; omega)) | (rw [Bool.and_eq_true]; constructor <;> exact decide_eq_true (by simp [rows_len] <;> omega)) | (simp; done) | (simp; omega) | rfl) ?_
      refine dFG (hok := by first | with_reducible rfl | omega | (exact decide_eq_true (by omega)) | (exact decide_eq_true (by simp only [List.length_append, List.length_cons, List.length_nil, List.length_take, List.length_drop]; omega)) | (rw [Bool.and_eq_true]; constructor <;> exact decide_eq_true (by simp [rows_len] <;> omega)) | (simp; done) | (simp; omega) | rfl) ?_
      refine dFS ?_
      iterate 2 refine dFG (hok := by first | with_reducible rfl | omega | (exact decide_eq_true (by omega)) | (exact decide_eq_true (by simp only [List.length_append, List.length_cons, List.length_nil, List.length_take, List.length_drop]; omega)) | (rw [Bool.and_eq_true]; constructor <;> exact decide_eq_true (by simp [rows_len] <;> omega)) | (simp; done) | (simp; omega) | rfl) ?_
      refine dQG (hok := by first | with_reducible rfl | omega | (exact decide_eq_true (by omega)) | (exact decide_eq_true (by simp only [List.length_append, List.length_cons, List.length_nil, List.length_take, List.length_drop]; omega)) | (rw [Bool.and_eq_true]; constructor <;> exact decide_eq_true (by simp [rows_len] <;> omega)) | (simp; done) | (simp; omega) | rfl) ?_
      refine dFG (hok := by first | with_reducible rfl | omega | (exact decide_eq_true (by omega)) | (exact decide_eq_true (by simp only [List.length_append, List.length_cons, List.length_nil, List.length_take, List.length_drop]; omega)) | (rw [Bool.and_eq_true]; constructor <;> exact decide_eq_true (by simp [rows_len] <;> omega)) | (simp; done) | (simp; omega) | rfl) ?_
      refine dQG (hok := by first | with_reducible rfl | omega | (exact decide_eq_true (by omega)) | (exact decide_eq_true (by simp only [List.length_append, List.length_cons, List.length_nil, List.length_take, List.length_drop]; omega)) | (rw [Bool.and_eq_true]; constructor <;> exact decide_eq_true (by simp [rows_len] <;> omega)) | (simp; done) | (simp; omega) | rfl) ?_
      refine dFG (hok := by first | with_reducible rfl | omega | (exact decide_eq_true (by omega)) | (exact decide_eq_true (by simp only [List.length_append, List.length_cons, List.length_nil, List.length_take, List.length_drop]; omega)) | (rw [Bool.and_eq_true]; constructor <;> exact decide_eq_true (by simp [rows_len] <;> omega)) | (simp; done) | (simp; omega) | rfl) ?_
      refine dQG (hok := by first | with_reducible rfl | omega | (exact decide_eq_true (by omega)) | (exact decide_eq_true (by simp only [List.length_append, List.length_cons, List.length_nil, List.length_take, List.length_drop]; omega)) | (rw [Bool.and_eq_true]; constructor <;> exact decide_eq_true (by simp [rows_len] <;> omega)) | (simp; done) | (simp; omega) | rfl) ?_
      iterate 2 refine dFG (hok := by first | with_reducible rfl | omega | (exact decide_eq_true (by omega)) | (exact decide_eq_true (by simp only [List.length_append, List.length_cons, List.length_nil, List.length_take, List.length_drop]; omega)) | (rw [Bool.and_eq_true]; constructor <;> exact decide_eq_true (by simp [rows_len] <;> omega)) | (simp; done) | (simp; omega) | rfl) ?_
      refine dN ?_
      refine thenQ_normal ?_
      refine WI.cond (b := _) rfl rfl (fun h1 => ?_) (fun h1 => ?_)
      · exfalso
        exact hne (by simpa using h1)
      · try simp only [zB] at h1
        refine WI.skip ?_
        refine thenQ_normal ?_
        refine WI.seq ?_
        refine WI.regB noTabs_ok [0, 3, 5, 6, 7, 8] ?_
        refine oS ?_
        refine oN ?_
        refine thenQ_normal ?_
        refine WI.seq ?_
        refine WI.ownA 8 9 1 ?_
        refine WI.regB noTabs_ok [0, 3, 5, 6, 7, 8] ?_
        iterate 2 refine oS ?_
        iterate 2 refine oG (hok := by first | with_reducible rfl | omega | (exact decide_eq_true (by omega)) | (exact decide_eq_true (by simp only [List.length_append, List.length_cons, List.length_nil, List.length_take, List.length_drop]; omega)) | (rw [Bool.and_eq_true]; constructor <;> exact decide_eq_true (by simp [rows_len] <;> omega)) | (simp; done) | (simp; omega) | rfl) ?_
        refine oS ?_
        refine oN ?_
        refine thenQ_normal ?_
        refine WI.seq ?_
        refine WI.seq ?_
        refine WI.regB noTabs_ok [0, 3, 5, 6, 7, 8, 9] ?_
        refine oS ?_
        refine oN ?_
        refine thenQ_normal ?_
        refine WI.block ?_
        refine WI.loop (fun φ os => ∃ (j : Nat), φ = [(0, .x (.sl (rows rAttr l))), (3, .ptr 0 0), (5, .x (.int .i64 (putAt l n : Nat))), (6, .ptr 1 0), (7, .x (.sl (rows rAttr (l.drop (putAt l n))))), (8, .ref 2 (addV ([]) (vs.take j)).length 0 (addV ([]) (vs.take j)).length), (9, .x (.int .i64 j))] ∧ os = [.box [.x (.str n), .x (.sl (rows rStr vs))], .box [.x (.str n), .x .nils], .rows false 9 1 (rows rStr (addV ([]) (vs.take j)))] ∧ j ≤ vs.length) (down vs.length 9) ?_ (fun φ os hI => ?_)
        · exact ⟨0, by rw [List.take_zero, addV_nil]; rfl, by rw [List.take_zero, addV_nil]; first | rfl | (rw [hn]; rfl) | rw [hn], by omega⟩
        · obtain ⟨j, rfl, rfl, hj⟩ := hI
          refine WI.seq ?_
          refine WI.seq ?_
          refine WI.regB noTabs_ok [0, 3, 5, 6, 7, 8, 9, 65] ?_
          iterate 2 refine oS ?_
          iterate 3 refine oG (hok := by first | with_reducible rfl | omega | (exact decide_eq_true (by omega)) | (exact decide_eq_true (by simp only [List.length_append, List.length_cons, List.length_nil, List.length_take, List.length_drop]; omega)) | (rw [Bool.and_eq_true]; constructor <;> exact decide_eq_true (by simp [rows_len] <;> omega)) | (simp; done) | (simp; omega) | rfl) ?_
          refine oN ?_
          refine thenQ_normal ?_
          refine WI.cond (b := _) rfl rfl (fun h2 => ?_) (fun h2 => ?_)
          · try simp only [zB] at h2
            refine WI.skip ?_
            refine thenQ_normal ?_
            refine WI.seq ?_
            refine WI.block ?_
            refine WI.seq ?_
            have hj4 : j < vs.length := by omega
            have hlt := addV_len ([]) (vs.take j)
            simp only [List.length_take, List.length_nil, Nat.zero_add] at hlt
            have hsn := addV_take ([]) vs j hj4
            refine WI.regB noTabs_ok [0, 3, 5, 6, 7, 8, 9, 10] ?_
            refine oS ?_
            refine oN ?_
            refine thenQ_normal ?_
            refine WI.seq ?_
            refine WI.seq ?_
            refine WI.regB noTabs_ok [0, 3, 5, 6, 7, 8, 9, 10, 11] ?_
            refine oS ?_
            refine oN ?_
            refine thenQ_normal ?_
            refine WI.block ?_
            refine WI.loop (fun φ os => ∃ (i : Nat), φ = [(0, .x (.sl (rows rAttr l))), (3, .ptr 0 0), (5, .x (.int .i64 (putAt l n : Nat))), (6, .ptr 1 0), (7, .x (.sl (rows rAttr (l.drop (putAt l n))))), (8, .ref 2 (addV ([]) (vs.take j)).length 0 (addV ([]) (vs.take j)).length), (9, .x (.int .i64 j)), (10, .x (.bool (decide (vs[j] ∈ (addV ([]) (vs.take j)).take i)))), (11, .x (.int .i64 i))] ∧ os = [.box [.x (.str n), .x (.sl (rows rStr vs))], .box [.x (.str n), .x .nils], .rows false 9 1 (rows rStr (addV ([]) (vs.take j)))] ∧ i ≤ (addV ([]) (vs.take j)).length) (down (addV ([]) (vs.take j)).length 11) ?_ (fun φ os hI => ?_)
            · exact ⟨0, by simp, rfl, by omega⟩
            · obtain ⟨i, rfl, rfl, hi⟩ := hI
              refine WI.seq ?_
              refine WI.seq ?_
              refine WI.regB noTabs_ok [0, 3, 5, 6, 7, 8, 9, 10, 11, 71] ?_
              iterate 2 refine oS ?_
              iterate 2 refine oG (hok := by first | with_reducible rfl | omega | (exact decide_eq_true (by omega)) | (exact decide_eq_true (by simp only [List.length_append, List.length_cons, List.length_nil, List.length_take, List.length_drop]; omega)) | (rw [Bool.and_eq_true]; constructor <;> exact decide_eq_true (by simp [rows_len] <;> omega)) | (simp; done) | (simp; omega) | rfl) ?_
              refine oN ?_
              refine thenQ_normal ?_
              refine WI.cond (b := _) rfl rfl (fun h3 => ?_) (fun h3 => ?_)
              · try simp only [zB] at h3
                refine WI.skip ?_
                refine thenQ_normal ?_
                refine WI.seq ?_
                refine WI.block ?_
                have hi4 : i < (addV ([]) (vs.take j)).length := by omega
                have hmt := mem_take_succ (addV ([]) (vs.take j)) vs[j] i hi4
                have hdi := decide_eq_true (show (i : Int) < ((addV ([]) (vs.take j)).length : Int) by omega)
                have uu := And.intro uu (And.intro hdi (rows_get rStr _ i hi4))
                refine WI.dregB noTabs_ok [0, 3, 5, 6, 7, 8, 9, 10, 11] ?_
                iterate 2 refine dFS ?_
                iterate 2 refine dFG (hok := by first | with_reducible rfl | omega | (exact decide_eq_true (by omega)) | (exact decide_eq_true (by simp only [List.length_append, List.length_cons, List.length_nil, List.length_take, List.length_drop]; omega)) | (rw [Bool.and_eq_true]; constructor <;> exact decide_eq_true (by simp [rows_len] <;> omega)) | (simp; done) | (simp; omega) | rfl) ?_
                iterate 2 refine dQG (hok := by first | with_reducible rfl | omega | (exact decide_eq_true (by omega)) | (exact decide_eq_true (by simp only [List.length_append, List.length_cons, List.length_nil, List.length_take, List.length_drop]; omega)) | (rw [Bool.and_eq_true]; constructor <;> exact decide_eq_true (by simp [rows_len] <;> omega)) | (simp; done) | (simp; omega) | rfl) ?_
                refine dFG (hok := by first | with_reducible rfl | omega | (exact decide_eq_true (by omega)) | (exact decide_eq_true (by simp only [List.length_append, List.length_cons, List.length_nil, List.length_take, List.length_drop]; omega)) | (rw [Bool.and_eq_true]; constructor <;> exact decide_eq_true (by simp [rows_len] <;> omega)) | (simp; done) | (simp; omega) | rfl) ?_
                refine dQG (hok := by first | with_reducible rfl | omega | (exact decide_eq_true (by omega)) | (exact decide_eq_true (by simp only [List.length_append, List.length_cons, List.length_nil, List.length_take, List.length_drop]; omega)) | (rw [Bool.and_eq_true]; constructor <;> exact decide_eq_true (by simp [rows_len] <;> omega)) | (simp; done) | (simp; omega) | rfl) ?_
                refine dFG (hok := by first | with_reducible rfl | omega | (exact decide_eq_true (by omega)) | (exact decide_eq_true (by simp only [List.length_append, List.length_cons, List.length_nil, List.length_take, List.length_drop]; omega)) | (rw [Bool.and_eq_true]; constructor <;> exact decide_eq_true (by simp [rows_len] <;> omega)) | (simp; done) | (simp; omega) | rfl) ?_
                iterate 2 refine dQG (hok := by first | with_reducible rfl | omega | (exact decide_eq_true (by omega)) | (exact decide_eq_true (by simp only [List.length_append, List.length_cons, List.length_nil, List.length_take, List.length_drop]; omega)) | (rw [Bool.and_eq_true]; constructor <;> exact decide_eq_true (by simp [rows_len] <;> omega)) | (simp; done) | (simp; omega) | rfl) ?_
                iterate 2 refine dFG (hok := by first | with_reducible rfl | omega | (exact decide_eq_true (by omega)) | (exact decide_eq_true (by simp only [List.length_append, List.length_cons, List.length_nil, List.length_take, List.length_drop]; omega)) | (rw [Bool.and_eq_true]; constructor <;> exact decide_eq_true (by simp [rows_len] <;> omega)) | (simp; done) | (simp; omega) | rfl) ?_
                refine dFS ?_
                refine dN ?_
                refine blockQ_normal ?_
                refine thenQ_normal ?_
                refine WI.regB noTabs_ok [0, 3, 5, 6, 7, 8, 9, 10, 11] ?_
                refine oS ?_
                refine oG (hok := by first | with_reducible rfl | omega | (exact decide_eq_true (by omega)) | (exact decide_eq_true (by simp only [List.length_append, List.length_cons, List.length_nil, List.length_take, List.length_drop]; omega)) | (rw [Bool.and_eq_true]; constructor <;> exact decide_eq_true (by simp [rows_len] <;> omega)) | (simp; done) | (simp; omega) | rfl) ?_
                refine oS ?_
                refine oN ?_
                refine thenQ_normal ?_
                exact ⟨⟨i + 1, by first | (rw [hmt]; done) | (rw [hmt]; rfl), rfl, by omega⟩, by simp [down, Ab.get, D.val, intOf?]; omega⟩
              · try simp only [zB] at h3
                refine WI.exit ?_
                refine thenQ_exit ?_
                refine thenQ_exit ?_
                refine blockQ_hit ?_
                refine thenQ_normal ?_
                refine WI.seq ?_
                have hti : (addV ([]) (vs.take j)).take i = (addV ([]) (vs.take j)) := List.take_of_length_le (by omega)
                rw [hti]
                refine WI.regB noTabs_ok [0, 3, 5, 6, 7, 8, 9, 88] ?_
                refine oS ?_
                refine oG (hok := by first | with_reducible rfl | omega | (exact decide_eq_true (by omega)) | (exact decide_eq_true (by simp only [List.length_append, List.length_cons, List.length_nil, List.length_take, List.length_drop]; omega)) | (rw [Bool.and_eq_true]; constructor <;> exact decide_eq_true (by simp [rows_len] <;> omega)) | (simp; done) | (simp; omega) | rfl) ?_
                refine oN ?_
                refine thenQ_normal ?_
                refine WI.cond (b := _) rfl rfl (fun h4 => ?_) (fun h4 => ?_)
                · try simp only [zB] at h4
                  have hst : addV ([]) (vs.take (j + 1)) = (addV ([]) (vs.take j)) ++ [vs[j]] := by rw [hsn]; unfold insV; rw [if_neg (by simpa using h4)]
                  refine WI.post ?_
                  refine WI.regB noTabs_ok [0, 3, 5, 6, 7, 8, 9] ?_
                  iterate 2 refine oS ?_
                  refine oG (hok := by first | with_reducible rfl | omega | (exact decide_eq_true (by omega)) | (exact decide_eq_true (by simp only [List.length_append, List.length_cons, List.length_nil, List.length_take, List.length_drop]; omega)) | (rw [Bool.and_eq_true]; constructor <;> exact decide_eq_true (by simp [rows_len] <;> omega)) | (simp; done) | (simp; omega) | rfl) ?_
                  refine oS ?_
                  iterate 4 refine oG (hok := by first | with_reducible rfl | omega | (exact decide_eq_true (by omega)) | (exact decide_eq_true (by simp only [List.length_append, List.length_cons, List.length_nil, List.length_take, List.length_drop]; omega)) | (rw [Bool.and_eq_true]; constructor <;> exact decide_eq_true (by simp [rows_len] <;> omega)) | (simp; done) | (simp; omega) | rfl) ?_
                  refine oS ?_
                  refine oP ?_
                  refine pPick [0, 1, 2] ?_
                  refine pEnd ?_
                  refine blockQ_normal ?_
                  refine thenQ_normal ?_
                  refine WI.regB noTabs_ok [0, 3, 5, 6, 7, 8, 9] ?_
                  refine oS ?_
                  refine oG (hok := by first | with_reducible rfl | omega | (exact decide_eq_true (by omega)) | (exact decide_eq_true (by simp only [List.length_append, List.length_cons, List.length_nil, List.length_take, List.length_drop]; omega)) | (rw [Bool.and_eq_true]; constructor <;> exact decide_eq_true (by simp [rows_len] <;> omega)) | (simp; done) | (simp; omega) | rfl) ?_
                  refine oS ?_
                  refine oN ?_
                  refine thenQ_normal ?_
                  exact ⟨⟨j + 1, by first | (rw [hst]; done) | (rw [hst]; rfl) | (rw [hst, List.length_append]; rfl), by first | (rw [hst]; done) | rw [hst, ← rows_str], by omega⟩, by simp [down, Ab.get, D.val, intOf?]; omega⟩
                · try simp only [zB] at h4
                  have hst : addV ([]) (vs.take (j + 1)) = (addV ([]) (vs.take j)) := by rw [hsn]; unfold insV; rw [if_pos (by simpa using h4)]
                  refine WI.skip ?_
                  refine blockQ_normal ?_
                  refine thenQ_normal ?_
                  refine WI.regB noTabs_ok [0, 3, 5, 6, 7, 8, 9] ?_
                  refine oS ?_
                  refine oG (hok := by first | with_reducible rfl | omega | (exact decide_eq_true (by omega)) | (exact decide_eq_true (by simp only [List.length_append, List.length_cons, List.length_nil, List.length_take, List.length_drop]; omega)) | (rw [Bool.and_eq_true]; constructor <;> exact decide_eq_true (by simp [rows_len] <;> omega)) | (simp; done) | (simp; omega) | rfl) ?_
                  refine oS ?_
                  refine oN ?_
                  refine thenQ_normal ?_
                  exact ⟨⟨j + 1, by first | (rw [hst]; done) | (rw [hst]; rfl) | (rw [hst, List.length_append]; rfl), by first | (rw [hst]; done) | rw [hst, ← rows_str], by omega⟩, by simp [down, Ab.get, D.val, intOf?]; omega⟩
          · try simp only [zB] at h2
            refine WI.exit ?_
            refine thenQ_exit ?_
            refine thenQ_exit ?_
            refine blockQ_hit ?_
            refine thenQ_normal ?_
            refine WI.seq ?_
            have hvt : vs.take j = vs := List.take_of_length_le (by omega)
            rw [hvt]
            refine WI.regB noTabs_ok [0, 5, 6, 7, 8] ?_
            iterate 2 refine oS ?_
            refine oG (hok := by first | with_reducible rfl | omega | (exact decide_eq_true (by omega)) | (exact decide_eq_true (by simp only [List.length_append, List.length_cons, List.length_nil, List.length_take, List.length_drop]; omega)) | (rw [Bool.and_eq_true]; constructor <;> exact decide_eq_true (by simp [rows_len] <;> omega)) | (simp; done) | (simp; omega) | rfl) ?_
            refine oN ?_
            refine thenQ_normal ?_
            refine WI.seq ?_
            refine WI.regB noTabs_ok [0, 5, 6, 7, 8, 12] ?_
            refine oS ?_
            refine oN ?_
            refine thenQ_normal ?_
            refine WI.seq ?_
            refine WI.regB noTabs_ok [6, 7, 8, 12] ?_
            iterate 3 refine oS ?_
            iterate 2 refine oG (hok := by first | with_reducible rfl | omega | (exact decide_eq_true (by omega)) | (exact decide_eq_true (by simp only [List.length_append, List.length_cons, List.length_nil, List.length_take, List.length_drop]; omega)) | (rw [Bool.and_eq_true]; constructor <;> exact decide_eq_true (by simp [rows_len] <;> omega)) | (simp; done) | (simp; omega) | rfl) ?_
            refine oS ?_
            refine oN ?_
            refine thenQ_normal ?_
            refine WI.seq ?_
            refine WI.seq ?_
            refine WI.regB noTabs_ok [6, 7, 12, 106] ?_
            refine oS ?_
            iterate 2 refine oG (hok := by first | with_reducible rfl | omega | (exact decide_eq_true (by omega)) | (exact decide_eq_true (by simp only [List.length_append, List.length_cons, List.length_nil, List.length_take, List.length_drop]; omega)) | (rw [Bool.and_eq_true]; constructor <;> exact decide_eq_true (by simp [rows_len] <;> omega)) | (simp; done) | (simp; omega) | rfl) ?_
            refine oN ?_
            refine thenQ_normal ?_
            refine WI.cond (b := _) rfl rfl (fun h5 => ?_) (fun h5 => ?_)
            · try simp only [zB] at h5
              refine WI.regB noTabs_ok [7, 12] ?_
              refine oS ?_
              iterate 3 refine oG (hok := by first | with_reducible rfl | omega | (exact decide_eq_true (by omega)) | (exact decide_eq_true (by simp only [List.length_append, List.length_cons, List.length_nil, List.length_take, List.length_drop]; omega)) | (rw [Bool.and_eq_true]; constructor <;> exact decide_eq_true (by simp [rows_len] <;> omega)) | (simp; done) | (simp; omega) | rfl) ?_
              refine oS ?_
              refine oN ?_
              refine thenQ_normal ?_
              refine WI.seq ?_
              refine WI.regB noTabs_ok [4] ?_
              iterate 2 refine oS ?_
              refine oG (hok := by first | with_reducible rfl | omega | (exact decide_eq_true (by omega)) | (exact decide_eq_true (by simp only [List.length_append, List.length_cons, List.length_nil, List.length_take, List.length_drop]; omega)) | (rw [Bool.and_eq_true]; constructor <;> exact decide_eq_true (by simp [rows_len] <;> omega)) | (simp; done) | (simp; omega) | rfl) ?_
              refine oS ?_
              refine oN ?_
              refine thenQ_normal ?_
              refine WI.ret ?_
              first | refine lfR ?_ | refine lfR2 ?_
              rw [← rows_app, ← rows_app, oneA_some _ _ (by omega), List.take_of_length_le (by simp [rows_len] <;> omega)] -- leaf 0
            · try simp only [zB] at h5
              refine WI.skip ?_
              refine thenQ_normal ?_
              refine WI.seq ?_
              refine WI.regB noTabs_ok [4] ?_
              iterate 2 refine oS ?_
              refine oG (hok := by first | with_reducible rfl | omega | (exact decide_eq_true (by omega)) | (exact decide_eq_true (by simp only [List.length_append, List.length_cons, List.length_nil, List.length_take, List.length_drop]; omega)) | (rw [Bool.and_eq_true]; constructor <;> exact decide_eq_true (by simp [rows_len] <;> omega)) | (simp; done) | (simp; omega) | rfl) ?_
              refine oS ?_
              refine oN ?_
              refine thenQ_normal ?_
              refine WI.ret ?_
              first | refine lfR ?_ | refine lfR2 ?_
              rw [oneA_none _ _ (by omega), List.append_nil, List.take_of_length_le (by simp <;> omega)] -- leaf 1
theorem rput_C (l : List TAttr) (n : List UInt8) (vs : List (List UInt8)) (hh : hitA l n = false) (hk : putAt l n = l.length) (hl : l.length ≤ 1000) (hv : vs.length ≤ 1000) : PCalls Try.prog 54 [.x (.sl (rows rAttr l)), .agg [.x (.str n), .x (.sl (rows rStr vs))]] (.x (.sl (rows rAttr (rputL l n vs)))) := by
  have hb0 : baseV l n = [] := by unfold baseV; rw [hh]; rfl
  have hr0 : restA l n = l.drop (putAt l n) := by unfold restA; rw [hh]; rfl
  have hlen := addV_len ([]) vs
  simp only [List.length_nil, Nat.zero_add] at hlen
  have hple := putAt_le l n
  unfold rputL
  rw [hb0, hr0]
  refine FCalls.pure (fcallsG (fz := true) G_ok (p := i54) rfl _ (Nat.le_of_ble_eq_true rfl) _ (fun C0 E0 => ?_)) rfl
  dsimp only [i54, argsφ]
  have uu := trivial
  refine WI.seq ?_
  refine WI.regB noTabs_ok [0, 3] ?_
  refine oG (hok := by first | with_reducible rfl | omega | (exact decide_eq_true (by omega)) | (exact decide_eq_true (by simp only [List.length_append, List.length_cons, List.length_nil, List.length_take, List.length_drop]; omega)) | (rw [Bool.and_eq_true]; constructor <;> exact decide_eq_true (by simp [rows_len] <;> omega)) | (simp; done) | (simp; omega) | rfl) ?_
  refine oS ?_
  refine oN ?_
  refine thenQ_normal ?_
  refine WI.seq ?_
  refine WI.regB noTabs_ok [0, 3, 5] ?_
  refine oS ?_
  refine oN ?_
  refine thenQ_normal ?_
  refine WI.seq ?_
  refine WI.block ?_
  refine WI.loop (fun φ os => ∃ (j : Nat), φ = [(0, .x (.sl (rows rAttr l))), (3, .ptr 0 0), (5, .x (.int .i64 j))] ∧ os = [.box [.x (.str n), .x (.sl (rows rStr vs))]] ∧ j ≤ putAt l n) (down (putAt l n) 5) ?_ (fun φ os hI => ?_)
  · exact ⟨0, rfl, rfl, by omega⟩
  · obtain ⟨j, rfl, rfl, hj⟩ := hI
    refine WI.seq ?_
    refine WI.seq ?_
    by_cases hjl : j < l.length
    · have hd := decide_eq_true (show (j : Int) < (l.length : Int) by omega)
      have hls := putAt_less l n j (by omega)
      have uu := And.intro uu hd
      refine WI.dregB noTabs_ok [0, 3, 5, 26] ?_
      iterate 2 refine dFS ?_
      refine dQG (hok := by first | with_reducible rfl | omega | (exact decide_eq_true (by omega)) | (exact decide_eq_true (by simp only [List.length_append, List.length_cons, List.length_nil, List.length_take, List.length_drop]; omega)) | (rw [Bool.and_eq_true]; constructor <;> exact decide_eq_true (by simp [rows_len] <;> omega)) | (simp; done) | (simp; omega) | rfl) ?_
      refine dFG (hok := by first | with_reducible rfl | omega | (exact decide_eq_true (by omega)) | (exact decide_eq_true (by simp only [List.length_append, List.length_cons, List.length_nil, List.length_take, List.length_drop]; omega)) | (rw [Bool.and_eq_true]; constructor <;> exact decide_eq_true (by simp [rows_len] <;> omega)) | (simp; done) | (simp; omega) | rfl) ?_
      refine dFS ?_
      iterate 2 refine dFG (hok := by first | with_reducible rfl | omega | (exact decide_eq_true (by omega)) | (exact decide_eq_true (by simp only [List.length_append, List.length_cons, List.length_nil, List.length_take, List.length_drop]; omega)) | (rw [Bool.and_eq_true]; constructor <;> exact decide_eq_true (by simp [rows_len] <;> omega)) | (simp; done) | (simp; omega) | rfl) ?_
      refine dQG (hok := by first | with_reducible rfl | omega | (exact decide_eq_true (by omega)) | (exact decide_eq_true (by simp only [List.length_append, List.length_cons, List.length_nil, List.length_take, List.length_drop]; omega)) | (rw [Bool.and_eq_true]; constructor <;> exact decide_eq_true (by simp [rows_len] <;> omega)) | (simp; done) | (simp; omega) | rfl) ?_
      refine dFG (hok := by first | with_reducible rfl | omega | (exact decide_eq_true (by omega)) | (exact decide_eq_true (by simp only [List.length_append, List.length_cons, List.length_nil, List.length_take, List.length_drop]; omega)) | (rw [Bool.and_eq_true]; constructor <;> exact decide_eq_true (by simp [rows_len] <;> omega)) | (simp; done) | (simp; omega) | rfl) ?_
      refine dQG (hok := by first | with_reducible rfl | omega | (exact decide_eq_true (by omega)) | (exact decide_eq_true (by simp only [List.length_append, List.length_cons, List.length_nil, List.length_take, List.length_drop]; omega)) | (rw [Bool.and_eq_true]; constructor <;> exact decide_eq_true (by simp [rows_len] <;> omega)) | (simp; done) | (simp; omega) | rfl) ?_
      refine dFG (hok := by first | with_reducible rfl | omega | (exact decide_eq_true (by omega)) | (exact decide_eq_true (by simp only [List.length_append, List.length_cons, List.length_nil, List.length_take, List.length_drop]; omega)) | (rw [Bool.and_eq_true]; constructor <;> exact decide_eq_true (by simp [rows_len] <;> omega)) | (simp; done) | (simp; omega) | rfl) ?_
      refine dQG (hok := by first | with_reducible rfl | omega | (exact decide_eq_true (by omega)) | (exact decide_eq_true (by simp only [List.length_append, List.length_cons, List.length_nil, List.length_take, List.length_drop]; omega)) | (rw [Bool.and_eq_true]; constructor <;> exact decide_eq_true (by simp [rows_len] <;> omega)) | (simp; done) | (simp; omega) | rfl) ?_
      iterate 2 refine dFG (hok := by first | with_reducible rfl | omega | (exact decide_eq_true (by omega)) | (exact decide_eq_true (by simp only [List.length_append, List.length_cons, List.length_nil, List.length_take, List.length_drop]; omega)) | (rw [Bool.and_eq_true]; constructor <;> exact decide_eq_true (by simp [rows_len] <;> omega)) | (simp; done) | (simp; omega) | rfl) ?_
      refine dN ?_
      refine thenQ_normal ?_
      refine WI.cond (b := _) rfl rfl (fun h0 => ?_) (fun h0 => ?_)
      · try simp only [zB] at h0
        refine WI.skip ?_
        refine thenQ_normal ?_
        refine WI.block ?_
        refine WI.regB noTabs_ok [0, 3, 5] ?_
        refine oS ?_
        refine oG (hok := by first | with_reducible rfl | omega | (exact decide_eq_true (by omega)) | (exact decide_eq_true (by simp only [List.length_append, List.length_cons, List.length_nil, List.length_take, List.length_drop]; omega)) | (rw [Bool.and_eq_true]; constructor <;> exact decide_eq_true (by simp [rows_len] <;> omega)) | (simp; done) | (simp; omega) | rfl) ?_
        refine oS ?_
        refine oN ?_
        refine blockQ_normal ?_
        refine thenQ_normal ?_
        exact ⟨⟨j + 1, rfl, rfl, by omega⟩, by simp [down, Ab.get, D.val, intOf?]; omega⟩
      · exfalso
        first | exact h0 hls | (simp [hls] at h0)
    · have hg : (rows rAttr l)[j]? = none := List.getElem?_eq_none (by rw [rows_len]; omega)
      have hd := decide_eq_false (show ¬ (j : Int) < (l.length : Int) by omega)
      have uu := And.intro uu (And.intro hg hd)
      refine WI.dregB noTabs_ok [0, 3, 5, 26] ?_
      iterate 2 refine dFS ?_
      refine dQG (hok := by first | with_reducible rfl | omega | (exact decide_eq_true (by omega)) | (exact decide_eq_true (by simp only [List.length_append, List.length_cons, List.length_nil, List.length_take, List.length_drop]; omega)) | (rw [Bool.and_eq_true]; constructor <;> exact decide_eq_true (by simp [rows_len] <;> omega)) | (simp; done) | (simp; omega) | rfl) ?_
      refine dFG (hok := by first | with_reducible rfl | omega | (exact decide_eq_true (by omega)) | (exact decide_eq_true (by simp only [List.length_append, List.length_cons, List.length_nil, List.length_take, List.length_drop]; omega)) | (rw [Bool.and_eq_true]; constructor <;> exact decide_eq_true (by simp [rows_len] <;> omega)) | (simp; done) | (simp; omega) | rfl) ?_
      refine dFS ?_
      iterate 2 refine dFG (hok := by first | with_reducible rfl | omega | (exact decide_eq_true (by omega)) | (exact decide_eq_true (by simp only [List.length_append, List.length_cons, List.length_nil, List.length_take, List.length_drop]; omega)) | (rw [Bool.and_eq_true]; constructor <;> exact decide_eq_true (by simp [rows_len] <;> omega)) | (simp; done) | (simp; omega) | rfl) ?_
      refine dQG (hok := by first | with_reducible rfl | omega | (exact decide_eq_true (by omega)) | (exact decide_eq_true (by simp only [List.length_append, List.length_cons, List.length_nil, List.length_take, List.length_drop]; omega)) | (rw [Bool.and_eq_true]; constructor <;> exact decide_eq_true (by simp [rows_len] <;> omega)) | (simp; done) | (simp; omega) | rfl) ?_
      refine dFG (hok := by first | with_reducible rfl | omega | (exact decide_eq_true (by omega)) | (exact decide_eq_true (by simp only [List.length_append, List.length_cons, List.length_nil, List.length_take, List.length_drop]; omega)) | (rw [Bool.and_eq_true]; constructor <;> exact decide_eq_true (by simp [rows_len] <;> omega)) | (simp; done) | (simp; omega) | rfl) ?_
      refine dQG (hok := by first | with_reducible rfl | omega | (exact decide_eq_true (by omega)) | (exact decide_eq_true (by simp only [List.length_append, List.length_cons, List.length_nil, List.length_take, List.length_drop]; omega)) | (rw [Bool.and_eq_true]; constructor <;> exact decide_eq_true (by simp [rows_len] <;> omega)) | (simp; done) | (simp; omega) | rfl) ?_
      refine dFG (hok := by first | with_reducible rfl | omega | (exact decide_eq_true (by omega)) | (exact decide_eq_true (by simp only [List.length_append, List.length_cons, List.length_nil, List.length_take, List.length_drop]; omega)) | (rw [Bool.and_eq_true]; constructor <;> exact decide_eq_true (by simp [rows_len] <;> omega)) | (simp; done) | (simp; omega) | rfl) ?_
      refine dQG (hok := by first | with_reducible rfl | omega | (exact decide_eq_true (by omega)) | (exact decide_eq_true (by simp only [List.length_append, List.length_cons, List.length_nil, List.length_take, List.length_drop]; omega)) | (rw [Bool.and_eq_true]; constructor <;> exact decide_eq_true (by simp [rows_len] <;> omega)) | (simp; done) | (simp; omega) | rfl) ?_
      iterate 2 refine dFG (hok := by first | with_reducible rfl | omega | (exact decide_eq_true (by omega)) | (exact decide_eq_true (by simp only [List.length_append, List.length_cons, List.length_nil, List.length_take, List.length_drop]; omega)) | (rw [Bool.and_eq_true]; constructor <;> exact decide_eq_true (by simp [rows_len] <;> omega)) | (simp; done) | (simp; omega) | rfl) ?_
      refine dN ?_
      refine thenQ_normal ?_
      refine WI.cond (b := _) rfl rfl (fun h0 => ?_) (fun h0 => ?_)
      · exfalso
        simp at h0
      · try simp only [zB] at h0
        have hjk : j = putAt l n := by omega
        subst hjk
        refine WI.exit ?_
        refine thenQ_exit ?_
        refine thenQ_exit ?_
        refine blockQ_hit ?_
        refine thenQ_normal ?_
        refine WI.seq ?_
        refine WI.regB noTabs_ok [0, 3, 5, 6] ?_
        refine oS ?_
        iterate 4 refine oG (hok := by first | with_reducible rfl | omega | (exact decide_eq_true (by omega)) | (exact decide_eq_true (by simp only [List.length_append, List.length_cons, List.length_nil, List.length_take, List.length_drop]; omega)) | (rw [Bool.and_eq_true]; constructor <;> exact decide_eq_true (by simp [rows_len] <;> omega)) | (simp; done) | (simp; omega) | rfl) ?_
        refine oN ?_
        refine thenQ_normal ?_
        refine WI.seq ?_
        refine WI.regB noTabs_ok [0, 3, 5, 6, 7] ?_
        iterate 2 refine oS ?_
        refine oG (hok := by first | with_reducible rfl | omega | (exact decide_eq_true (by omega)) | (exact decide_eq_true (by simp only [List.length_append, List.length_cons, List.length_nil, List.length_take, List.length_drop]; omega)) | (rw [Bool.and_eq_true]; constructor <;> exact decide_eq_true (by simp [rows_len] <;> omega)) | (simp; done) | (simp; omega) | rfl) ?_
        refine oS ?_
        refine oN ?_
        refine thenQ_normal ?_
        refine WI.seq ?_
        refine WI.seq ?_
        have hg6 : (rows rAttr l)[putAt l n]? = none := List.getElem?_eq_none (by rw [rows_len]; omega)
        have hd6 := decide_eq_false (show ¬ ((putAt l n : Nat) : Int) < (l.length : Int) by omega)
        have uu := And.intro uu (And.intro hg6 hd6)
        refine WI.dregB noTabs_ok [0, 3, 5, 6, 7, 48] ?_
        iterate 2 refine dFS ?_
        refine dQG (hok := by first | with_reducible rfl | omega | (exact decide_eq_true (by omega)) | (exact decide_eq_true (by simp only [List.length_append, List.length_cons, List.length_nil, List.length_take, List.length_drop]; omega)) | (rw [Bool.and_eq_true]; constructor <;> exact decide_eq_true (by simp [rows_len] <;> omega)) | (simp; done) | (simp; omega) | rfl) ?_
        refine dFG (hok := by first | with_reducible rfl | omega | (exact decide_eq_true (by omega)) | (exact decide_eq_true (by simp only [List.length_append, List.length_cons, List.length_nil, List.length_take, List.length_drop]; omega)) | (rw [Bool.and_eq_true]; constructor <;> exact decide_eq_true (by simp [rows_len] <;> omega)) | (simp; done) | (simp; omega) | rfl) ?_
        refine dFS ?_
        iterate 2 refine dFG (hok := by first | with_reducible rfl | omega | (exact decide_eq_true (by omega)) | (exact decide_eq_true (by simp only [List.length_append, List.length_cons, List.length_nil, List.length_take, List.length_drop]; omega)) | (rw [Bool.and_eq_true]; constructor <;> exact decide_eq_true (by simp [rows_len] <;> omega)) | (simp; done) | (simp; omega) | rfl) ?_
        refine dQG (hok := by first | with_reducible rfl | omega | (exact decide_eq_true (by omega)) | (exact decide_eq_true (by simp only [List.length_append, List.length_cons, List.length_nil, List.length_take, List.length_drop]; omega)) | (rw [Bool.and_eq_true]; constructor <;> exact decide_eq_true (by simp [rows_len] <;> omega)) | (simp; done) | (simp; omega) | rfl) ?_
        refine dFG (hok := by first | with_reducible rfl | omega | (exact decide_eq_true (by omega)) | (exact decide_eq_true (by simp only [List.length_append, List.length_cons, List.length_nil, List.length_take, List.length_drop]; omega)) | (rw [Bool.and_eq_true]; constructor <;> exact decide_eq_true (by simp [rows_len] <;> omega)) | (simp; done) | (simp; omega) | rfl) ?_
        refine dQG (hok := by first | with_reducible rfl | omega | (exact decide_eq_true (by omega)) | (exact decide_eq_true (by simp only [List.length_append, List.length_cons, List.length_nil, List.length_take, List.length_drop]; omega)) | (rw [Bool.and_eq_true]; constructor <;> exact decide_eq_true (by simp [rows_len] <;> omega)) | (simp; done) | (simp; omega) | rfl) ?_
        refine dFG (hok := by first | with_reducible rfl | omega | (exact decide_eq_true (by omega)) | (exact decide_eq_true (by simp only [List.length_append, List.length_cons, List.length_nil, List.length_take, List.length_drop]; omega)) | (rw [Bool.and_eq_true]; constructor <;> exact decide_eq_true (by simp [rows_len] <;> omega)) | (simp; done) | (simp; omega) | rfl) ?_
        refine dQG (hok := by first | with_reducible rfl | omega | (exact decide_eq_true (by omega)) | (exact decide_eq_true (by simp only [List.length_append, List.length_cons, List.length_nil, List.length_take, List.length_drop]; omega)) | (rw [Bool.and_eq_true]; constructor <;> exact decide_eq_true (by simp [rows_len] <;> omega)) | (simp; done) | (simp; omega) | rfl) ?_
        iterate 2 refine dFG (hok := by first | with_reducible rfl | omega | (exact decide_eq_true (by omega)) | (exact decide_eq_true (by simp only [List.length_append, List.length_cons, List.length_nil, List.length_take, List.length_drop]; omega)) | (rw [Bool.and_eq_true]; constructor <;> exact decide_eq_true (by simp [rows_len] <;> omega)) | (simp; done) | (simp; omega) | rfl) ?_
        refine dN ?_
        refine thenQ_normal ?_
        refine WI.cond (b := _) rfl rfl (fun h1 => ?_) (fun h1 => ?_)
        · exfalso
          simp at h1
        · try simp only [zB] at h1
          refine WI.skip ?_
          refine thenQ_normal ?_
          refine WI.seq ?_
          refine WI.regB noTabs_ok [0, 3, 5, 6, 7, 8] ?_
          refine oS ?_
          refine oN ?_
          refine thenQ_normal ?_
          refine WI.seq ?_
          refine WI.ownA 8 9 1 ?_
          refine WI.regB noTabs_ok [0, 3, 5, 6, 7, 8] ?_
          iterate 2 refine oS ?_
          iterate 2 refine oG (hok := by first | with_reducible rfl | omega | (exact decide_eq_true (by omega)) | (exact decide_eq_true (by simp only [List.length_append, List.length_cons, List.length_nil, List.length_take, List.length_drop]; omega)) | (rw [Bool.and_eq_true]; constructor <;> exact decide_eq_true (by simp [rows_len] <;> omega)) | (simp; done) | (simp; omega) | rfl) ?_
          refine oS ?_
          refine oN ?_
          refine thenQ_normal ?_
          refine WI.seq ?_
          refine WI.seq ?_
          refine WI.regB noTabs_ok [0, 3, 5, 6, 7, 8, 9] ?_
          refine oS ?_
          refine oN ?_
          refine thenQ_normal ?_
          refine WI.block ?_
          refine WI.loop (fun φ os => ∃ (j : Nat), φ = [(0, .x (.sl (rows rAttr l))), (3, .ptr 0 0), (5, .x (.int .i64 (putAt l n : Nat))), (6, .ptr 1 0), (7, .x (.sl (rows rAttr (l.drop (putAt l n))))), (8, .ref 2 (addV ([]) (vs.take j)).length 0 (addV ([]) (vs.take j)).length), (9, .x (.int .i64 j))] ∧ os = [.box [.x (.str n), .x (.sl (rows rStr vs))], .box [.x (.str n), .x .nils], .rows false 9 1 (rows rStr (addV ([]) (vs.take j)))] ∧ j ≤ vs.length) (down vs.length 9) ?_ (fun φ os hI => ?_)
          · exact ⟨0, by rw [List.take_zero, addV_nil]; rfl, by rw [List.take_zero, addV_nil]; first | rfl | (rw [hn]; rfl) | rw [hn], by omega⟩
          · obtain ⟨j, rfl, rfl, hj⟩ := hI
            refine WI.seq ?_
            refine WI.seq ?_
            refine WI.regB noTabs_ok [0, 3, 5, 6, 7, 8, 9, 65] ?_
            iterate 2 refine oS ?_
            iterate 3 refine oG (hok := by first | with_reducible rfl | omega | (exact decide_eq_true (by omega)) | (exact decide_eq_true (by simp only [List.length_append, List.length_cons, List.length_nil, List.length_take, List.length_drop]; omega)) | (rw [Bool.and_eq_true]; constructor <;> exact decide_eq_true (by simp [rows_len] <;> omega)) | (simp; done) | (simp; omega) | rfl) ?_
            refine oN ?_
            refine thenQ_normal ?_
            refine WI.cond (b := _) rfl rfl (fun h2 => ?_) (fun h2 => ?_)
            · try simp only [zB] at h2
              refine WI.skip ?_
              refine thenQ_normal ?_
              refine WI.seq ?_
              refine WI.block ?_
              refine WI.seq ?_
              have hj4 : j < vs.length := by omega
              have hlt := addV_len ([]) (vs.take j)
              simp only [List.length_take, List.length_nil, Nat.zero_add] at hlt
              have hsn := addV_take ([]) vs j hj4
              refine WI.regB noTabs_ok [0, 3, 5, 6, 7, 8, 9, 10] ?_
              refine oS ?_
              refine oN ?_
              refine thenQ_normal ?_
              refine WI.seq ?_
              refine WI.seq ?_
              refine WI.regB noTabs_ok [0, 3, 5, 6, 7, 8, 9, 10, 11] ?_
              refine oS ?_
              refine oN ?_
              refine thenQ_normal ?_
              refine WI.block ?_
              refine WI.loop (fun φ os => ∃ (i : Nat), φ = [(0, .x (.sl (rows rAttr l))), (3, .ptr 0 0), (5, .x (.int .i64 (putAt l n : Nat))), (6, .ptr 1 0), (7, .x (.sl (rows rAttr (l.drop (putAt l n))))), (8, .ref 2 (addV ([]) (vs.take j)).length 0 (addV ([]) (vs.take j)).length), (9, .x (.int .i64 j)), (10, .x (.bool (decide (vs[j] ∈ (addV ([]) (vs.take j)).take i)))), (11, .x (.int .i64 i))] ∧ os = [.box [.x (.str n), .x (.sl (rows rStr vs))], .box [.x (.str n), .x .nils], .rows false 9 1 (rows rStr (addV ([]) (vs.take j)))] ∧ i ≤ (addV ([]) (vs.take j)).length) (down (addV ([]) (vs.take j)).length 11) ?_ (fun φ os hI => ?_)
              · exact ⟨0, by simp, rfl, by omega⟩
              · obtain ⟨i, rfl, rfl, hi⟩ := hI
                refine WI.seq ?_
                refine WI.seq ?_
                refine WI.regB noTabs_ok [0, 3, 5, 6, 7, 8, 9, 10, 11, 71] ?_
                iterate 2 refine oS ?_
                iterate 2 refine oG (hok := by first | with_reducible rfl | omega | (exact decide_eq_true (by omega)) | (exact decide_eq_true (by simp only [List.length_append, List.length_cons, List.length_nil, List.length_take, List.length_drop]; omega)) | (rw [Bool.and_eq_true]; constructor <;> exact decide_eq_true (by simp [rows_len] <;> omega)) | (simp; done) | (simp; omega) | rfl) ?_
                refine oN ?_
                refine thenQ_normal ?_
                refine WI.cond (b := _) rfl rfl (fun h3 => ?_) (fun h3 => ?_)
                · try simp only [zB] at h3
                  refine WI.skip ?_
                  refine thenQ_normal ?_
                  refine WI.seq ?_
                  refine WI.block ?_
                  have hi4 : i < (addV ([]) (vs.take j)).length := by omega
                  have hmt := mem_take_succ (addV ([]) (vs.take j)) vs[j] i hi4
                  have hdi := decide_eq_true (show (i : Int) < ((addV ([]) (vs.take j)).length : Int) by omega)
                  have uu := And.intro uu (And.intro hdi (rows_get rStr _ i hi4))
                  refine WI.dregB noTabs_ok [0, 3, 5, 6, 7, 8, 9, 10, 11] ?_
                  iterate 2 refine dFS ?_
                  iterate 2 refine dFG (hok := by first | with_reducible rfl | omega | (exact decide_eq_true (by omega)) | (exact decide_eq_true (by simp only [List.length_append, List.length_cons, List.length_nil, List.length_take, List.length_drop]; omega)) | (rw [Bool.and_eq_true]; constructor <;> exact decide_eq_true (by simp [rows_len] <;> omega)) | (simp; done) | (simp; omega) | rfl) ?_
                  iterate 2 refine dQG (hok := by first | with_reducible rfl | omega | (exact decide_eq_true (by omega)) | (exact decide_eq_true (by simp only [List.length_append, List.length_cons, List.length_nil, List.length_take, List.length_drop]; omega)) | (rw [Bool.and_eq_true]; constructor <;> exact decide_eq_true (by simp [rows_len] <;> omega)) | (simp; done) | (simp; omega) | rfl) ?_
                  refine dFG (hok := by first | with_reducible rfl | omega | (exact decide_eq_true (by omega)) | (exact decide_eq_true (by simp only [List.length_append, List.length_cons, List.length_nil, List.length_take, List.length_drop]; omega)) | (rw [Bool.and_eq_true]; constructor <;> exact decide_eq_true (by simp [rows_len] <;> omega)) | (simp; done) | (simp; omega) | rfl) ?_
                  refine dQG (hok := by first | with_reducible rfl | omega | (exact decide_eq_true (by omega)) | (exact decide_eq_true (by simp only [List.length_append, List.length_cons, List.length_nil, List.length_take, List.length_drop]; omega)) | (rw [Bool.and_eq_true]; constructor <;> exact decide_eq_true (by simp [rows_len] <;> omega)) | (simp; done) | (simp; omega) | rfl) ?_
                  refine dFG (hok := by first | with_reducible rfl | omega | (exact decide_eq_true (by omega)) | (exact decide_eq_true (by simp only [List.length_append, List.length_cons, List.length_nil, List.length_take, List.length_drop]; omega)) | (rw [Bool.and_eq_true]; constructor <;> exact decide_eq_true (by simp [rows_len] <;> omega)) | (simp; done) | (simp; omega) | rfl) ?_
                  iterate 2 refine dQG (hok := by first | with_reducible rfl | omega | (exact decide_eq_true (by omega)) | (exact decide_eq_true (by simp only [List.length_append, List.length_cons, List.length_nil, List.length_take, List.length_drop]; omega)) | (rw [Bool.and_eq_true]; constructor <;> exact decide_eq_true (by simp [rows_len] <;> omega)) | (simp; done) | (simp; omega) | rfl) ?_
                  iterate 2 refine dFG (hok := by first | with_reducible rfl | omega | (exact decide_eq_true (by omega)) | (exact decide_eq_true (by simp only [List.length_append, List.length_cons, List.length_nil, List.length_take, List.length_drop]; omega)) | (rw [Bool.and_eq_true]; constructor <;> exact decide_eq_true (by simp [rows_len] <;> omega)) | (simp; done) | (simp; omega) | rfl) ?_
                  refine dFS ?_
                  refine dN ?_
                  refine blockQ_normal ?_
                  refine thenQ_normal ?_
                  refine WI.regB noTabs_ok [0, 3, 5, 6, 7, 8, 9, 10, 11] ?_
                  refine oS ?_
                  refine oG (hok := by first | with_reducible rfl | omega | (exact decide_eq_true (by omega)) | (exact decide_eq_true (by simp only [List.length_append, List.length_cons, List.length_nil, List.length_take, List.length_drop]; omega)) | (rw [Bool.and_eq_true]; constructor <;> exact decide_eq_true (by simp [rows_len] <;> omega)) | (simp; done) | (simp; omega) | rfl) ?_
                  refine oS ?_
                  refine oN ?_
                  refine thenQ_normal ?_
                  exact ⟨⟨i + 1, by first | (rw [hmt]; done) | (rw [hmt]; rfl), rfl, by omega⟩, by simp [down, Ab.get, D.val, intOf?]; omega⟩
                · try simp only [zB] at h3
                  refine WI.exit ?_
                  refine thenQ_exit ?_
                  refine thenQ_exit ?_
                  refine blockQ_hit ?_
                  refine thenQ_normal ?_
                  refine WI.seq ?_
                  have hti : (addV ([]) (vs.take j)).take i = (addV ([]) (vs.take j)) := List.take_of_length_le (by omega)
                  rw [hti]
                  refine WI.regB noTabs_ok [0, 3, 5, 6, 7, 8, 9, 88] ?_
                  refine oS ?_
                  refine oG (hok := by first | with_reducible rfl | omega | (exact decide_eq_true (by omega)) | (exact decide_eq_true (by simp only [List.length_append, List.length_cons, List.length_nil, List.length_take, List.length_drop]; omega)) | (rw [Bool.and_eq_true]; constructor <;> exact decide_eq_true (by simp [rows_len] <;> omega)) | (simp; done) | (simp; omega) | rfl) ?_
                  refine oN ?_
                  refine thenQ_normal ?_
                  refine WI.cond (b := _) rfl rfl (fun h4 => ?_) (fun h4 => ?_)
                  · try simp only [zB] at h4
                    have hst : addV ([]) (vs.take (j + 1)) = (addV ([]) (vs.take j)) ++ [vs[j]] := by rw [hsn]; unfold insV; rw [if_neg (by simpa using h4)]
                    refine WI.post ?_
                    refine WI.regB noTabs_ok [0, 3, 5, 6, 7, 8, 9] ?_
                    iterate 2 refine oS ?_
                    refine oG (hok := by first | with_reducible rfl | omega | (exact decide_eq_true (by omega)) | (exact decide_eq_true (by simp only [List.length_append, List.length_cons, List.length_nil, List.length_take, List.length_drop]; omega)) | (rw [Bool.and_eq_true]; constructor <;> exact decide_eq_true (by simp [rows_len] <;> omega)) | (simp; done) | (simp; omega) | rfl) ?_
                    refine oS ?_
                    iterate 4 refine oG (hok := by first | with_reducible rfl | omega | (exact decide_eq_true (by omega)) | (exact decide_eq_true (by simp only [List.length_append, List.length_cons, List.length_nil, List.length_take, List.length_drop]; omega)) | (rw [Bool.and_eq_true]; constructor <;> exact decide_eq_true (by simp [rows_len] <;> omega)) | (simp; done) | (simp; omega) | rfl) ?_
                    refine oS ?_
                    refine oP ?_
                    refine pPick [0, 1, 2] ?_
                    refine pEnd ?_
                    refine blockQ_normal ?_
                    refine thenQ_normal ?_
                    refine WI.regB noTabs_ok [0, 3, 5, 6, 7, 8, 9] ?_
                    refine oS ?_
                    refine oG (hok := by first | with_reducible rfl | omega | (exact decide_eq_true (by omega)) | (exact decide_eq_true (by simp only [List.length_append, List.length_cons, List.length_nil, List.length_take, List.length_drop]; omega)) | (rw [Bool.and_eq_true]; constructor <;> exact decide_eq_true (by simp [rows_len] <;> omega)) | (simp; done) | (simp; omega) | rfl) ?_
                    refine oS ?_
                    refine oN ?_
                    refine thenQ_normal ?_
                    exact ⟨⟨j + 1, by first | (rw [hst]; done) | (rw [hst]; rfl) | (rw [hst, List.length_append]; rfl), by first | (rw [hst]; done) | rw [hst, ← rows_str], by omega⟩, by simp [down, Ab.get, D.val, intOf?]; omega⟩
                  · try simp only [zB] at h4
                    have hst : addV ([]) (vs.take (j + 1)) = (addV ([]) (vs.take j)) := by rw [hsn]; unfold insV; rw [if_pos (by simpa using h4)]
                    refine WI.skip ?_
                    refine blockQ_normal ?_
                    refine thenQ_normal ?_
                    refine WI.regB noTabs_ok [0, 3, 5, 6, 7, 8, 9] ?_
                    refine oS ?_
                    refine oG (hok := by first | with_reducible rfl | omega | (exact decide_eq_true (by omega)) | (exact decide_eq_true (by simp only [List.length_append, List.length_cons, List.length_nil, List.length_take, List.length_drop]; omega)) | (rw [Bool.and_eq_true]; constructor <;> exact decide_eq_true (by simp [rows_len] <;> omega)) | (simp; done) | (simp; omega) | rfl) ?_
                    refine oS ?_
                    refine oN ?_
                    refine thenQ_normal ?_
                    exact ⟨⟨j + 1, by first | (rw [hst]; done) | (rw [hst]; rfl) | (rw [hst, List.length_append]; rfl), by first | (rw [hst]; done) | rw [hst, ← rows_str], by omega⟩, by simp [down, Ab.get, D.val, intOf?]; omega⟩
            · try simp only [zB] at h2
              refine WI.exit ?_
              refine thenQ_exit ?_
              refine thenQ_exit ?_
              refine blockQ_hit ?_
              refine thenQ_normal ?_
              refine WI.seq ?_
              have hvt : vs.take j = vs := List.take_of_length_le (by omega)
              rw [hvt]
              refine WI.regB noTabs_ok [0, 5, 6, 7, 8] ?_
              iterate 2 refine oS ?_
              refine oG (hok := by first | with_reducible rfl | omega | (exact decide_eq_true (by omega)) | (exact decide_eq_true (by simp only [List.length_append, List.length_cons, List.length_nil, List.length_take, List.length_drop]; omega)) | (rw [Bool.and_eq_true]; constructor <;> exact decide_eq_true (by simp [rows_len] <;> omega)) | (simp; done) | (simp; omega) | rfl) ?_
              refine oN ?_
              refine thenQ_normal ?_
              refine WI.seq ?_
              refine WI.regB noTabs_ok [0, 5, 6, 7, 8, 12] ?_
              refine oS ?_
              refine oN ?_
              refine thenQ_normal ?_
              refine WI.seq ?_
              refine WI.regB noTabs_ok [6, 7, 8, 12] ?_
              iterate 3 refine oS ?_
              iterate 2 refine oG (hok := by first | with_reducible rfl | omega | (exact decide_eq_true (by omega)) | (exact decide_eq_true (by simp only [List.length_append, List.length_cons, List.length_nil, List.length_take, List.length_drop]; omega)) | (rw [Bool.and_eq_true]; constructor <;> exact decide_eq_true (by simp [rows_len] <;> omega)) | (simp; done) | (simp; omega) | rfl) ?_
              refine oS ?_
              refine oN ?_
              refine thenQ_normal ?_
              refine WI.seq ?_
              refine WI.seq ?_
              refine WI.regB noTabs_ok [6, 7, 12, 106] ?_
              refine oS ?_
              iterate 2 refine oG (hok := by first | with_reducible rfl | omega | (exact decide_eq_true (by omega)) | (exact decide_eq_true (by simp only [List.length_append, List.length_cons, List.length_nil, List.length_take, List.length_drop]; omega)) | (rw [Bool.and_eq_true]; constructor <;> exact decide_eq_true (by simp [rows_len] <;> omega)) | (simp; done) | (simp; omega) | rfl) ?_
              refine oN ?_
              refine thenQ_normal ?_
              refine WI.cond (b := _) rfl rfl (fun h5 => ?_) (fun h5 => ?_)
              · try simp only [zB] at h5
                refine WI.regB noTabs_ok [7, 12] ?_
                refine oS ?_
                iterate 3 refine oG (hok := by first | with_reducible rfl | omega | (exact decide_eq_true (by omega)) | (exact decide_eq_true (by simp only [List.length_append, List.length_cons, List.length_nil, List.length_take, List.length_drop]; omega)) | (rw [Bool.and_eq_true]; constructor <;> exact decide_eq_true (by simp [rows_len] <;> omega)) | (simp; done) | (simp; omega) | rfl) ?_
                refine oS ?_
                refine oN ?_
                refine thenQ_normal ?_
                refine WI.seq ?_
                refine WI.regB noTabs_ok [4] ?_
                iterate 2 refine oS ?_
                refine oG (hok := by first | with_reducible rfl | omega | (exact decide_eq_true (by omega)) | (exact decide_eq_true (by simp only [List.length_append, List.length_cons, List.length_nil, List.length_take, List.length_drop]; omega)) | (rw [Bool.and_eq_true]; constructor <;> exact decide_eq_true (by simp [rows_len] <;> omega)) | (simp; done) | (simp; omega) | rfl) ?_
                refine oS ?_
                refine oN ?_
                refine thenQ_normal ?_
                refine WI.ret ?_
                first | refine lfR ?_ | refine lfR2 ?_
                rw [← rows_app, ← rows_app, oneA_some _ _ (by omega), List.take_of_length_le (by simp [rows_len] <;> omega)] -- leaf 0
              · try simp only [zB] at h5
                refine WI.skip ?_
                refine thenQ_normal ?_
                refine WI.seq ?_
                refine WI.regB noTabs_ok [4] ?_
                iterate 2 refine oS ?_
                refine oG (hok := by first | with_reducible rfl | omega | (exact decide_eq_true (by omega)) | (exact decide_eq_true (by simp only [List.length_append, List.length_cons, List.length_nil, List.length_take, List.length_drop]; omega)) | (rw [Bool.and_eq_true]; constructor <;> exact decide_eq_true (by simp [rows_len] <;> omega)) | (simp; done) | (simp; omega) | rfl) ?_
                refine oS ?_
                refine oN ?_
                refine thenQ_normal ?_
                refine WI.ret ?_
                first | refine lfR ?_ | refine lfR2 ?_
                rw [oneA_none _ _ (by omega), List.append_nil, List.take_of_length_le (by simp <;> omega)] -- leaf 1
end Go.Proofs.Ytcffpndhodhncaa
end
section
/- bothyref10.Clean, With. -/
set_option linter.unusedSimpArgs false
set_option linter.unusedVariables false
namespace Go.Proofs.Ytcffpndhodhncaa
open Go.RowKit Go.Bo Go.Ab

theorem baseV_len (l : List TAttr) (n : List UInt8) (B : Nat) (hb : ∀ a ∈ l, a.2.1.length ≤ B) : (baseV l n).length ≤ B := by
  unfold baseV
  split
  · by_cases h : putAt l n < l.length
    · have e : l.getD (putAt l n) ([], [], ()) = l[putAt l n] := by simp [h]
      rw [e]; exact hb _ (List.getElem_mem _)
    · have e : l.getD (putAt l n) ([], [], ()) = ([], [], ()) := by simp [h]
      rw [e]; simp
  · simp
theorem rputL_len (l : List TAttr) (n : List UInt8) (vs : List (List UInt8)) : (rputL l n vs).length ≤ l.length + 1 := by
  have := putAt_le l n
  unfold rputL oneA restA
  split <;> split <;> simp <;> omega
theorem rputL_vals (l : List TAttr) (n : List UInt8) (vs : List (List UInt8)) (B C : Nat) (hb : ∀ a ∈ l, a.2.1.length ≤ B) (hv : vs.length ≤ C) : ∀ a ∈ rputL l n vs, a.2.1.length ≤ B + C := by
  intro a ha
  unfold rputL at ha
  rcases List.mem_append.1 ha with ha | ha
  · rcases List.mem_append.1 ha with ha | ha
    · have := hb a (List.mem_of_mem_take ha); omega
    · unfold oneA at ha
      split at ha
      · simp at ha
      · rw [List.mem_singleton] at ha
        subst ha
        have h1 := addV_len (baseV l n) vs
        have h2 := baseV_len l n B hb
        simp only; omega
  · have : a ∈ l := by
      unfold restA at ha
      split at ha <;> exact List.mem_of_mem_drop ha
    have := hb a this; omega
theorem rput_c (l : List TAttr) (n : List UInt8) (vs : List (List UInt8)) (hl : l.length ≤ 1000) (hv : vs.length ≤ 1000) (hb : ∀ a ∈ l, a.2.1.length ≤ 100000) : PCalls Try.prog 54 [.x (.sl (rows rAttr l)), .agg [.x (.str n), .x (.sl (rows rStr vs))]] (.x (.sl (rows rAttr (rputL l n vs)))) := by
  rcases Nat.lt_or_eq_of_le (putAt_le l n) with hk | hk
  · by_cases hh : hitA l n = true
    · exact rput_A l n vs hh hk hl hv hb
    · exact rput_B l n vs (by simpa using hh) hk hl hv
  · exact rput_C l n vs (by unfold hitA; rw [List.getElem?_eq_none (by omega)]) hk hl hv
def rputG : List D → Option (Bool × D)
  | [.x (.sl A), .agg [.x (.str n), .x (.sl V)]] => (unrows rAttr A).bind fun l => (unrows rStr V).bind fun vs => some (decide (l.length ≤ 1000) && (decide (vs.length ≤ 1000) && (decide (∀ a ∈ l, a.2.1.length ≤ 100000))), .x (.sl (rows rAttr (rputL l n vs))))
  | _ => none
theorem rputG_ok : ∀ args r, rputG args = some (true, r) → PCalls Try.prog 54 args r := by
  intro args r h
  unfold rputG at h
  split at h
  · rename_i A n V
    obtain ⟨l, hr0, h⟩ := Option.bind_eq_some_iff.1 h
    obtain ⟨vs, hr1, h⟩ := Option.bind_eq_some_iff.1 h
    simp only [Option.some.injEq, Prod.mk.injEq, Bool.and_eq_true, decide_eq_true_eq, true_and] at h
    obtain ⟨⟨h1, h2, h3⟩, rfl⟩ := h
    rw [← rows_unrows good_rAttr hr0]
    rw [← rows_unrows good_rStr hr1]
    exact rput_c l n vs h1 h2 h3
  · cases h
/-- Attributes made clean, by the document. -/
def rcleanL (l : List TAttr) : List TAttr := l.foldl (fun acc a => rputL acc (lowS a.1) a.2.1) []
theorem rcleanL_take (l : List TAttr) (j : Nat) (h : j < l.length) : rcleanL (l.take (j + 1)) = rputL (rcleanL (l.take j)) (lowS l[j].1) l[j].2.1 := by
  unfold rcleanL; rw [List.take_succ_eq_append_getElem h, List.foldl_append]; rfl
theorem rcleanL_len (l : List TAttr) : ∀ j, j ≤ l.length → (rcleanL (l.take j)).length ≤ j
  | 0, _ => by simp [rcleanL]
  | j + 1, h => by
    rw [rcleanL_take l j (by omega)]
    have := rputL_len (rcleanL (l.take j)) (lowS l[j].1) l[j].2.1
    have := rcleanL_len l j (by omega)
    omega
theorem rcleanL_vals (l : List TAttr) (hb : ∀ a ∈ l, a.2.1.length ≤ 1000) : ∀ j, j ≤ l.length → ∀ a ∈ rcleanL (l.take j), a.2.1.length ≤ j * 1000
  | 0, _ => by simp [rcleanL]
  | j + 1, h => by
    rw [rcleanL_take l j (by omega)]
    have := rputL_vals (rcleanL (l.take j)) (lowS l[j].1) l[j].2.1 (j * 1000) 1000 (rcleanL_vals l hb j (by omega)) (hb _ (List.getElem_mem _))
    intro a ha
    have := this a ha
    omega
def tabR10 : Tabs := addQ (addQ (noTabs) 55 lower5G) 54 (viaNN rputG)
theorem tabR10_ok : SsOk Try.prog tabR10 := addQ_ok (addQ_ok (noTabs_ok) (G_enters G_ok (p := i55) rfl) lower5G_ok) (G_enters G_ok (p := i54) rfl) (viaNN_ok rputG_ok)
theorem tabR10_q55 (a : List D) : tabR10.q 55 a = lower5G a := rfl
theorem tabR10_q54 (a : List D) : tabR10.q 54 a = viaNN rputG a := rfl
theorem tabR10_r (f : FuncId) (a : List D) (o : List Ob) : tabR10.r f a o = none := rfl
theorem tabR10_k (f : FuncId) (a : List D) (o : List Ob) : tabR10.k f a o = none := rfl
theorem un_A (l : List TAttr) : unrows rAttr (rows rAttr l) = some l := unrows_rows good_rAttr l
theorem un_S (l : List (List UInt8)) : unrows rStr (rows rStr l) = some l := unrows_rows good_rStr l
theorem rclean_c (dn : List UInt8) (l : List TAttr) (hl : l.length ≤ 100) (ht : ∀ a ∈ l, a.1.length ≤ 1000000) (hb : ∀ a ∈ l, a.2.1.length ≤ 1000) : PCalls Try.prog 53 [.agg [.x (.str dn), .x (.sl (rows rAttr l))]] (.agg [.x (.str dn), .x (.sl (rows rAttr (rcleanL l)))]) := by
  refine FCalls.pure (fcallsG (fz := true) G_ok (p := i53) rfl _ (Nat.le_of_ble_eq_true rfl) _ (fun C0 E0 => ?_)) rfl
  dsimp only [i53, argsφ]
  have uu := And.intro @lower5G.eq_1 (And.intro @lower5G.eq_2 (And.intro @rputG.eq_1 (And.intro @rputG.eq_2 (And.intro @un_A (And.intro @un_S (And.intro @tabR10_r (And.intro @tabR10_k (And.intro @tabR10_q54 (@tabR10_q55)))))))))
  refine WI.seq ?_
  refine WI.regB tabR10_ok [1, 2] ?_
  iterate 2 refine oG (hok := by first | with_reducible rfl | omega | (exact decide_eq_true (by omega)) | (rw [Bool.and_eq_true, Bool.and_eq_true]; exact ⟨decide_eq_true (by omega), decide_eq_true (by omega), decide_eq_true hvj⟩) | (simp; done) | (simp; omega) | rfl) ?_
  refine oN ?_
  refine thenQ_normal ?_
  refine WI.seq ?_
  refine WI.regB tabR10_ok [1, 2, 3] ?_
  refine oS ?_
  refine oN ?_
  refine thenQ_normal ?_
  refine WI.seq ?_
  refine WI.seq ?_
  refine WI.regB tabR10_ok [1, 2, 3, 4] ?_
  refine oS ?_
  refine oN ?_
  refine thenQ_normal ?_
  refine WI.block ?_
  refine WI.nnA ?_
  refine WI.loop (fun φ os => ∃ (j : Nat), φ = [(1, .ptr 0 0), (2, .ptr 1 0), (3, .x (.sl (rows rAttr (rcleanL (l.take j))))), (4, .x (.int .i64 j))] ∧ os = [.box [.x (.str dn), .x (.sl (rows rAttr l))], .box [.x (.str []), .x (.sl [])]] ∧ j ≤ l.length) (down l.length 4) ?_ (fun φ os hI => ?_)
  · exact ⟨0, rfl, rfl, by omega⟩
  · obtain ⟨j, rfl, rfl, hj⟩ := hI
    refine WI.seq ?_
    refine WI.seq ?_
    refine WI.regB tabR10_ok [1, 2, 3, 4, 9] ?_
    iterate 2 refine oS ?_
    iterate 3 refine oG (hok := by first | with_reducible rfl | omega | (exact decide_eq_true (by omega)) | (rw [Bool.and_eq_true, Bool.and_eq_true]; exact ⟨decide_eq_true (by omega), decide_eq_true (by omega), decide_eq_true hvj⟩) | (simp; done) | (simp; omega) | rfl) ?_
    refine oN ?_
    refine thenQ_normal ?_
    refine WI.cond (b := _) rfl rfl (fun h0 => ?_) (fun h0 => ?_)
    · try simp only [zB] at h0
      refine WI.skip ?_
      refine thenQ_normal ?_
      refine WI.seq ?_
      refine WI.block ?_
      have hj4 : j < l.length := by omega
      have hst := rcleanL_take l j hj4
      have hlj := rcleanL_len l j hj
      have hvj : ∀ a ∈ rcleanL (l.take j), a.2.1.length ≤ 100000 := fun a ha => by have := rcleanL_vals l hb j hj a ha; omega
      have htj := ht l[j] (List.getElem_mem _)
      have hbj := hb l[j] (List.getElem_mem _)
      refine WI.dregB tabR10_ok [1, 2, 3, 4] ?_
      iterate 2 refine dFS ?_
      refine dQG (hok := by first | with_reducible rfl | omega | (exact decide_eq_true (by omega)) | (rw [Bool.and_eq_true, Bool.and_eq_true]; exact ⟨decide_eq_true (by omega), decide_eq_true (by omega), decide_eq_true hvj⟩) | (simp; done) | (simp; omega) | rfl) ?_
      refine dFS ?_
      refine dQG (hok := by first | with_reducible rfl | omega | (exact decide_eq_true (by omega)) | (rw [Bool.and_eq_true, Bool.and_eq_true]; exact ⟨decide_eq_true (by omega), decide_eq_true (by omega), decide_eq_true hvj⟩) | (simp; done) | (simp; omega) | rfl) ?_
      refine dFS ?_
      refine dQG (hok := by first | with_reducible rfl | omega | (exact decide_eq_true (by omega)) | (rw [Bool.and_eq_true, Bool.and_eq_true]; exact ⟨decide_eq_true (by omega), decide_eq_true (by omega), decide_eq_true hvj⟩) | (simp; done) | (simp; omega) | rfl) ?_
      refine dQC (hok := by first | with_reducible rfl | omega | (exact decide_eq_true (by omega)) | (rw [Bool.and_eq_true, Bool.and_eq_true]; exact ⟨decide_eq_true (by omega), decide_eq_true (by omega), decide_eq_true hvj⟩) | (simp; done) | (simp; omega) | rfl) ?_
      refine dFS ?_
      refine dQG (hok := by first | with_reducible rfl | omega | (exact decide_eq_true (by omega)) | (rw [Bool.and_eq_true, Bool.and_eq_true]; exact ⟨decide_eq_true (by omega), decide_eq_true (by omega), decide_eq_true hvj⟩) | (simp; done) | (simp; omega) | rfl) ?_
      refine dFS ?_
      refine dQG (hok := by first | with_reducible rfl | omega | (exact decide_eq_true (by omega)) | (rw [Bool.and_eq_true, Bool.and_eq_true]; exact ⟨decide_eq_true (by omega), decide_eq_true (by omega), decide_eq_true hvj⟩) | (simp; done) | (simp; omega) | rfl) ?_
      refine dFS ?_
      refine dQG (hok := by first | with_reducible rfl | omega | (exact decide_eq_true (by omega)) | (rw [Bool.and_eq_true, Bool.and_eq_true]; exact ⟨decide_eq_true (by omega), decide_eq_true (by omega), decide_eq_true hvj⟩) | (simp; done) | (simp; omega) | rfl) ?_
      refine dFG (hok := by first | with_reducible rfl | omega | (exact decide_eq_true (by omega)) | (rw [Bool.and_eq_true, Bool.and_eq_true]; exact ⟨decide_eq_true (by omega), decide_eq_true (by omega), decide_eq_true hvj⟩) | (simp; done) | (simp; omega) | rfl) ?_
      refine dAC (hok := by first | with_reducible rfl | omega | (exact decide_eq_true (by omega)) | (rw [Bool.and_eq_true, Bool.and_eq_true]; exact ⟨decide_eq_true (by omega), decide_eq_true (by omega), decide_eq_true hvj⟩) | (simp; done) | (simp; omega) | rfl) ?_
      refine dFS ?_
      refine dN ?_
      refine blockQ_normal ?_
      refine thenQ_normal ?_
      refine WI.regB tabR10_ok [1, 2, 3, 4] ?_
      refine oS ?_
      refine oG (hok := by first | with_reducible rfl | omega | (exact decide_eq_true (by omega)) | (rw [Bool.and_eq_true, Bool.and_eq_true]; exact ⟨decide_eq_true (by omega), decide_eq_true (by omega), decide_eq_true hvj⟩) | (simp; done) | (simp; omega) | rfl) ?_
      refine oS ?_
      refine oN ?_
      refine thenQ_normal ?_
      exact ⟨⟨j + 1, by rw [hst]; rfl, rfl, by omega⟩, by simp [down, Ab.get, D.val, intOf?]; omega⟩
    · try simp only [zB] at h0
      refine WI.exit ?_
      refine thenQ_exit ?_
      refine thenQ_exit ?_
      refine blockQ_hit ?_
      refine thenQ_normal ?_
      refine WI.seq ?_
      have hvt : l.take j = l := List.take_of_length_le (by omega)
      rw [hvt]
      refine WI.regB tabR10_ok [2] ?_
      refine oS ?_
      refine oG (hok := by first | with_reducible rfl | omega | (exact decide_eq_true (by omega)) | (rw [Bool.and_eq_true, Bool.and_eq_true]; exact ⟨decide_eq_true (by omega), decide_eq_true (by omega), decide_eq_true hvj⟩) | (simp; done) | (simp; omega) | rfl) ?_
      refine oS ?_
      iterate 2 refine oG (hok := by first | with_reducible rfl | omega | (exact decide_eq_true (by omega)) | (rw [Bool.and_eq_true, Bool.and_eq_true]; exact ⟨decide_eq_true (by omega), decide_eq_true (by omega), decide_eq_true hvj⟩) | (simp; done) | (simp; omega) | rfl) ?_
      refine oN ?_
      refine thenQ_normal ?_
      refine WI.ret ?_
      first | refine lfR ?_ | refine lfR2 ?_
      first | rfl | exact ⟨rfl, rfl⟩ | trivial -- leaf 0
def rcleanG : List D → Option (Bool × D)
  | [.agg [.x (.str dn), .x (.sl A)]] => (unrows rAttr A).bind fun l => some (decide (l.length ≤ 100) && (decide (∀ a ∈ l, a.1.length ≤ 1000000) && (decide (∀ a ∈ l, a.2.1.length ≤ 1000))), .agg [.x (.str dn), .x (.sl (rows rAttr (rcleanL l)))])
  | _ => none
theorem rcleanG_ok : ∀ args r, rcleanG args = some (true, r) → PCalls Try.prog 53 args r := by
  intro args r h
  unfold rcleanG at h
  split at h
  · rename_i dn A
    obtain ⟨l, hr0, h⟩ := Option.bind_eq_some_iff.1 h
    simp only [Option.some.injEq, Prod.mk.injEq, Bool.and_eq_true, decide_eq_true_eq, true_and] at h
    obtain ⟨⟨h1, h2, h3⟩, rfl⟩ := h
    rw [← rows_unrows good_rAttr hr0]
    exact rclean_c dn l h1 h2 h3
  · cases h
def tabR10w : Tabs := addQ (addQ (addQ (noTabs) 55 lower5G) 54 (viaNN rputG)) 53 (viaNN rcleanG)
theorem tabR10w_ok : SsOk Try.prog tabR10w := addQ_ok (addQ_ok (addQ_ok (noTabs_ok) (G_enters G_ok (p := i55) rfl) lower5G_ok) (G_enters G_ok (p := i54) rfl) (viaNN_ok rputG_ok)) (G_enters G_ok (p := i53) rfl) (viaNN_ok rcleanG_ok)
theorem tabR10w_q55 (a : List D) : tabR10w.q 55 a = lower5G a := rfl
theorem tabR10w_q54 (a : List D) : tabR10w.q 54 a = viaNN rputG a := rfl
theorem tabR10w_q53 (a : List D) : tabR10w.q 53 a = viaNN rcleanG a := rfl
theorem tabR10w_r (f : FuncId) (a : List D) (o : List Ob) : tabR10w.r f a o = none := rfl
theorem tabR10w_k (f : FuncId) (a : List D) (o : List Ob) : tabR10w.k f a o = none := rfl
theorem rwith_c (dn at_ : List UInt8) (l : List TAttr) (vs : List (List UInt8)) (ha : at_.length ≤ 1000000) (hv : vs.length ≤ 1000) (hl : l.length ≤ 100) (ht : ∀ a ∈ l, a.1.length ≤ 1000000) (hb : ∀ a ∈ l, a.2.1.length ≤ 1000) : PCalls Try.prog 23 [.agg [.x (.str dn), .x (.sl (rows rAttr l))], .x (.str at_), .x (.sl (rows rStr vs))] (.agg [.x (.str dn), .x (.sl (rows rAttr (rputL (rcleanL l) (lowS at_) vs)))]) := by
  have hlj := rcleanL_len l l.length (Nat.le_refl _)
  have hvj : ∀ a ∈ rcleanL l, a.2.1.length ≤ 100000 := fun a ha => by
    have := rcleanL_vals l hb l.length (Nat.le_refl _) a (by rw [List.take_length]; exact ha); omega
  rw [List.take_length] at hlj
  refine FCalls.pure (fcallsG (fz := true) G_ok (p := i23) rfl _ (Nat.le_of_ble_eq_true rfl) _ (fun C0 E0 => ?_)) rfl
  dsimp only [i23, argsφ]
  have uu := And.intro @lower5G.eq_1 (And.intro @lower5G.eq_2 (And.intro @rputG.eq_1 (And.intro @rputG.eq_2 (And.intro @rcleanG.eq_1 (And.intro @rcleanG.eq_2 (And.intro @un_A (And.intro @un_S (And.intro @tabR10w_r (And.intro @tabR10w_k (And.intro @tabR10w_q53 (And.intro @tabR10w_q54 (@tabR10w_q55))))))))))))
  refine WI.seq ?_
  refine WI.regB tabR10w_ok [1, 2, 3, 6] ?_
  iterate 2 refine oG (hok := by first | with_reducible rfl | omega | (exact decide_eq_true (by omega)) | (rw [Bool.and_eq_true, Bool.and_eq_true]; exact ⟨decide_eq_true (by omega), decide_eq_true (by omega), decide_eq_true hvj⟩) | (rw [Bool.and_eq_true, Bool.and_eq_true]; exact ⟨decide_eq_true hl, decide_eq_true ht, decide_eq_true hb⟩) | (simp; done) | (simp; omega) | rfl) ?_
  refine oN ?_
  refine thenQ_normal ?_
  refine WI.seq ?_
  refine WI.regB tabR10w_ok [1, 2, 6, 7] ?_
  refine oG (hok := by first | with_reducible rfl | omega | (exact decide_eq_true (by omega)) | (rw [Bool.and_eq_true, Bool.and_eq_true]; exact ⟨decide_eq_true (by omega), decide_eq_true (by omega), decide_eq_true hvj⟩) | (rw [Bool.and_eq_true, Bool.and_eq_true]; exact ⟨decide_eq_true hl, decide_eq_true ht, decide_eq_true hb⟩) | (simp; done) | (simp; omega) | rfl) ?_
  refine oC (hok := by first | with_reducible rfl | omega | (exact decide_eq_true (by omega)) | (rw [Bool.and_eq_true, Bool.and_eq_true]; exact ⟨decide_eq_true (by omega), decide_eq_true (by omega), decide_eq_true hvj⟩) | (rw [Bool.and_eq_true, Bool.and_eq_true]; exact ⟨decide_eq_true hl, decide_eq_true ht, decide_eq_true hb⟩) | (simp; done) | (simp; omega) | rfl) ?_
  iterate 2 refine oG (hok := by first | with_reducible rfl | omega | (exact decide_eq_true (by omega)) | (rw [Bool.and_eq_true, Bool.and_eq_true]; exact ⟨decide_eq_true (by omega), decide_eq_true (by omega), decide_eq_true hvj⟩) | (rw [Bool.and_eq_true, Bool.and_eq_true]; exact ⟨decide_eq_true hl, decide_eq_true ht, decide_eq_true hb⟩) | (simp; done) | (simp; omega) | rfl) ?_
  refine oN ?_
  refine thenQ_normal ?_
  refine WI.seq ?_
  refine WI.dregB tabR10w_ok [6] ?_
  refine dFS ?_
  refine dQG (hok := by first | with_reducible rfl | omega | (exact decide_eq_true (by omega)) | (rw [Bool.and_eq_true, Bool.and_eq_true]; exact ⟨decide_eq_true (by omega), decide_eq_true (by omega), decide_eq_true hvj⟩) | (rw [Bool.and_eq_true, Bool.and_eq_true]; exact ⟨decide_eq_true hl, decide_eq_true ht, decide_eq_true hb⟩) | (simp; done) | (simp; omega) | rfl) ?_
  refine dFS ?_
  refine dQG (hok := by first | with_reducible rfl | omega | (exact decide_eq_true (by omega)) | (rw [Bool.and_eq_true, Bool.and_eq_true]; exact ⟨decide_eq_true (by omega), decide_eq_true (by omega), decide_eq_true hvj⟩) | (rw [Bool.and_eq_true, Bool.and_eq_true]; exact ⟨decide_eq_true hl, decide_eq_true ht, decide_eq_true hb⟩) | (simp; done) | (simp; omega) | rfl) ?_
  refine dFS ?_
  refine dQC (hok := by first | with_reducible rfl | omega | (exact decide_eq_true (by omega)) | (rw [Bool.and_eq_true, Bool.and_eq_true]; exact ⟨decide_eq_true (by omega), decide_eq_true (by omega), decide_eq_true hvj⟩) | (rw [Bool.and_eq_true, Bool.and_eq_true]; exact ⟨decide_eq_true hl, decide_eq_true ht, decide_eq_true hb⟩) | (simp; done) | (simp; omega) | rfl) ?_
  refine dFS ?_
  refine dFG (hok := by first | with_reducible rfl | omega | (exact decide_eq_true (by omega)) | (rw [Bool.and_eq_true, Bool.and_eq_true]; exact ⟨decide_eq_true (by omega), decide_eq_true (by omega), decide_eq_true hvj⟩) | (rw [Bool.and_eq_true, Bool.and_eq_true]; exact ⟨decide_eq_true hl, decide_eq_true ht, decide_eq_true hb⟩) | (simp; done) | (simp; omega) | rfl) ?_
  refine dQC (hok := by first | with_reducible rfl | omega | (exact decide_eq_true (by omega)) | (rw [Bool.and_eq_true, Bool.and_eq_true]; exact ⟨decide_eq_true (by omega), decide_eq_true (by omega), decide_eq_true hvj⟩) | (rw [Bool.and_eq_true, Bool.and_eq_true]; exact ⟨decide_eq_true hl, decide_eq_true ht, decide_eq_true hb⟩) | (simp; done) | (simp; omega) | rfl) ?_
  refine dFG (hok := by first | with_reducible rfl | omega | (exact decide_eq_true (by omega)) | (rw [Bool.and_eq_true, Bool.and_eq_true]; exact ⟨decide_eq_true (by omega), decide_eq_true (by omega), decide_eq_true hvj⟩) | (rw [Bool.and_eq_true, Bool.and_eq_true]; exact ⟨decide_eq_true hl, decide_eq_true ht, decide_eq_true hb⟩) | (simp; done) | (simp; omega) | rfl) ?_
  refine dAG (hok := by first | with_reducible rfl | omega | (exact decide_eq_true (by omega)) | (rw [Bool.and_eq_true, Bool.and_eq_true]; exact ⟨decide_eq_true (by omega), decide_eq_true (by omega), decide_eq_true hvj⟩) | (rw [Bool.and_eq_true, Bool.and_eq_true]; exact ⟨decide_eq_true hl, decide_eq_true ht, decide_eq_true hb⟩) | (simp; done) | (simp; omega) | rfl) ?_
  refine dN ?_
  refine thenQ_normal ?_
  refine WI.ret ?_
  first | refine lfR ?_ | refine lfR2 ?_
  first | rfl | exact ⟨rfl, rfl⟩ | trivial -- leaf 0
def rwithG : List D → Option (Bool × D)
  | [.agg [.x (.str dn), .x (.sl A)], .x (.str at_), .x (.sl V)] => (unrows rAttr A).bind fun l => (unrows rStr V).bind fun vs => some (decide (at_.length ≤ 1000000) && (decide (vs.length ≤ 1000) && (decide (l.length ≤ 100) && (decide (∀ a ∈ l, a.1.length ≤ 1000000) && (decide (∀ a ∈ l, a.2.1.length ≤ 1000))))), .agg [.x (.str dn), .x (.sl (rows rAttr (rputL (rcleanL l) (lowS at_) vs)))])
  | _ => none
theorem rwithG_ok : ∀ args r, rwithG args = some (true, r) → PCalls Try.prog 23 args r := by
  intro args r h
  unfold rwithG at h
  split at h
  · rename_i dn A at_ V
    obtain ⟨l, hr0, h⟩ := Option.bind_eq_some_iff.1 h
    obtain ⟨vs, hr1, h⟩ := Option.bind_eq_some_iff.1 h
    simp only [Option.some.injEq, Prod.mk.injEq, Bool.and_eq_true, decide_eq_true_eq, true_and] at h
    obtain ⟨⟨h1, h2, h3, h4, h5⟩, rfl⟩ := h
    rw [← rows_unrows good_rAttr hr0]
    rw [← rows_unrows good_rStr hr1]
    exact rwith_c dn at_ l vs h1 h2 h3 h4 h5
  · cases h
end Go.Proofs.Ytcffpndhodhncaa
end
section
/- Count: put at an entry without attributes. -/
set_option linter.unusedSimpArgs false
set_option linter.unusedVariables false
namespace Go.Proofs.Ytcffpndhodhncaa
open Go.RowKit Go.Bo Go.Ab

theorem bsNil_c (s : List UInt8) : PCalls Try.prog 90 [.x .nils, .x (.str s), .fn 91 []] (.tup [xI 0, .x (.bool false)]) := by
  refine FCalls.pure (fcallsG (fz := true) G_ok (p := i90) rfl _ (Nat.le_of_ble_eq_true rfl) _ (fun C0 E0 => ?_)) rfl
  dsimp only [i90, argsφ]
  have uu := trivial
  refine WI.seq ?_
  refine WI.regB noTabs_ok [0, 1, 2] ?_
  iterate 2 refine oS ?_
  refine oN ?_
  refine thenQ_normal ?_
  refine WI.seq ?_
  refine WI.regB noTabs_ok [0, 1, 2, 8] ?_
  refine oS ?_
  refine oG ?_
  refine oS ?_
  refine oN ?_
  refine thenQ_normal ?_
  refine WI.seq ?_
  refine WI.regB noTabs_ok [0, 1, 2, 8, 9, 10] ?_
  iterate 3 refine oS ?_
  refine oN ?_
  refine thenQ_normal ?_
  refine WI.seq ?_
  refine WI.block ?_
  refine WI.loop (fun φ os => φ = [(0, .x .nils), (1, .x (.str s)), (2, .fn 91 []), (8, xI 0), (9, xI 0), (10, xI 0)] ∧ os = []) (down 0 9) ?_ (fun φ os hI => ?_)
  · exact ⟨rfl, rfl⟩
  · obtain ⟨rfl, rfl⟩ := hI
    refine WI.seq ?_
    refine WI.seq ?_
    refine WI.regB noTabs_ok [0, 1, 2, 8, 9, 10, 17] ?_
    iterate 2 refine oS ?_
    refine oG ?_
    refine oN ?_
    refine thenQ_normal ?_
    refine WI.cond (b := _) rfl rfl (fun h0 => ?_) (fun h0 => ?_)
    · exfalso
      simp at h0
    · try simp only [zB] at h0
      refine WI.exit ?_
      refine thenQ_exit ?_
      refine thenQ_exit ?_
      refine blockQ_hit ?_
      refine thenQ_normal ?_
      refine WI.seq ?_
      refine WI.regB noTabs_ok [6, 7] ?_
      iterate 3 refine oS ?_
      refine oG ?_
      refine oS ?_
      iterate 6 refine oG ?_
      refine oC ?_
      iterate 2 refine oG ?_
      iterate 2 refine oS ?_
      refine oN ?_
      refine thenQ_normal ?_
      refine WI.ret ?_
      first | refine lfR ?_ | refine lfR2 ?_
      first | rfl | exact ⟨rfl, rfl⟩ | trivial -- leaf 0
abbrev atB (n : List UInt8) : Ob := .rows false 120 2 [[.str n, .nils]]
theorem insNil_c (n : List UInt8) : MCalls Try.prog 92 [.x .nils, xI 0, .ref 0 1 0 1] [atB n] (.ref 1 1 0 1) [atB n, atB n] := by
  refine FCalls.mcalls (fcallsG (fz := false) G_ok (p := i92) rfl _ (Nat.le_of_ble_eq_true rfl) _ (fun C0 E0 => ?_))
  dsimp only [i92, argsφ]
  have uu := trivial
  refine WI.seq ?_
  refine WI.regB noTabs_ok [0, 1, 2] ?_
  refine oS ?_
  refine oN ?_
  refine thenQ_normal ?_
  refine WI.seq ?_
  refine WI.regB noTabs_ok [0, 1, 2] ?_
  iterate 2 refine oS ?_
  refine oG ?_
  refine oN ?_
  refine thenQ_normal ?_
  refine WI.seq ?_
  refine WI.regB noTabs_ok [0, 1, 2, 7] ?_
  refine oS ?_
  refine oG ?_
  refine oS ?_
  refine oN ?_
  refine thenQ_normal ?_
  refine WI.seq ?_
  refine WI.seq ?_
  refine WI.regB noTabs_ok [0, 1, 2, 7, 16] ?_
  refine oS ?_
  refine oG ?_
  refine oN ?_
  refine thenQ_normal ?_
  refine WI.cond (b := _) rfl rfl (fun h0 => ?_) (fun h0 => ?_)
  · exfalso
    simp at h0
  · try simp only [zB] at h0
    refine WI.skip ?_
    refine thenQ_normal ?_
    refine WI.seq ?_
    refine WI.regB noTabs_ok [0, 1, 2, 7, 8] ?_
    refine oS ?_
    refine oG ?_
    refine oS ?_
    refine oN ?_
    refine thenQ_normal ?_
    refine WI.seq ?_
    refine WI.seq ?_
    refine WI.regB noTabs_ok [0, 1, 2, 7, 8, 22] ?_
    iterate 2 refine oS ?_
    refine oG ?_
    refine oN ?_
    refine thenQ_normal ?_
    refine WI.cond (b := _) rfl rfl (fun h1 => ?_) (fun h1 => ?_)
    · try simp only [zB] at h1
      refine WI.seq ?_
      refine WI.regB noTabs_ok [6] ?_
      iterate 2 refine oS ?_
      refine oG ?_
      refine oS ?_
      refine oN ?_
      refine thenQ_normal ?_
      refine WI.ret ?_
      refine thenQ_ret ?_
      first | refine lfR ?_ | refine lfR2 ?_
      first | rfl | exact ⟨rfl, rfl⟩ | trivial -- leaf 0
    · exfalso
      simp at h1
end Go.Proofs.Ytcffpndhodhncaa
end
section
/- slices.Grow of a nil list of texts: by the kit's contract. -/
set_option linter.unusedSimpArgs false
set_option linter.unusedVariables false
namespace Go.Proofs.Ytcffpndhodhncaa
open Go.RowKit Go.Bo Go.Ab Go.Shelf

def growRen : Ren := ⟨fun | 4 => 100 | n => n, fun | 22 => 43 | 25 => 9 | n => n, fun n => n⟩
theorem growLays : Go.Proofs.Lays8.n4 Try.prog growRen where
  mixed := by kernel_rfl
  f4 := ⟨"slices.Grow[[]string,string]", by decide, by kernel_rfl⟩
  t0 := by kernel_rfl
  a0 := fun w => by kernel_rfl
  z0 := fun w => by kernel_rfl
  v0 := fun w => by kernel_rfl
  t3 := by kernel_rfl
  a3 := fun w => by kernel_rfl
  z3 := fun w => by kernel_rfl
  v3 := fun w => by kernel_rfl
  t4 := by kernel_rfl
  a4 := fun w => by kernel_rfl
  z4 := fun w => by kernel_rfl
  v4 := fun w => by kernel_rfl
  t9 := by kernel_rfl
  a9 := fun w => by kernel_rfl
  z9 := fun w => by kernel_rfl
  v9 := fun w => by kernel_rfl
  t20 := by kernel_rfl
  a20 := fun w => by kernel_rfl
  z20 := fun w => by kernel_rfl
  v20 := fun w => by kernel_rfl
  t22 := by kernel_rfl
  a22 := fun w => by kernel_rfl
  z22 := fun w => by kernel_rfl
  v22 := fun w => by kernel_rfl
theorem grow_enters : Go.Ab.Enters Try.prog 100 := growLays.f4.enters rfl
theorem grow_c (n : Nat) (hn : n ≤ 1000000) : MCalls Try.prog 100 [.x .nils, .x (.int .i64 n)] [] (.ref 0 0 0 0) [.rows false 9 1 []] := by
  intro c E vs R hvl
  obtain ⟨hsz, hv⟩ := hvl
  obtain ⟨v0, v1, rfl⟩ : ∃ v0 v1, vs = #[v0, v1] := by
    obtain ⟨vl⟩ := vs
    match vl, hsz with
    | [a, b], _ => exact ⟨a, b, rfl⟩
  have h0 := hv 0 _ v0 rfl rfl
  have h1 := hv 1 _ v1 rfl rfl
  cases h0 with
  | x h0 =>
  cases h1 with
  | x h1 =>
  cases h1 with
  | int _ _ =>
  cases h0 with
  | nils =>
  by_cases hz : n = 0
  · subst hz
    refine (Go.Proofs.Any8.slices_Grow_room growLays none 0 0 0 E.w (Nat.le_refl _) (by omega) (by omega) (Nat.le_refl _)).mono ?_
    rintro e w' ⟨rfl, rfl⟩
    obtain ⟨E', h1, h2, h3, h4⟩ := push_row R (fz := false) (e := 9) (sz := 1) (rs := []) (cu := .slice none 0 0) (xs := []) (Kept.refl _ _) ⟨rfl, .inl ⟨rfl, rfl⟩⟩ (fun b hb => by simp [Value.ownBlock] at hb) (fun r hr => by cases hr) (fun i r j x v h => by simp at h)
    exact ⟨_, E', rfl, h1, h2, h3, h4⟩
  · have hi : (Try.prog.info? 9).map (fun i => (i.zero, i.size, i.bytes)) = some (some (.string ByteArray.empty), 1, 16) := by kernel_rfl
    obtain ⟨i0, hi0, hi1⟩ := Option.map_eq_some_iff.1 hi
    simp only [Prod.mk.injEq] at hi1
    obtain ⟨hz0, hs0, hb0⟩ := hi1
    refine (Go.Proofs.Any8.slices_Grow_grow growLays i0 (.string ByteArray.empty) hi0 hz0 (by omega) none 0 0 n [] E.w (Nat.le_refl _) (by omega) (by rw [hb0]; omega) (by omega) (by simp) (fun _ => rfl) (fun a h => by cases h)).mono ?_
    rintro e w' ⟨rfl, rfl⟩
    have hG := grownCap_le_maxLen E.w (0 + n) 0 9 (by unfold maxLen; omega)
    have hGn : 0 + n ≤ grownCap E.w (0 + n) 0 9 := grownCap_ge E.w _ _ _
    have hgr : growRen.t 25 = 9 := rfl
    rw [hgr]
    generalize grownCap E.w (0 + n) 0 9 = G at hG hGn ⊢
    have hcs : (([] : List Value).toArray ++ Builtin.zeroCells (Value.string ByteArray.empty).cells (0 + n - 0) ++ Builtin.zeroCells (Value.string ByteArray.empty).cells (G - (0 + n))).size = G * 1 := by
      simp [Builtin.zeroCells, Value.cells] <;> omega
    obtain ⟨E', h1, h2, h3, h4⟩ := push_row R (fz := false) (e := 9) (sz := 1) (rs := []) (cu := .slice (some ⟨E.w.heap.size, 0, none⟩) 0 G) (xs := [])
      (Kept.of_none (((Ext.refl E.w).dr.al (.cells (([] : List Value).toArray ++ Builtin.zeroCells (Value.string ByteArray.empty).cells (0 + n - 0) ++ Builtin.zeroCells (Value.string ByteArray.empty).cells (G - (0 + n))) 9)).grown none))
      ⟨rfl, .inr ⟨E.w.heap.size, G, _, (0, 0), rfl, heap_alloc_new _ _, Nat.zero_le _, hG, hcs, by simp, .inl rfl⟩⟩ (fun b hb => by simp [Value.ownBlock] at hb; omega) (fun r hr => by cases hr) (fun i r j x v h => by simp at h)
    exact ⟨_, E', rfl, h1, h2, h3, h4⟩
def growT : List D → List Ob → Option (Bool × D × List Ob)
  | [.x .nils, .x (.int .i64 n)], [] => some (decide (0 ≤ n ∧ n.toNat ≤ 1000000), .ref 0 0 0 0, [.rows false 9 1 []])
  | _, _ => none
theorem growT_ok : ∀ args os r os', growT args os = some (true, r, os') → MCalls Try.prog 100 args os r os' := by
  intro args os r os' h
  unfold growT at h
  split at h
  · rename_i n
    simp only [Option.some.injEq, Prod.mk.injEq, decide_eq_true_eq] at h
    obtain ⟨⟨h1, h2⟩, rfl, rfl⟩ := h
    have := grow_c n.toNat h2
    rwa [Int.toNat_of_nonneg h1] at this
  · cases h
def tabGrow : Tabs := addT (noTabs) 100 growT
theorem tabGrow_ok : SsOk Try.prog tabGrow := addT_ok (noTabs_ok) grow_enters growT_ok
theorem tabGrow_q100 (a : List D) : tabGrow.q 100 a = none := rfl
theorem tabGrow_t100 (a : List D) (o : List Ob) : tabGrow.t 100 a o = liftT growT a o := rfl
theorem tabGrow_r (f : FuncId) (a : List D) (o : List Ob) : tabGrow.r f a o = none := rfl
theorem tabGrow_k (f : FuncId) (a : List D) (o : List Ob) : tabGrow.k f a o = none := rfl
/-- slices.Concat of two lists of texts. -/
theorem concat_c (a b : List (List UInt8)) (ha : a.length ≤ 100000) (hb : b.length ≤ 100000) : PCalls Try.prog 93 [.x (.sl [[.sl (rows rStr a)], [.sl (rows rStr b)]])] (.x (.sl (rows rStr (a ++ b)))) := by
  refine FCalls.pure (fcallsG (fz := true) G_ok (p := i93) rfl _ (Nat.le_of_ble_eq_true rfl) _ (fun C0 E0 => ?_)) rfl
  dsimp only [i93, argsφ]
  have uu := And.intro @growT.eq_1 (And.intro @growT.eq_2 (And.intro @tabGrow_r (And.intro @tabGrow_k (And.intro @tabGrow_q100 (@tabGrow_t100)))))
  refine WI.seq ?_
  refine WI.regB tabGrow_ok [0] ?_
  refine oS ?_
  refine oN ?_
  refine thenQ_normal ?_
  refine WI.seq ?_
  refine WI.regB tabGrow_ok [0, 3] ?_
  refine oS ?_
  refine oN ?_
  refine thenQ_normal ?_
  refine WI.seq ?_
  refine WI.seq ?_
  refine WI.regB tabGrow_ok [0, 3, 9, 10, 11] ?_
  refine oS ?_
  refine oG (hok := by first | with_reducible rfl | omega | (exact decide_eq_true (by omega)) | (simp; done) | (simp; omega) | rfl) ?_
  refine oS ?_
  refine oN ?_
  refine thenQ_normal ?_
  refine WI.block ?_
  refine WI.loopN 3 ?_
  refine WI.round ?_
  refine WI.seq ?_
  refine WI.regB tabGrow_ok [0, 3, 9, 10, 11, 12] ?_
  refine oG (hok := by first | with_reducible rfl | omega | (exact decide_eq_true (by omega)) | (simp; done) | (simp; omega) | rfl) ?_
  refine oN ?_
  refine thenQ_normal ?_
  refine WI.seq ?_
  refine WI.cond (b := _) rfl rfl (fun h0 => ?_) (fun h0 => ?_)
  · try simp only [zB] at h0
    refine WI.skip ?_
    refine thenQ_normal ?_
    refine WI.seq ?_
    refine WI.block ?_
    refine WI.seq ?_
    refine WI.regB tabGrow_ok [0, 3, 5, 9, 10, 11] ?_
    iterate 2 refine oG (hok := by first | with_reducible rfl | omega | (exact decide_eq_true (by omega)) | (simp; done) | (simp; omega) | rfl) ?_
    refine oS ?_
    refine oN ?_
    refine thenQ_normal ?_
    refine WI.seq ?_
    refine WI.regB tabGrow_ok [0, 3, 9, 10, 11] ?_
    iterate 2 refine oS ?_
    iterate 2 refine oG (hok := by first | with_reducible rfl | omega | (exact decide_eq_true (by omega)) | (simp; done) | (simp; omega) | rfl) ?_
    refine oS ?_
    refine oN ?_
    refine thenQ_normal ?_
    refine WI.seq ?_
    refine WI.regB tabGrow_ok [0, 3, 9, 10, 11, 20] ?_
    refine oS ?_
    refine oG (hok := by first | with_reducible rfl | omega | (exact decide_eq_true (by omega)) | (simp; done) | (simp; omega) | rfl) ?_
    refine oN ?_
    refine thenQ_normal ?_
    refine WI.cond (b := _) rfl rfl (fun h1 => ?_) (fun h1 => ?_)
    · exfalso
      first | omega | (simp at h1; done) | (simp at h1; omega)
    · try simp only [zB] at h1
      refine WI.skip ?_
      refine blockQ_normal ?_
      refine thenQ_normal ?_
      refine WI.regB tabGrow_ok [0, 3, 9, 10, 11] ?_
      refine oG (hok := by first | with_reducible rfl | omega | (exact decide_eq_true (by omega)) | (simp; done) | (simp; omega) | rfl) ?_
      refine oS ?_
      refine oN ?_
      refine thenQ_normal ?_
      refine WI.round ?_
      refine WI.seq ?_
      refine WI.regB tabGrow_ok [0, 3, 9, 10, 11, 12] ?_
      refine oG (hok := by first | with_reducible rfl | omega | (exact decide_eq_true (by omega)) | (simp; done) | (simp; omega) | rfl) ?_
      refine oN ?_
      refine thenQ_normal ?_
      refine WI.seq ?_
      refine WI.cond (b := _) rfl rfl (fun h0 => ?_) (fun h0 => ?_)
      · try simp only [zB] at h0
        refine WI.skip ?_
        refine thenQ_normal ?_
        refine WI.seq ?_
        refine WI.block ?_
        refine WI.seq ?_
        refine WI.regB tabGrow_ok [0, 3, 5, 9, 10, 11] ?_
        iterate 2 refine oG (hok := by first | with_reducible rfl | omega | (exact decide_eq_true (by omega)) | (simp; done) | (simp; omega) | rfl) ?_
        refine oS ?_
        refine oN ?_
        refine thenQ_normal ?_
        refine WI.seq ?_
        refine WI.regB tabGrow_ok [0, 3, 9, 10, 11] ?_
        iterate 2 refine oS ?_
        iterate 2 refine oG (hok := by first | with_reducible rfl | omega | (exact decide_eq_true (by omega)) | (simp; done) | (simp; omega) | rfl) ?_
        refine oS ?_
        refine oN ?_
        refine thenQ_normal ?_
        refine WI.seq ?_
        refine WI.regB tabGrow_ok [0, 3, 9, 10, 11, 20] ?_
        refine oS ?_
        refine oG (hok := by first | with_reducible rfl | omega | (exact decide_eq_true (by omega)) | (simp; done) | (simp; omega) | rfl) ?_
        refine oN ?_
        refine thenQ_normal ?_
        refine WI.cond (b := _) rfl rfl (fun h1 => ?_) (fun h1 => ?_)
        · exfalso
          first | omega | (simp at h1; done) | (simp at h1; omega)
        · try simp only [zB] at h1
          refine WI.skip ?_
          refine blockQ_normal ?_
          refine thenQ_normal ?_
          refine WI.regB tabGrow_ok [0, 3, 9, 10, 11] ?_
          refine oG (hok := by first | with_reducible rfl | omega | (exact decide_eq_true (by omega)) | (simp; done) | (simp; omega) | rfl) ?_
          refine oS ?_
          refine oN ?_
          refine thenQ_normal ?_
          refine WI.round ?_
          refine WI.seq ?_
          refine WI.regB tabGrow_ok [0, 3, 9, 10, 11, 12] ?_
          refine oG (hok := by first | with_reducible rfl | omega | (exact decide_eq_true (by omega)) | (simp; done) | (simp; omega) | rfl) ?_
          refine oN ?_
          refine thenQ_normal ?_
          refine WI.seq ?_
          refine WI.cond (b := _) rfl rfl (fun h0 => ?_) (fun h0 => ?_)
          · exact absurd h0 (by decide)
          · try simp only [zB] at h0
            refine WI.exit ?_
            refine thenQ_exit ?_
            refine thenQ_exit ?_
            refine blockQ_hit ?_
            refine thenQ_normal ?_
            refine WI.seq ?_
            refine WI.regB tabGrow_ok [0, 6] ?_
            refine oS ?_
            refine oC (hok := by first | with_reducible rfl | omega | (exact decide_eq_true (by omega)) | (simp; done) | (simp; omega) | rfl) ?_
            refine oS ?_
            refine oN ?_
            refine thenQ_normal ?_
            refine WI.seq ?_
            refine WI.seq ?_
            refine WI.regB tabGrow_ok [6, 25, 26, 27] ?_
            refine oS ?_
            refine oG (hok := by first | with_reducible rfl | omega | (exact decide_eq_true (by omega)) | (simp; done) | (simp; omega) | rfl) ?_
            refine oS ?_
            refine oN ?_
            refine thenQ_normal ?_
            refine WI.block ?_
            refine WI.loopN 3 ?_
            refine WI.round ?_
            refine WI.seq ?_
            refine WI.regB tabGrow_ok [6, 25, 26, 27, 28] ?_
            refine oG (hok := by first | with_reducible rfl | omega | (exact decide_eq_true (by omega)) | (simp; done) | (simp; omega) | rfl) ?_
            refine oN ?_
            refine thenQ_normal ?_
            refine WI.seq ?_
            refine WI.cond (b := _) rfl rfl (fun h2 => ?_) (fun h2 => ?_)
            · try simp only [zB] at h2
              refine WI.skip ?_
              refine thenQ_normal ?_
              refine WI.seq ?_
              refine WI.block ?_
              refine WI.seq ?_
              refine WI.regB tabGrow_ok [6, 8, 25, 26, 27] ?_
              iterate 2 refine oG (hok := by first | with_reducible rfl | omega | (exact decide_eq_true (by omega)) | (simp; done) | (simp; omega) | rfl) ?_
              refine oS ?_
              refine oN ?_
              refine thenQ_normal ?_
              refine WI.regB tabGrow_ok [6, 25, 26, 27] ?_
              iterate 2 refine oS ?_
              refine oG (hok := by first | with_reducible rfl | omega | (exact decide_eq_true (by omega)) | (simp; done) | (simp; omega) | rfl) ?_
              refine oS ?_
              refine oN ?_
              refine blockQ_normal ?_
              refine thenQ_normal ?_
              refine WI.regB tabGrow_ok [6, 25, 26, 27] ?_
              refine oG (hok := by first | with_reducible rfl | omega | (exact decide_eq_true (by omega)) | (simp; done) | (simp; omega) | rfl) ?_
              refine oS ?_
              refine oN ?_
              refine thenQ_normal ?_
              refine WI.round ?_
              refine WI.seq ?_
              refine WI.regB tabGrow_ok [6, 25, 26, 27, 28] ?_
              refine oG (hok := by first | with_reducible rfl | omega | (exact decide_eq_true (by omega)) | (simp; done) | (simp; omega) | rfl) ?_
              refine oN ?_
              refine thenQ_normal ?_
              refine WI.seq ?_
              refine WI.cond (b := _) rfl rfl (fun h2 => ?_) (fun h2 => ?_)
              · try simp only [zB] at h2
                refine WI.skip ?_
                refine thenQ_normal ?_
                refine WI.seq ?_
                refine WI.block ?_
                refine WI.seq ?_
                refine WI.regB tabGrow_ok [6, 8, 25, 26, 27] ?_
                iterate 2 refine oG (hok := by first | with_reducible rfl | omega | (exact decide_eq_true (by omega)) | (simp; done) | (simp; omega) | rfl) ?_
                refine oS ?_
                refine oN ?_
                refine thenQ_normal ?_
                refine WI.regB tabGrow_ok [6, 25, 26, 27] ?_
                iterate 2 refine oS ?_
                refine oG (hok := by first | with_reducible rfl | omega | (exact decide_eq_true (by omega)) | (simp; done) | (simp; omega) | rfl) ?_
                refine oS ?_
                refine oN ?_
                refine blockQ_normal ?_
                refine thenQ_normal ?_
                refine WI.regB tabGrow_ok [6, 25, 26, 27] ?_
                refine oG (hok := by first | with_reducible rfl | omega | (exact decide_eq_true (by omega)) | (simp; done) | (simp; omega) | rfl) ?_
                refine oS ?_
                refine oN ?_
                refine thenQ_normal ?_
                refine WI.round ?_
                refine WI.seq ?_
                refine WI.regB tabGrow_ok [6, 25, 26, 27, 28] ?_
                refine oG (hok := by first | with_reducible rfl | omega | (exact decide_eq_true (by omega)) | (simp; done) | (simp; omega) | rfl) ?_
                refine oN ?_
                refine thenQ_normal ?_
                refine WI.seq ?_
                refine WI.cond (b := _) rfl rfl (fun h2 => ?_) (fun h2 => ?_)
                · exact absurd h2 (by decide)
                · try simp only [zB] at h2
                  refine WI.exit ?_
                  refine thenQ_exit ?_
                  refine thenQ_exit ?_
                  refine blockQ_hit ?_
                  refine thenQ_normal ?_
                  refine WI.seq ?_
                  refine WI.regB tabGrow_ok [2] ?_
                  iterate 2 refine oS ?_
                  refine oN ?_
                  refine thenQ_normal ?_
                  refine WI.ret ?_
                  first | refine lfR ?_ | refine lfR2 ?_
                  rw [List.take_of_length_le (by simp)] -- leaf 0
              · exact absurd h2 (by decide)
            · exact absurd h2 (by decide)
      · exact absurd h0 (by decide)
  · exact absurd h0 (by decide)
theorem concat_nil (b : List (List UInt8)) (hb : b.length ≤ 100000) : PCalls Try.prog 93 [.x (.sl [[.nils], [.sl (rows rStr b)]])] (.x (.sl (rows rStr b))) := by
  refine FCalls.pure (fcallsG (fz := true) G_ok (p := i93) rfl _ (Nat.le_of_ble_eq_true rfl) _ (fun C0 E0 => ?_)) rfl
  dsimp only [i93, argsφ]
  have uu := And.intro @growT.eq_1 (And.intro @growT.eq_2 (And.intro @tabGrow_r (And.intro @tabGrow_k (And.intro @tabGrow_q100 (@tabGrow_t100)))))
  refine WI.seq ?_
  refine WI.regB tabGrow_ok [0] ?_
  refine oS ?_
  refine oN ?_
  refine thenQ_normal ?_
  refine WI.seq ?_
  refine WI.regB tabGrow_ok [0, 3] ?_
  refine oS ?_
  refine oN ?_
  refine thenQ_normal ?_
  refine WI.seq ?_
  refine WI.seq ?_
  refine WI.regB tabGrow_ok [0, 3, 9, 10, 11] ?_
  refine oS ?_
  refine oG (hok := by first | with_reducible rfl | omega | (exact decide_eq_true (by omega)) | (simp; done) | (simp; omega) | rfl) ?_
  refine oS ?_
  refine oN ?_
  refine thenQ_normal ?_
  refine WI.block ?_
  refine WI.loopN 3 ?_
  refine WI.round ?_
  refine WI.seq ?_
  refine WI.regB tabGrow_ok [0, 3, 9, 10, 11, 12] ?_
  refine oG (hok := by first | with_reducible rfl | omega | (exact decide_eq_true (by omega)) | (simp; done) | (simp; omega) | rfl) ?_
  refine oN ?_
  refine thenQ_normal ?_
  refine WI.seq ?_
  refine WI.cond (b := _) rfl rfl (fun h0 => ?_) (fun h0 => ?_)
  · try simp only [zB] at h0
    refine WI.skip ?_
    refine thenQ_normal ?_
    refine WI.seq ?_
    refine WI.block ?_
    refine WI.seq ?_
    refine WI.regB tabGrow_ok [0, 3, 5, 9, 10, 11] ?_
    iterate 2 refine oG (hok := by first | with_reducible rfl | omega | (exact decide_eq_true (by omega)) | (simp; done) | (simp; omega) | rfl) ?_
    refine oS ?_
    refine oN ?_
    refine thenQ_normal ?_
    refine WI.seq ?_
    refine WI.regB tabGrow_ok [0, 3, 9, 10, 11] ?_
    iterate 2 refine oS ?_
    iterate 2 refine oG (hok := by first | with_reducible rfl | omega | (exact decide_eq_true (by omega)) | (simp; done) | (simp; omega) | rfl) ?_
    refine oS ?_
    refine oN ?_
    refine thenQ_normal ?_
    refine WI.seq ?_
    refine WI.regB tabGrow_ok [0, 3, 9, 10, 11, 20] ?_
    refine oS ?_
    refine oG (hok := by first | with_reducible rfl | omega | (exact decide_eq_true (by omega)) | (simp; done) | (simp; omega) | rfl) ?_
    refine oN ?_
    refine thenQ_normal ?_
    refine WI.cond (b := _) rfl rfl (fun h1 => ?_) (fun h1 => ?_)
    · exfalso
      first | omega | (simp at h1; done) | (simp at h1; omega)
    · try simp only [zB] at h1
      refine WI.skip ?_
      refine blockQ_normal ?_
      refine thenQ_normal ?_
      refine WI.regB tabGrow_ok [0, 3, 9, 10, 11] ?_
      refine oG (hok := by first | with_reducible rfl | omega | (exact decide_eq_true (by omega)) | (simp; done) | (simp; omega) | rfl) ?_
      refine oS ?_
      refine oN ?_
      refine thenQ_normal ?_
      refine WI.round ?_
      refine WI.seq ?_
      refine WI.regB tabGrow_ok [0, 3, 9, 10, 11, 12] ?_
      refine oG (hok := by first | with_reducible rfl | omega | (exact decide_eq_true (by omega)) | (simp; done) | (simp; omega) | rfl) ?_
      refine oN ?_
      refine thenQ_normal ?_
      refine WI.seq ?_
      refine WI.cond (b := _) rfl rfl (fun h0 => ?_) (fun h0 => ?_)
      · try simp only [zB] at h0
        refine WI.skip ?_
        refine thenQ_normal ?_
        refine WI.seq ?_
        refine WI.block ?_
        refine WI.seq ?_
        refine WI.regB tabGrow_ok [0, 3, 5, 9, 10, 11] ?_
        iterate 2 refine oG (hok := by first | with_reducible rfl | omega | (exact decide_eq_true (by omega)) | (simp; done) | (simp; omega) | rfl) ?_
        refine oS ?_
        refine oN ?_
        refine thenQ_normal ?_
        refine WI.seq ?_
        refine WI.regB tabGrow_ok [0, 3, 9, 10, 11] ?_
        iterate 2 refine oS ?_
        iterate 2 refine oG (hok := by first | with_reducible rfl | omega | (exact decide_eq_true (by omega)) | (simp; done) | (simp; omega) | rfl) ?_
        refine oS ?_
        refine oN ?_
        refine thenQ_normal ?_
        refine WI.seq ?_
        refine WI.regB tabGrow_ok [0, 3, 9, 10, 11, 20] ?_
        refine oS ?_
        refine oG (hok := by first | with_reducible rfl | omega | (exact decide_eq_true (by omega)) | (simp; done) | (simp; omega) | rfl) ?_
        refine oN ?_
        refine thenQ_normal ?_
        refine WI.cond (b := _) rfl rfl (fun h1 => ?_) (fun h1 => ?_)
        · exfalso
          first | omega | (simp at h1; done) | (simp at h1; omega)
        · try simp only [zB] at h1
          refine WI.skip ?_
          refine blockQ_normal ?_
          refine thenQ_normal ?_
          refine WI.regB tabGrow_ok [0, 3, 9, 10, 11] ?_
          refine oG (hok := by first | with_reducible rfl | omega | (exact decide_eq_true (by omega)) | (simp; done) | (simp; omega) | rfl) ?_
          refine oS ?_
          refine oN ?_
          refine thenQ_normal ?_
          refine WI.round ?_
          refine WI.seq ?_
          refine WI.regB tabGrow_ok [0, 3, 9, 10, 11, 12] ?_
          refine oG (hok := by first | with_reducible rfl | omega | (exact decide_eq_true (by omega)) | (simp; done) | (simp; omega) | rfl) ?_
          refine oN ?_
          refine thenQ_normal ?_
          refine WI.seq ?_
          refine WI.cond (b := _) rfl rfl (fun h0 => ?_) (fun h0 => ?_)
          · exact absurd h0 (by decide)
          · try simp only [zB] at h0
            refine WI.exit ?_
            refine thenQ_exit ?_
            refine thenQ_exit ?_
            refine blockQ_hit ?_
            refine thenQ_normal ?_
            refine WI.seq ?_
            refine WI.regB tabGrow_ok [0, 6] ?_
            refine oS ?_
            refine oC (hok := by first | with_reducible rfl | omega | (exact decide_eq_true (by omega)) | (simp; done) | (simp; omega) | rfl) ?_
            refine oS ?_
            refine oN ?_
            refine thenQ_normal ?_
            refine WI.seq ?_
            refine WI.seq ?_
            refine WI.regB tabGrow_ok [6, 25, 26, 27] ?_
            refine oS ?_
            refine oG (hok := by first | with_reducible rfl | omega | (exact decide_eq_true (by omega)) | (simp; done) | (simp; omega) | rfl) ?_
            refine oS ?_
            refine oN ?_
            refine thenQ_normal ?_
            refine WI.block ?_
            refine WI.loopN 3 ?_
            refine WI.round ?_
            refine WI.seq ?_
            refine WI.regB tabGrow_ok [6, 25, 26, 27, 28] ?_
            refine oG (hok := by first | with_reducible rfl | omega | (exact decide_eq_true (by omega)) | (simp; done) | (simp; omega) | rfl) ?_
            refine oN ?_
            refine thenQ_normal ?_
            refine WI.seq ?_
            refine WI.cond (b := _) rfl rfl (fun h2 => ?_) (fun h2 => ?_)
            · try simp only [zB] at h2
              refine WI.skip ?_
              refine thenQ_normal ?_
              refine WI.seq ?_
              refine WI.block ?_
              refine WI.seq ?_
              refine WI.regB tabGrow_ok [6, 8, 25, 26, 27] ?_
              iterate 2 refine oG (hok := by first | with_reducible rfl | omega | (exact decide_eq_true (by omega)) | (simp; done) | (simp; omega) | rfl) ?_
              refine oS ?_
              refine oN ?_
              refine thenQ_normal ?_
              refine WI.regB tabGrow_ok [6, 25, 26, 27] ?_
              iterate 2 refine oS ?_
              refine oG (hok := by first | with_reducible rfl | omega | (exact decide_eq_true (by omega)) | (simp; done) | (simp; omega) | rfl) ?_
              refine oS ?_
              refine oN ?_
              refine blockQ_normal ?_
              refine thenQ_normal ?_
              refine WI.regB tabGrow_ok [6, 25, 26, 27] ?_
              refine oG (hok := by first | with_reducible rfl | omega | (exact decide_eq_true (by omega)) | (simp; done) | (simp; omega) | rfl) ?_
              refine oS ?_
              refine oN ?_
              refine thenQ_normal ?_
              refine WI.round ?_
              refine WI.seq ?_
              refine WI.regB tabGrow_ok [6, 25, 26, 27, 28] ?_
              refine oG (hok := by first | with_reducible rfl | omega | (exact decide_eq_true (by omega)) | (simp; done) | (simp; omega) | rfl) ?_
              refine oN ?_
              refine thenQ_normal ?_
              refine WI.seq ?_
              refine WI.cond (b := _) rfl rfl (fun h2 => ?_) (fun h2 => ?_)
              · try simp only [zB] at h2
                refine WI.skip ?_
                refine thenQ_normal ?_
                refine WI.seq ?_
                refine WI.block ?_
                refine WI.seq ?_
                refine WI.regB tabGrow_ok [6, 8, 25, 26, 27] ?_
                iterate 2 refine oG (hok := by first | with_reducible rfl | omega | (exact decide_eq_true (by omega)) | (simp; done) | (simp; omega) | rfl) ?_
                refine oS ?_
                refine oN ?_
                refine thenQ_normal ?_
                refine WI.regB tabGrow_ok [6, 25, 26, 27] ?_
                iterate 2 refine oS ?_
                refine oG (hok := by first | with_reducible rfl | omega | (exact decide_eq_true (by omega)) | (simp; done) | (simp; omega) | rfl) ?_
                refine oS ?_
                refine oN ?_
                refine blockQ_normal ?_
                refine thenQ_normal ?_
                refine WI.regB tabGrow_ok [6, 25, 26, 27] ?_
                refine oG (hok := by first | with_reducible rfl | omega | (exact decide_eq_true (by omega)) | (simp; done) | (simp; omega) | rfl) ?_
                refine oS ?_
                refine oN ?_
                refine thenQ_normal ?_
                refine WI.round ?_
                refine WI.seq ?_
                refine WI.regB tabGrow_ok [6, 25, 26, 27, 28] ?_
                refine oG (hok := by first | with_reducible rfl | omega | (exact decide_eq_true (by omega)) | (simp; done) | (simp; omega) | rfl) ?_
                refine oN ?_
                refine thenQ_normal ?_
                refine WI.seq ?_
                refine WI.cond (b := _) rfl rfl (fun h2 => ?_) (fun h2 => ?_)
                · exact absurd h2 (by decide)
                · try simp only [zB] at h2
                  refine WI.exit ?_
                  refine thenQ_exit ?_
                  refine thenQ_exit ?_
                  refine blockQ_hit ?_
                  refine thenQ_normal ?_
                  refine WI.seq ?_
                  refine WI.regB tabGrow_ok [2] ?_
                  iterate 2 refine oS ?_
                  refine oN ?_
                  refine thenQ_normal ?_
                  refine WI.ret ?_
                  first | refine lfR ?_ | refine lfR2 ?_
                  first | rfl | (rw [List.take_of_length_le (by simp)]) | (trace_state; sorry) -- leaf 0
              · exact absurd h2 (by decide)
            · exact absurd h2 (by decide)
      · exact absurd h0 (by decide)
  · exact absurd h0 (by decide)
end Go.Proofs.Ytcffpndhodhncaa
end
section
/- slices.Contains of texts: by the kit's contract. -/
set_option linter.unusedSimpArgs false
set_option linter.unusedVariables false
namespace Go.Proofs.Ytcffpndhodhncaa
open Go.RowKit Go.Bo Go.Ab

theorem bstr_inj {a b : List UInt8} (h : bstr a = bstr b) : a = b := by
  have := congrArg (fun x => x.data.toList) h
  simpa [bstr] using this
theorem contS (l : List (List UInt8)) (s : List UInt8) : Lib.containsS (l.map bstr) (bstr s) = decide (s ∈ l) := by
  rw [Bool.eq_iff_iff, Lib.containsS_iff, decide_eq_true_eq, List.mem_map]
  exact ⟨fun ⟨a, h1, h2⟩ => bstr_inj h2 ▸ h1, fun h => ⟨s, h, rfl⟩⟩
theorem cont_c (l : List (List UInt8)) (s : List UInt8) (hl : l.length ≤ 1000000) : PCalls Try.prog 94 [.x (.sl (rows rStr l)), .x (.str s)] (.x (.bool (decide (s ∈ l)))) := by
  intro w st vs hst hvl
  obtain ⟨hsz, hv⟩ := hvl
  obtain ⟨v0, v1, rfl⟩ : ∃ v0 v1, vs = #[v0, v1] := by
    obtain ⟨vl⟩ := vs
    match vl, hsz with
    | [a, b], _ => exact ⟨a, b, rfl⟩
  have h0 := hv 0 _ v0 rfl rfl
  have h1 := hv 1 _ v1 rfl rfl
  clear hv hsz
  cases h0 with
  | x h0 =>
  cases h1 with
  | x h1 =>
  cases h1 with
  | str _ =>
  cases h0 with
  | sl _ a n c sz val hn hc hm hsz hcell hnil hsp hval =>
    rw [rows_len] at hn
    subst hn
    match l, hl, hc, hsz, hcell, hval with
    | [], _, _, _, _, _ =>
      refine (Try.slices_Contains_string_empty a c (bstr s) w).mono ?_
      rintro e w' ⟨rfl, rfl⟩
      exact ⟨_, st, rfl, Kept.refl _ _, fun _ _ h => h, fun _ _ h => .inl h, .x (.bool _)⟩
    | x :: r, hl, hc, hsz, hcell, hval =>
      obtain rfl : 1 = sz := hsz [.str x] (by simp [rows, rStr])
      obtain ⟨b, off, rfl, hs0, _⟩ := hcell 0 0 (by simp) (by omega)
      have hcells : ∀ j, j < ((x :: r).map bstr).length → w.cell? ⟨b, off + j, none⟩ = some (.string (((x :: r).map bstr).getD j ByteArray.empty)) := by
        intro j hj
        rw [List.length_map] at hj
        obtain ⟨b', off', e, _, hw⟩ := hcell j 0 hj (by omega)
        simp only [Option.some.injEq, Addr.mk.injEq] at e
        obtain ⟨rfl, rfl, _⟩ := e
        have hx := hval j 0 [.str (x :: r)[j]] (.str (x :: r)[j]) (by simp only [rows, List.getElem?_map, List.getElem?_eq_getElem hj]; rfl) rfl
        have hd : ((x :: r).map bstr).getD j ByteArray.empty = bstr (x :: r)[j] := by rw [List.getD_eq_getElem?_getD, List.getElem?_map, List.getElem?_eq_getElem hj]; rfl
        rw [show off + j = off + j * 1 + 0 by omega, hw, hd]
        generalize val j 0 = u at hx
        cases hx with
        | str _ => rfl
      have := Try.slices_Contains_string b off (x :: r).length c ((x :: r).map bstr) (bstr s) w (by simp) (by omega) hcells
      rw [List.take_of_length_le (by simp), contS] at this
      refine this.mono ?_
      rintro e w' ⟨rfl, rfl⟩
      exact ⟨_, st, rfl, Kept.refl _ _, fun _ _ h => h, fun _ _ h => .inl h, .x (.bool _)⟩
theorem cont_enters : Go.Ab.Enters Try.prog 94 := Go.Proofs.enters_of Try.lays110.f110 (by kernel_rfl) rfl
def contG : List D → Option (Bool × D)
  | [.x (.sl R), .x (.str s)] => (unrows rStr R).bind fun l => some (decide (l.length ≤ 1000000), .x (.bool (decide (s ∈ l))))
  | _ => none
theorem contG_ok : ∀ args r, contG args = some (true, r) → PCalls Try.prog 94 args r := by
  intro args r h
  unfold contG at h
  split at h
  · rename_i R s
    obtain ⟨l, hr0, h⟩ := Option.bind_eq_some_iff.1 h
    simp only [Option.some.injEq, Prod.mk.injEq, Bool.and_eq_true, decide_eq_true_eq, true_and] at h
    obtain ⟨h1, rfl⟩ := h
    rw [← rows_unrows good_rStr hr0]
    exact (cont_c l s h1)
  · cases h
end Go.Proofs.Ytcffpndhodhncaa
end
