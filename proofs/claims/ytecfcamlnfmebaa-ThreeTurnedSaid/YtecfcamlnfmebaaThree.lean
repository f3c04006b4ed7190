/- three's functions and bothyref14's: each returns what a plain function gives. -/
import Derived.Test.YtecfcamlnfmebaaRows
import Derived.Test.YtecfcamlnfmebaaBase
namespace Go.Proofs.Ytecfcamlnfmebaa
open Go.RowKit Go.Bo

def hit (x y : Int) : Bool := x == y || (x == 2 && y != 0 && y != 1)
def hasB (l : List Int) (x : Int) : Bool := l.any (hit x)
def leastF (l : List Int) (n : Int) : List Int → Int
  | [] => n
  | x :: r => if hasB l x then x else leastF l n r

theorem hasB_snoc {l : List Int} {x : Int} {j : Nat} (h : j < l.length) (hn : hasB (l.take j) x = false) : hasB (l.take (j + 1)) x = hit x (l.getD j 0) := by
  unfold hasB at *
  rw [List.take_succ_eq_append_getElem h, List.any_append, hn]
  simp [h]
theorem hasB_yes {l : List Int} {x : Int} {j : Nat} (h : j < l.length) (hn : hit x (l.getD j 0) = true) : hasB l x = true := by
  unfold hasB
  simp only [List.any_eq_true]
  exact ⟨l[j], by simp, by simpa [h] using hn⟩
theorem leastF_drop {l : List Int} {n : Int} {o : List Int} {k : Nat} (h : k < o.length) :
    leastF l n (o.drop k) = if hasB l (o.getD k 0) then o.getD k 0 else leastF l n (o.drop (k + 1)) := by
  rw [List.drop_eq_getElem_cons h]; simp [leastF, h]


theorem hit_cases (x y : Int) :
    ((x == y) = true ∧ hit x y = true) ∨ ((x == y) = false ∧ (x == 2) = false ∧ hit x y = false) ∨
    ((x == y) = false ∧ (x == 2) = true ∧ (y != 0) = false ∧ hit x y = false) ∨ ((x == y) = false ∧ (x == 2) = true ∧ (y != 0) = true ∧ (y != 1) = false ∧ hit x y = false) ∨
    ((x == y) = false ∧ (x == 2) = true ∧ (y != 0) = true ∧ (y != 1) = true ∧ hit x y = true) := by
  unfold hit; grind

set_option maxHeartbeats 400000 in
theorem least_any (a : Option Addr) (c : Nat) (l : List Int) (n : Int) (b : Option Addr) (d : Nat) (o : List Int) (w : World) (hl : ISl w a l) (ho : ISl w b o) :
    Calls Try.prog 44 #[.slice a l.length c, .int .i64 n, .slice b o.length d] w fun e w' => e = .returned (.int .i64 (leastF l n o)) ∧ w = w' := by
  obtain ⟨hl0, hl1⟩ := hl
  obtain ⟨ho0, ho1⟩ := ho
  go_enter Try.func44, Try.ntmps44
  go_wp2
  go_loop [13] (fun i => ∃ k : Nat, k ≤ o.length ∧ i = .int .i64 k ∧ Hid (leastF l n o = leastF l n (o.drop k))) (fun i => o.length - (intOf i).toNat)
  case atStart => exact ⟨0, Nat.zero_le _, rfl, rfl⟩
  case round =>
    obtain ⟨k, hk, rfl, HD⟩ := hrel
    by_cases hlt : k < o.length
    · obtain ⟨bb, off, rfl, hc⟩ := ho1 k hlt
      have hx := leastF_drop (l := l) (n := n) hlt
      generalize o.getD k 0 = x at hc hx
      have HX := Lib.hid hx
      clear hx
      go_wp2
      go_loop [19] (fun i => ∃ j : Nat, j ≤ l.length ∧ i = .int .i64 j ∧ Hid (hasB (l.take j) x = false)) (fun i => l.length - (intOf i).toNat)
      case atStart => exact ⟨0, Nat.zero_le _, rfl, rfl⟩
      case round =>
        obtain ⟨j, hj, rfl, Hn⟩ := hrel
        by_cases hjt : j < l.length
        · obtain ⟨bb', off', rfl, hc'⟩ := hl1 j hjt
          have hs := hasB_snoc hjt Hn.out
          have hy := hasB_yes (x := x) hjt
          generalize l.getD j 0 = y at hc' hs hy
          have HS := Lib.hid hs
          have HY := Lib.hid hy
          clear hs hy
          rcases hit_cases x y with ⟨e1, hh⟩ | ⟨e1, e2, hh⟩ | ⟨e1, e2, e3, hh⟩ | ⟨e1, e2, e3, e4, hh⟩ | ⟨e1, e2, e3, e4, hh⟩
          all_goals have HH := Lib.hid hh
          all_goals clear hh
          all_goals go_wp2
          all_goals first
            | (go_ret; refine ⟨?_, rfl⟩; rw [HD.out, HX.out, if_pos (HY.out HH.out)]; rfl)
            | (go_round
               case rel => exact ⟨j + 1, by omega, by go_num, by rw [Hid, HS.out, HH.out]⟩
               case measure => simp [intOf]; omega)
        · go_wp2
          have hn := Hn.out
          rw [List.take_of_length_le (by omega)] at hn
          go_round
          case rel => exact ⟨k + 1, by omega, by go_num, by rw [Hid, HD.out, HX.out, hn]; rfl⟩
          case measure => simp [intOf]; omega
    · go_wp2
      go_ret
      refine ⟨?_, rfl⟩
      rw [HD.out, List.drop_of_length_le (by omega)]; rfl
def notF (x : Int) : Int := if x = 0 then 1 else if x = 1 then 0 else 2
def andF (l : List Int) : Int := leastF l 1 [0, 2]
def orF (l : List Int) : Int := leastF l 0 [1, 2]
def leaF (l : List Int) : Int := leastF l 2 [0, 2, 1]

theorem not_any (x : Int) (w : World) : Calls Try.prog 14 #[.int .i64 x] w fun e w' => e = .returned (.int .i64 (notF x)) ∧ w = w' := by
  by_cases h0 : x = 0
  · subst h0
    go_enter Try.func14, Try.ntmps14
    go_wp2
    go_ret
    exact ⟨rfl, rfl⟩
  · by_cases h1 : x = 1
    · subst h1
      go_enter Try.func14, Try.ntmps14
      go_wp2
      go_ret
      exact ⟨rfl, rfl⟩
    · have e0 : (x == 0) = false := by simpa using h0
      have e1 : (x == 1) = false := by simpa using h1
      have HF : Hid (notF x = 2) := by simp [Hid, notF, h0, h1]
      go_enter Try.func14, Try.ntmps14
      go_wp2
      go_ret
      exact ⟨ret_i HF.out.symm, rfl⟩

theorem notR_any (x : Int) (w : World) : Calls Try.prog 15 #[.int .i64 x] w fun e w' => e = .returned (.int .i64 (notF x)) ∧ w = w' := by
  by_cases h0 : x = 0
  · subst h0
    go_enter Try.func15, Try.ntmps15
    go_wp2
    go_ret
    exact ⟨rfl, rfl⟩
  · by_cases h1 : x = 1
    · subst h1
      go_enter Try.func15, Try.ntmps15
      go_wp2
      go_ret
      exact ⟨rfl, rfl⟩
    · have e0 : (x == 0) = false := by simpa using h0
      have e1 : (x == 1) = false := by simpa using h1
      have HF : Hid (notF x = 2) := by simp [Hid, notF, h0, h1]
      go_enter Try.func15, Try.ntmps15
      go_wp2
      go_ret
      exact ⟨ret_i HF.out.symm, rfl⟩

theorem and_any (a : Option Addr) (c : Nat) (l : List Int) (w : World) (hl : ISl w a l) :
    Calls Try.prog 16 #[.slice a l.length c] w fun e w' => e = .returned (.int .i64 (andF l)) ∧ Ext w w' := by
  go_enter Try.func16, Try.ntmps16
  go_wp2_with (go_at_call 44; refine (least_any _ _ l _ _ _ [0, 2] _ (hl.alloc _) (ISl.new _ [0, 2] (by decide) _)).mono ?_; rintro e w' ⟨rfl, rfl⟩)
  go_ret
  exact ⟨rfl, (Ext.refl _).al _⟩

theorem or_any (a : Option Addr) (c : Nat) (l : List Int) (w : World) (hl : ISl w a l) :
    Calls Try.prog 18 #[.slice a l.length c] w fun e w' => e = .returned (.int .i64 (orF l)) ∧ Ext w w' := by
  go_enter Try.func18, Try.ntmps18
  go_wp2_with (go_at_call 44; refine (least_any _ _ l _ _ _ [1, 2] _ (hl.alloc _) (ISl.new _ [1, 2] (by decide) _)).mono ?_; rintro e w' ⟨rfl, rfl⟩)
  go_ret
  exact ⟨rfl, (Ext.refl _).al _⟩

theorem lea_any (a : Option Addr) (c : Nat) (l : List Int) (w : World) (hl : ISl w a l) :
    Calls Try.prog 20 #[.slice a l.length c] w fun e w' => e = .returned (.int .i64 (leaF l)) ∧ Ext w w' := by
  go_enter Try.func20, Try.ntmps20
  go_wp2_with (go_at_call 44; refine (least_any _ _ l _ _ _ [0, 2, 1] _ (hl.alloc _) (ISl.new _ [0, 2, 1] (by decide) _)).mono ?_; rintro e w' ⟨rfl, rfl⟩)
  go_ret
  exact ⟨rfl, (Ext.refl _).al _⟩


theorem hit_cases' (x y : Int) :
    ((y == x) = true ∧ hit x y = true) ∨ ((y == x) = false ∧ (x == 2) = false ∧ hit x y = false) ∨
    ((y == x) = false ∧ (x == 2) = true ∧ (y != 0) = false ∧ hit x y = false) ∨ ((y == x) = false ∧ (x == 2) = true ∧ (y != 0) = true ∧ (y != 1) = false ∧ hit x y = false) ∨
    ((y == x) = false ∧ (x == 2) = true ∧ (y != 0) = true ∧ (y != 1) = true ∧ hit x y = true) := by
  unfold hit; grind

theorem has_any (a : Option Addr) (c : Nat) (l : List Int) (x : Int) (w : World) (hl : ISl w a l) :
    Calls Try.prog 45 #[.slice a l.length c, .int .i64 x] w fun e w' => e = .returned (.bool (hasB l x)) ∧ w = w' := by
  obtain ⟨hl0, hl1⟩ := hl
  go_enter Try.func45, Try.ntmps45
  go_wp2
  go_loop [5] (fun i => ∃ j : Nat, j ≤ l.length ∧ i = .int .i64 j ∧ Hid (hasB (l.take j) x = false)) (fun i => l.length - (intOf i).toNat)
  case atStart => exact ⟨0, Nat.zero_le _, rfl, rfl⟩
  case round =>
    obtain ⟨j, hj, rfl, Hn⟩ := hrel
    by_cases hjt : j < l.length
    · obtain ⟨bb', off', rfl, hc'⟩ := hl1 j hjt
      have hs := hasB_snoc hjt Hn.out
      have hy := hasB_yes (x := x) hjt
      generalize l.getD j 0 = y at hc' hs hy
      have HS := Lib.hid hs
      have HY := Lib.hid hy
      clear hs hy
      rcases hit_cases' x y with ⟨e1, hh⟩ | ⟨e1, e2, hh⟩ | ⟨e1, e2, e3, hh⟩ | ⟨e1, e2, e3, e4, hh⟩ | ⟨e1, e2, e3, e4, hh⟩
      all_goals have HH := Lib.hid hh
      all_goals clear hh
      all_goals go_wp2
      all_goals first
        | (go_ret; exact ⟨ret_b (HY.out HH.out).symm, rfl⟩)
        | (go_round
           case rel => exact ⟨j + 1, by omega, by go_num, by rw [Hid, HS.out, HH.out]⟩
           case measure => simp [intOf]; omega)
    · have hn := Hn.out
      rw [List.take_of_length_le (by omega)] at hn
      have HN := Lib.hid hn
      clear hn
      go_wp2
      go_ret
      exact ⟨ret_b HN.out.symm, rfl⟩

theorem andR_eq (l : List Int) : andF l = if hasB l 0 then 0 else if hasB l 2 then 2 else 1 := rfl
theorem orR_eq (l : List Int) : orF l = if hasB l 1 then 1 else if hasB l 2 then 2 else 0 := rfl
theorem leaR_eq (l : List Int) : leaF l = if hasB l 0 then 0 else if hasB l 2 || l.isEmpty then 2 else 1 := by
  unfold leaF leastF
  split
  · rfl
  · rename_i h0
    unfold leastF
    by_cases h2 : hasB l 2 = true
    · simp [h2]
    · unfold leastF leastF
      cases l with
      | nil => rfl
      | cons y t =>
        simp [h2]
        simp [hasB, hit] at *
        omega

theorem andR_any (a : Option Addr) (c : Nat) (l : List Int) (w : World) (hl : ISl w a l) :
    Calls Try.prog 17 #[.slice a l.length c] w fun e w' => e = .returned (.int .i64 (andF l)) ∧ w = w' := by
  have H := Lib.hid (andR_eq l)
  cases h0 : hasB l 0 <;> cases h2 : hasB l 2
  all_goals
    have H0 := Lib.hid h0
    have H2 := Lib.hid h2
    go_enter Try.func17, Try.ntmps17
    go_wp2_with (go_at_call 45; ((with_reducible refine (has_any _ _ _ _ _ hl).mono ?_); rintro e w' ⟨rfl, rfl⟩))
    go_ret
    exact ⟨ret_i (by rw [H.out, H0.out]; first | rfl | (rw [H2.out]; rfl)), rfl⟩

theorem orR_any (a : Option Addr) (c : Nat) (l : List Int) (w : World) (hl : ISl w a l) :
    Calls Try.prog 19 #[.slice a l.length c] w fun e w' => e = .returned (.int .i64 (orF l)) ∧ w = w' := by
  have H := Lib.hid (orR_eq l)
  cases h0 : hasB l 1 <;> cases h2 : hasB l 2
  all_goals
    have H0 := Lib.hid h0
    have H2 := Lib.hid h2
    go_enter Try.func19, Try.ntmps19
    go_wp2_with (go_at_call 45; ((with_reducible refine (has_any _ _ _ _ _ hl).mono ?_); rintro e w' ⟨rfl, rfl⟩))
    go_ret
    exact ⟨ret_i (by rw [H.out, H0.out]; first | rfl | (rw [H2.out]; rfl)), rfl⟩

theorem leaR_any (a : Option Addr) (c : Nat) (l : List Int) (w : World) (hl : ISl w a l) :
    Calls Try.prog 21 #[.slice a l.length c] w fun e w' => e = .returned (.int .i64 (leaF l)) ∧ w = w' := by
  have H := Lib.hid (leaR_eq l)
  cases h0 : hasB l 0 <;> cases h2 : hasB l 2 <;> cases h3 : l.isEmpty
  all_goals
    have H0 := Lib.hid h0
    have H2 := Lib.hid h2
    have H3 := Lib.hid h3
    have e3 : ((l.length : Int) == 0) = l.isEmpty := by cases l <;> simp <;> omega
    rw [h3] at e3
    clear h3
    go_enter Try.func21, Try.ntmps21
    go_wp2_with (go_at_call 45; ((with_reducible refine (has_any _ _ _ _ _ hl).mono ?_); rintro e w' ⟨rfl, rfl⟩))
    go_ret
    exact ⟨ret_i (by rw [H.out, H0.out]; first | rfl | (rw [H2.out]; first | rfl | (rw [H3.out]; rfl))), rfl⟩

end Go.Proofs.Ytecfcamlnfmebaa
