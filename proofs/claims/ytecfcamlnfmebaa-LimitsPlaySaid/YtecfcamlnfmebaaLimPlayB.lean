/- LimitsPlay, the other ways. -/
import Derived.Test.YtecfcamlnfmebaaLimPlay
namespace Go.Proofs.Ytecfcamlnfmebaa
open Go.RowKit Go.Bo

set_option maxRecDepth 100000 in
theorem play_long (each most : Int) (a : Option Addr) (n c : Nat) (w : World) (h40 : 40 < n) (hn : n ≤ 9223372036854775807) :
    Calls Try.prog 5 #[.int .i64 each, .int .i64 most, .slice a n c] w fun e w' => e = .returned (.bool true) ∧ Ext w w' := by
  have d0 : decide ((40 : Int) < (n : Int)) = true := by simp; omega
  go_enter Try.func5, Try.ntmps5
  go_wp2_with fail
  refine (awake49_any _).mono ?_; rintro e w1 ⟨rfl, E1⟩
  go_wp2_with fail
  go_ret
  exact ⟨rfl, E1⟩

set_option maxRecDepth 100000 in
theorem play_no (each most : Int) (a : Option Addr) (n c : Nat) (w : World) (h40 : n ≤ 40) (h : ¬ (1 ≤ each ∧ each ≤ 1048576 ∧ 1 ≤ most ∧ most ≤ 1073741824)) :
    Calls Try.prog 5 #[.int .i64 each, .int .i64 most, .slice a n c] w fun e w' => e = .returned (.bool true) ∧ Ext w w' := by
  have d0 : decide ((40 : Int) < (n : Int)) = false := by simp; omega
  have hc : decide (each < 1) = true ∨ (decide (each < 1) = false ∧ decide (1048576 < each) = true) ∨ (decide (each < 1) = false ∧ decide (1048576 < each) = false ∧ decide (most < 1) = true) ∨
      (decide (each < 1) = false ∧ decide (1048576 < each) = false ∧ decide (most < 1) = false ∧ decide (1073741824 < most) = true) := by
    simp only [decide_eq_true_eq, decide_eq_false_iff_not]; omega
  have hnew := fun w => new_no each most w h
  have HNEW := Lib.hid hnew
  clear hnew h
  rcases hc with h1 | ⟨h1, h2⟩ | ⟨h1, h2, h3⟩ | ⟨h1, h2, h3, h4⟩
  all_goals
    go_enter Try.func5, Try.ntmps5
    go_wp2_with fail
    refine (HNEW.out _).mono ?_; rintro e w1 ⟨rfl, rfl⟩
    go_wp2_with fail
    refine (awake49_any _).mono ?_; rintro e w1 ⟨rfl, E1⟩
    go_wp2_with fail
    go_ret
    exact ⟨rfl, E1⟩

theorem play_any (each most : Int) (a : Option Addr) (n c : Nat) (l : List (ByteArray × (Int × (Int × Unit)))) (w : World) (hl : Sl eDeed w (fun _ => True) a l) (hn : l.length = n) :
    Calls Try.prog 5 #[.int .i64 each, .int .i64 most, .slice a n c] w fun e w' => e = .returned (.bool true) ∧ Ext w w' := by
  by_cases h40 : n ≤ 40
  · by_cases h : 1 ≤ each ∧ each ≤ 1048576 ∧ 1 ≤ most ∧ most ≤ 1073741824
    · exact play_ok each most a n c l w h hl hn h40
    · exact play_no each most a n c w h40 h
  · exact play_long each most a n c w (by omega) (by have := hl.1; omega)

theorem from_deed : From Try.prog 36 eDeed :=
  from_struct Try.underlying36 (by kernel_rfl)
    (.cons rfl (from_str Try.underlying9 (by kernel_rfl)) (.cons rfl (from_int Try.underlying3 (by kernel_rfl)) (.cons rfl (from_int Try.underlying3 (by kernel_rfl)) (.nil _))))

end Go.Proofs.Ytecfcamlnfmebaa
