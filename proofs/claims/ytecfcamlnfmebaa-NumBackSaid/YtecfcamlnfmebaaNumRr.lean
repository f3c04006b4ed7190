/- bothyref02.Read gives the number rdF of a text's bytes, or the errors; truths as bytes, both ways. -/
import Derived.Test.YtecfcamlnfmebaaNumRd
namespace Go.Proofs.Ytecfcamlnfmebaa
open Go.RowKit Go.Bo

def WayR (s : ByteArray) (x0 x1 x2 x3 x4 : Bool) (g : Int) (f : Bool) : Prop := (bt s 0 == 0) = x0 ∧ decide (bt s 1 < 128) = x1 ∧ (bt s 0 == 255) = x2 ∧ decide (128 ≤ bt s 1) = x3 ∧ decide (128 ≤ bt s 0) = x4 ∧ sgB s 0 = g ∧ formB s = f
theorem readR_cases (s : ByteArray) : WayR s true true false false false 0 true ∨ WayR s true false false true false 0 false ∨ WayR s false true true false true (-1) false ∨ WayR s false false true true true (-1) true ∨
    WayR s false true false false false 0 false ∨ WayR s false true false false true (-1) false ∨ WayR s false false false true false 0 false ∨ WayR s false false false true true (-1) false := by
  have h0 := bt_bd s 0
  have h1 := bt_bd s 1
  unfold WayR sgB formB
  generalize bt s 0 = x at *
  generalize bt s 1 = y at *
  by_cases c : y < 128 <;> by_cases a : x = 0 <;> by_cases b : x = 255 <;> by_cases d : 128 ≤ x
  all_goals first
    | (exfalso; omega)
    | (have c' : decide (128 ≤ y) = true := by simp; omega
       have d' : ¬ x < 128 := by omega
       simp [a, b, c, c', d, d']; done)
    | (have c' : decide (128 ≤ y) = true := by simp; omega
       have d' : x < 128 := by omega
       simp [a, b, c, c', d, d']; done)
    | (have c' : decide (128 ≤ y) = false := by simp; omega
       have d' : ¬ x < 128 := by omega
       simp [a, b, c, c', d, d']; done)
    | (have c' : decide (128 ≤ y) = false := by simp; omega
       have d' : x < 128 := by omega
       simp [a, b, c, c', d, d']; done)
    | skip

set_option maxRecDepth 100000 in
set_option maxHeartbeats 4000000 in
theorem readR_any (s : ByteArray) (w : World) (h' : s.size ≤ 9223372036854775807) :
    Calls Try.prog 31 #[.string s] w fun e w' => e = .returned (.tuple #[.int .i64 (rdF s), .int .i64 (rdE s)]) ∧ w = w' := by
  by_cases hz : s.size = 0
  · obtain rfl := empty0 hz
    go_enter Try.func31, Try.ntmps31
    go_wp2_with fail
    go_ret2
    exact ⟨rfl, rfl⟩
  have he := emptyB hz
  by_cases h1 : (1 : Int) < (s.size : Int)
  · by_cases h4 : (4 : Int) < (s.size : Int)
    · rcases readR_cases s with ⟨x0, x1, x2, x3, x4, g0, hf⟩ | ⟨x0, x1, x2, x3, x4, g0, hf⟩ | ⟨x0, x1, x2, x3, x4, g0, hf⟩ | ⟨x0, x1, x2, x3, x4, g0, hf⟩ | ⟨x0, x1, x2, x3, x4, g0, hf⟩ | ⟨x0, x1, x2, x3, x4, g0, hf⟩ | ⟨x0, x1, x2, x3, x4, g0, hf⟩ | ⟨x0, x1, x2, x3, x4, g0, hf⟩
      all_goals
        have he1 := rdE_long h1 h4 hf
        have hf1 := rdF_no he1 (by decide)
        rw [he1, hf1]
        clear g0 hf he1 hf1
        go_enter Try.func31, Try.ntmps31
        go_wp2_with ((first | (with_reducible refine wp_index_str 0 9 _ _ rfl rfl Try.underlying9 _ _ rfl rfl ?_ ?_) | (with_reducible refine wp_index_str 1 9 _ _ rfl rfl Try.underlying9 _ _ rfl rfl ?_ ?_)); focus omega)
        go_ret2
        exact ⟨rfl, rfl⟩
    · rcases readR_cases s with ⟨x0, x1, x2, x3, x4, g0, hf⟩ | ⟨x0, x1, x2, x3, x4, g0, hf⟩ | ⟨x0, x1, x2, x3, x4, g0, hf⟩ | ⟨x0, x1, x2, x3, x4, g0, hf⟩ | ⟨x0, x1, x2, x3, x4, g0, hf⟩ | ⟨x0, x1, x2, x3, x4, g0, hf⟩ | ⟨x0, x1, x2, x3, x4, g0, hf⟩ | ⟨x0, x1, x2, x3, x4, g0, hf⟩
      all_goals
        have he1 := rdE_mid h1 (by omega) hf
        have G0 := Lib.hid g0
        clear g0 hf
      all_goals first
      | (have hf1 := rdF_no he1 (by decide)
         rw [he1, hf1]
         clear he1 hf1
         go_enter Try.func31, Try.ntmps31
         go_wp2_with ((first | (with_reducible refine wp_index_str 0 9 _ _ rfl rfl Try.underlying9 _ _ rfl rfl ?_ ?_) | (with_reducible refine wp_index_str 1 9 _ _ rfl rfl Try.underlying9 _ _ rfl rfl ?_ ?_)); focus omega)
         go_ret2
         exact ⟨rfl, rfl⟩)
      | (have hf1 := rdF_yes he1
         rw [he1, hf1]
         clear he1 hf1
         go_enter Try.func31, Try.ntmps31
         go_wp2_with ((first | (with_reducible refine wp_index_str 0 9 _ _ rfl rfl Try.underlying9 _ _ rfl rfl ?_ ?_) | (with_reducible refine wp_index_str 1 9 _ _ rfl rfl Try.underlying9 _ _ rfl rfl ?_ ?_)); focus omega)
         go_loop [4, 5] (fun n i => ∃ k : Nat, k ≤ s.size ∧ i = .int .i64 k ∧ n = .int .i64 (rdN s k)) (fun _ i => s.size - (intOf i).toNat)
         case atStart => exact ⟨0, by omega, rfl, by rw [rdN, sg0, G0.out]⟩
         case round =>
         obtain ⟨k, hk, rfl, rfl⟩ := hrel
         by_cases hlt : k < s.size
         · obtain ⟨c1, c2⟩ := rdN_bd' s k (by omega)
           have c3 := bt_bd s k
           have bk := w64b s k
           go_wp2_with (((with_reducible refine wp_index_str _ 9 _ _ rfl rfl Try.underlying9 _ _ rfl rfl ?_ ?_)); focus omega)
           go_round
           case rel => exact ⟨k + 1, by omega, by go_num, rfl⟩
           case measure => simp [intOf]; omega
         · obtain rfl : k = s.size := by omega
           go_wp2_with fail
           go_ret2
           exact ⟨rfl, rfl⟩)
  · have hs1 : s.size = 1 := by omega
    have he1 := rdE_one hs1
    have hf1 := rdF_yes he1
    rw [he1, hf1]
    clear he1 hf1 hs1
    rcases readR_cases s with ⟨x0, x1, x2, x3, x4, g0, hf⟩ | ⟨x0, x1, x2, x3, x4, g0, hf⟩ | ⟨x0, x1, x2, x3, x4, g0, hf⟩ | ⟨x0, x1, x2, x3, x4, g0, hf⟩ | ⟨x0, x1, x2, x3, x4, g0, hf⟩ | ⟨x0, x1, x2, x3, x4, g0, hf⟩ | ⟨x0, x1, x2, x3, x4, g0, hf⟩ | ⟨x0, x1, x2, x3, x4, g0, hf⟩
    all_goals
        have G0 := Lib.hid g0
        clear g0 hf
        go_enter Try.func31, Try.ntmps31
        go_wp2_with ((first | (with_reducible refine wp_index_str 0 9 _ _ rfl rfl Try.underlying9 _ _ rfl rfl ?_ ?_) | (with_reducible refine wp_index_str 1 9 _ _ rfl rfl Try.underlying9 _ _ rfl rfl ?_ ?_)); focus omega)
        go_loop [4, 5] (fun n i => ∃ k : Nat, k ≤ s.size ∧ i = .int .i64 k ∧ n = .int .i64 (rdN s k)) (fun _ i => s.size - (intOf i).toNat)
        case atStart => exact ⟨0, by omega, rfl, by rw [rdN, sg0, G0.out]⟩
        case round =>
        obtain ⟨k, hk, rfl, rfl⟩ := hrel
        by_cases hlt : k < s.size
        · obtain ⟨c1, c2⟩ := rdN_bd' s k (by omega)
          have c3 := bt_bd s k
          have bk := w64b s k
          go_wp2_with (((with_reducible refine wp_index_str _ 9 _ _ rfl rfl Try.underlying9 _ _ rfl rfl ?_ ?_)); focus omega)
          go_round
          case rel => exact ⟨k + 1, by omega, by go_num, rfl⟩
          case measure => simp [intOf]; omega
        · obtain rfl : k = s.size := by omega
          go_wp2_with fail
          go_ret2
          exact ⟨rfl, rfl⟩

def boolB (b : Bool) : ByteArray := if b then ⟨#[255]⟩ else ⟨#[0]⟩

theorem bool_any (b : Bool) (w : World) : Calls Try.prog 34 #[.bool b] w fun e w' => e = .returned (.string (boolB b)) ∧ w = w' := by
  cases b
  all_goals
    go_enter Try.func34, Try.ntmps34
    go_wp2_with fail
    go_ret
    exact ⟨rfl, rfl⟩
theorem boolR_any (b : Bool) (w : World) : Calls Try.prog 35 #[.bool b] w fun e w' => e = .returned (.string (boolB b)) ∧ w = w' := by
  cases b
  all_goals
    go_enter Try.func35, Try.ntmps35
    go_wp2_with fail
    go_ret
    exact ⟨rfl, rfl⟩

def rbF (s : ByteArray) : Bool := s.toList == [255]
def rbE (s : ByteArray) : Int := if s.toList.isEmpty then 4 else if s.toList == [255] then 0 else if s.toList == [0] then 0 else 5
def WayT (s : ByteArray) (x y z : Bool) : Prop := s.toList.isEmpty = x ∧ (s.toList == [255]) = y ∧ (s.toList == [0]) = z
theorem rb_cases (s : ByteArray) : WayT s true false false ∨ WayT s false true false ∨ WayT s false false true ∨ WayT s false false false := by
  unfold WayT
  cases s.toList with
  | nil => simp
  | cons a l =>
    cases l with
    | cons => simp
    | nil =>
      by_cases h1 : a = 255
      · subst h1; simp
      · by_cases h0 : a = 0
        · subst h0; simp
        · simp [h1, h0]
theorem ret_bi {b b' : Bool} {x x' : Int} (h : b = b') (h2 : x = x') : Ending.returned (.tuple #[.bool b, .int .i64 x]) = .returned (.tuple #[.bool b', .int .i64 x']) := by rw [h, h2]

theorem readBool_any (s : ByteArray) (w : World) : Calls Try.prog 32 #[.string s] w fun e w' => e = .returned (.tuple #[.bool (rbF s), .int .i64 (rbE s)]) ∧ w = w' := by
  rcases rb_cases s with ⟨h1, h2, h3⟩ | ⟨h1, h2, h3⟩ | ⟨h1, h2, h3⟩ | ⟨h1, h2, h3⟩
  all_goals
    go_enter Try.func32, Try.ntmps32
    go_wp2_with fail
    go_ret2
    exact ⟨ret_bi (by unfold rbF; first | rfl | exact h2.symm) (by unfold rbE; grind), rfl⟩

theorem readBoolR_any (s : ByteArray) (w : World) : Calls Try.prog 33 #[.string s] w fun e w' => e = .returned (.tuple #[.bool (rbF s), .int .i64 (rbE s)]) ∧ w = w' := by
  rcases rb_cases s with ⟨h1, h2, h3⟩ | ⟨h1, h2, h3⟩ | ⟨h1, h2, h3⟩ | ⟨h1, h2, h3⟩
  all_goals
    go_enter Try.func33, Try.ntmps33
    go_wp2_with fail
    go_ret2
    exact ⟨ret_bi (by unfold rbF; first | rfl | exact h2.symm) (by unfold rbE; grind), rfl⟩

end Go.Proofs.Ytecfcamlnfmebaa
