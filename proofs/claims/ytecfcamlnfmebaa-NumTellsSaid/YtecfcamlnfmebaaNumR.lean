/- bothyref02.Put gives the bytes putB, or ErrRange. -/
import Derived.Test.YtecfcamlnfmebaaNum
namespace Go.Proofs.Ytecfcamlnfmebaa
open Go.RowKit Go.Bo

/-- 2, so often doubled: what the reference's inner loop reckons. -/
def pw (k : Nat) : Int := 2 ^ (k - 1)
theorem pw_succ (k : Nat) (h : 1 ≤ k) : pw (k + 1) = pw k * 2 := by
  obtain ⟨j, rfl⟩ : ∃ j, k = j + 1 := ⟨k - 1, by omega⟩
  simp [pw, Int.pow_succ]
theorem pw_bd (k : Nat) (h : k ≤ 24) : 1 ≤ pw k ∧ pw k ≤ 8388608 := by
  unfold pw
  have h2 : (2 : Int) ^ (k - 1) = ((2 ^ (k - 1) : Nat) : Int) := by simp
  have h3 : 2 ^ (k - 1) ≤ 2 ^ 23 := Nat.pow_le_pow_right (by omega) (by omega)
  have h4 : 0 < 2 ^ (k - 1) := Nat.pow_pos (by omega)
  rw [h2]; omega
theorem pw8 : pw 8 = 128 := by decide
theorem pw16 : pw 16 = 32768 := by decide
theorem pw24 : pw 24 = 8388608 := by decide

set_option maxRecDepth 100000 in
set_option maxHeartbeats 2000000 in
theorem putR_1n (n : Int) (w : World) (h0 : -128 ≤ n) (h1 : n ≤ -1) :
    Calls Try.prog 29 #[.int .i64 n] w fun e w' => e = .returned (.tuple #[.string (bytesOf (manyB n 1)), .int .i64 0]) ∧ Ext w w' := by
    go_enter Try.func29, Try.ntmps29
    go_wp2_with fail
    refine wp_loop_rounds 1 ?_
    rw [rounds_succ]
    go_wp2_with fail
    go_loop [5, 6] (fun h i => ∃ k : Nat, 1 ≤ k ∧ k ≤ 8 ∧ i = .int .i64 k ∧ h = .int .i64 (pw k)) (fun _ i => 8 - (intOf i).toNat)
    case atStart => exact ⟨1, by omega, by omega, rfl, rfl⟩
    case round =>
    obtain ⟨k, hk1, hk2, rfl, rfl⟩ := hrel
    by_cases hk : k < 8
    · have hs := pw_succ k hk1
      have HS := Lib.hid hs
      clear hs
      obtain ⟨p1, p2⟩ := pw_bd k (by omega)
      go_wp2_with fail
      go_round
      case rel => exact ⟨k + 1, by omega, by omega, by go_num, by rw [HS.out]⟩
      case measure => simp [intOf]; omega
    obtain rfl : k = 8 := by omega
    have hpw := pw8
    clear hk hk1 hk2
    go_wp2_with fail
    clear hpw
    refine (bytesR_any n 1 _ (by decide) (by decide)).mono ?_; rintro e w1 ⟨rfl, E⟩
    go_wp2_with fail
    go_ret2
    exact ⟨rfl, E⟩

set_option maxRecDepth 100000 in
set_option maxHeartbeats 2000000 in
theorem putR_1p (n : Int) (w : World) (h0 : 0 ≤ n) (h1 : n ≤ 127) :
    Calls Try.prog 29 #[.int .i64 n] w fun e w' => e = .returned (.tuple #[.string (bytesOf (manyB n 1)), .int .i64 0]) ∧ Ext w w' := by
    go_enter Try.func29, Try.ntmps29
    go_wp2_with fail
    refine wp_loop_rounds 1 ?_
    rw [rounds_succ]
    go_wp2_with fail
    go_loop [5, 6] (fun h i => ∃ k : Nat, 1 ≤ k ∧ k ≤ 8 ∧ i = .int .i64 k ∧ h = .int .i64 (pw k)) (fun _ i => 8 - (intOf i).toNat)
    case atStart => exact ⟨1, by omega, by omega, rfl, rfl⟩
    case round =>
    obtain ⟨k, hk1, hk2, rfl, rfl⟩ := hrel
    by_cases hk : k < 8
    · have hs := pw_succ k hk1
      have HS := Lib.hid hs
      clear hs
      obtain ⟨p1, p2⟩ := pw_bd k (by omega)
      go_wp2_with fail
      go_round
      case rel => exact ⟨k + 1, by omega, by omega, by go_num, by rw [HS.out]⟩
      case measure => simp [intOf]; omega
    obtain rfl : k = 8 := by omega
    have hpw := pw8
    clear hk hk1 hk2
    go_wp2_with fail
    clear hpw
    refine (bytesR_any n 1 _ (by decide) (by decide)).mono ?_; rintro e w1 ⟨rfl, E⟩
    go_wp2_with fail
    go_ret2
    exact ⟨rfl, E⟩

set_option maxRecDepth 100000 in
set_option maxHeartbeats 2000000 in
theorem putR_2n (n : Int) (w : World) (h0 : -32768 ≤ n) (h1 : n ≤ -129) :
    Calls Try.prog 29 #[.int .i64 n] w fun e w' => e = .returned (.tuple #[.string (bytesOf (manyB n 2)), .int .i64 0]) ∧ Ext w w' := by
    go_enter Try.func29, Try.ntmps29
    go_wp2_with fail
    refine wp_loop_rounds 2 ?_
    rw [rounds_succ]
    go_wp2_with fail
    go_loop [5, 6] (fun h i => ∃ k : Nat, 1 ≤ k ∧ k ≤ 8 ∧ i = .int .i64 k ∧ h = .int .i64 (pw k)) (fun _ i => 8 - (intOf i).toNat)
    case atStart => exact ⟨1, by omega, by omega, rfl, rfl⟩
    case round =>
    obtain ⟨k, hk1, hk2, rfl, rfl⟩ := hrel
    by_cases hk : k < 8
    · have hs := pw_succ k hk1
      have HS := Lib.hid hs
      clear hs
      obtain ⟨p1, p2⟩ := pw_bd k (by omega)
      go_wp2_with fail
      go_round
      case rel => exact ⟨k + 1, by omega, by omega, by go_num, by rw [HS.out]⟩
      case measure => simp [intOf]; omega
    obtain rfl : k = 8 := by omega
    have hpw := pw8
    clear hk hk1 hk2
    go_wp2_with fail
    clear hpw
    rw [rounds_succ]
    go_wp2_with fail
    go_loop [5, 6] (fun h i => ∃ k : Nat, 1 ≤ k ∧ k ≤ 16 ∧ i = .int .i64 k ∧ h = .int .i64 (pw k)) (fun _ i => 16 - (intOf i).toNat)
    case atStart => exact ⟨1, by omega, by omega, rfl, rfl⟩
    case round =>
    obtain ⟨k, hk1, hk2, rfl, rfl⟩ := hrel
    by_cases hk : k < 16
    · have hs := pw_succ k hk1
      have HS := Lib.hid hs
      clear hs
      obtain ⟨p1, p2⟩ := pw_bd k (by omega)
      go_wp2_with fail
      go_round
      case rel => exact ⟨k + 1, by omega, by omega, by go_num, by rw [HS.out]⟩
      case measure => simp [intOf]; omega
    obtain rfl : k = 16 := by omega
    have hpw := pw16
    clear hk hk1 hk2
    go_wp2_with fail
    clear hpw
    refine (bytesR_any n 2 _ (by decide) (by decide)).mono ?_; rintro e w1 ⟨rfl, E⟩
    go_wp2_with fail
    go_ret2
    exact ⟨rfl, E⟩

set_option maxRecDepth 100000 in
set_option maxHeartbeats 2000000 in
theorem putR_2p (n : Int) (w : World) (h0 : 128 ≤ n) (h1 : n ≤ 32767) :
    Calls Try.prog 29 #[.int .i64 n] w fun e w' => e = .returned (.tuple #[.string (bytesOf (manyB n 2)), .int .i64 0]) ∧ Ext w w' := by
    go_enter Try.func29, Try.ntmps29
    go_wp2_with fail
    refine wp_loop_rounds 2 ?_
    rw [rounds_succ]
    go_wp2_with fail
    go_loop [5, 6] (fun h i => ∃ k : Nat, 1 ≤ k ∧ k ≤ 8 ∧ i = .int .i64 k ∧ h = .int .i64 (pw k)) (fun _ i => 8 - (intOf i).toNat)
    case atStart => exact ⟨1, by omega, by omega, rfl, rfl⟩
    case round =>
    obtain ⟨k, hk1, hk2, rfl, rfl⟩ := hrel
    by_cases hk : k < 8
    · have hs := pw_succ k hk1
      have HS := Lib.hid hs
      clear hs
      obtain ⟨p1, p2⟩ := pw_bd k (by omega)
      go_wp2_with fail
      go_round
      case rel => exact ⟨k + 1, by omega, by omega, by go_num, by rw [HS.out]⟩
      case measure => simp [intOf]; omega
    obtain rfl : k = 8 := by omega
    have hpw := pw8
    clear hk hk1 hk2
    go_wp2_with fail
    clear hpw
    rw [rounds_succ]
    go_wp2_with fail
    go_loop [5, 6] (fun h i => ∃ k : Nat, 1 ≤ k ∧ k ≤ 16 ∧ i = .int .i64 k ∧ h = .int .i64 (pw k)) (fun _ i => 16 - (intOf i).toNat)
    case atStart => exact ⟨1, by omega, by omega, rfl, rfl⟩
    case round =>
    obtain ⟨k, hk1, hk2, rfl, rfl⟩ := hrel
    by_cases hk : k < 16
    · have hs := pw_succ k hk1
      have HS := Lib.hid hs
      clear hs
      obtain ⟨p1, p2⟩ := pw_bd k (by omega)
      go_wp2_with fail
      go_round
      case rel => exact ⟨k + 1, by omega, by omega, by go_num, by rw [HS.out]⟩
      case measure => simp [intOf]; omega
    obtain rfl : k = 16 := by omega
    have hpw := pw16
    clear hk hk1 hk2
    go_wp2_with fail
    clear hpw
    refine (bytesR_any n 2 _ (by decide) (by decide)).mono ?_; rintro e w1 ⟨rfl, E⟩
    go_wp2_with fail
    go_ret2
    exact ⟨rfl, E⟩

set_option maxRecDepth 100000 in
set_option maxHeartbeats 2000000 in
theorem putR_3n (n : Int) (w : World) (h0 : -8388608 ≤ n) (h1 : n ≤ -32769) :
    Calls Try.prog 29 #[.int .i64 n] w fun e w' => e = .returned (.tuple #[.string (bytesOf (manyB n 3)), .int .i64 0]) ∧ Ext w w' := by
    go_enter Try.func29, Try.ntmps29
    go_wp2_with fail
    refine wp_loop_rounds 3 ?_
    rw [rounds_succ]
    go_wp2_with fail
    go_loop [5, 6] (fun h i => ∃ k : Nat, 1 ≤ k ∧ k ≤ 8 ∧ i = .int .i64 k ∧ h = .int .i64 (pw k)) (fun _ i => 8 - (intOf i).toNat)
    case atStart => exact ⟨1, by omega, by omega, rfl, rfl⟩
    case round =>
    obtain ⟨k, hk1, hk2, rfl, rfl⟩ := hrel
    by_cases hk : k < 8
    · have hs := pw_succ k hk1
      have HS := Lib.hid hs
      clear hs
      obtain ⟨p1, p2⟩ := pw_bd k (by omega)
      go_wp2_with fail
      go_round
      case rel => exact ⟨k + 1, by omega, by omega, by go_num, by rw [HS.out]⟩
      case measure => simp [intOf]; omega
    obtain rfl : k = 8 := by omega
    have hpw := pw8
    clear hk hk1 hk2
    go_wp2_with fail
    clear hpw
    rw [rounds_succ]
    go_wp2_with fail
    go_loop [5, 6] (fun h i => ∃ k : Nat, 1 ≤ k ∧ k ≤ 16 ∧ i = .int .i64 k ∧ h = .int .i64 (pw k)) (fun _ i => 16 - (intOf i).toNat)
    case atStart => exact ⟨1, by omega, by omega, rfl, rfl⟩
    case round =>
    obtain ⟨k, hk1, hk2, rfl, rfl⟩ := hrel
    by_cases hk : k < 16
    · have hs := pw_succ k hk1
      have HS := Lib.hid hs
      clear hs
      obtain ⟨p1, p2⟩ := pw_bd k (by omega)
      go_wp2_with fail
      go_round
      case rel => exact ⟨k + 1, by omega, by omega, by go_num, by rw [HS.out]⟩
      case measure => simp [intOf]; omega
    obtain rfl : k = 16 := by omega
    have hpw := pw16
    clear hk hk1 hk2
    go_wp2_with fail
    clear hpw
    rw [rounds_succ]
    go_wp2_with fail
    go_loop [5, 6] (fun h i => ∃ k : Nat, 1 ≤ k ∧ k ≤ 24 ∧ i = .int .i64 k ∧ h = .int .i64 (pw k)) (fun _ i => 24 - (intOf i).toNat)
    case atStart => exact ⟨1, by omega, by omega, rfl, rfl⟩
    case round =>
    obtain ⟨k, hk1, hk2, rfl, rfl⟩ := hrel
    by_cases hk : k < 24
    · have hs := pw_succ k hk1
      have HS := Lib.hid hs
      clear hs
      obtain ⟨p1, p2⟩ := pw_bd k (by omega)
      go_wp2_with fail
      go_round
      case rel => exact ⟨k + 1, by omega, by omega, by go_num, by rw [HS.out]⟩
      case measure => simp [intOf]; omega
    obtain rfl : k = 24 := by omega
    have hpw := pw24
    clear hk hk1 hk2
    go_wp2_with fail
    clear hpw
    refine (bytesR_any n 3 _ (by decide) (by decide)).mono ?_; rintro e w1 ⟨rfl, E⟩
    go_wp2_with fail
    go_ret2
    exact ⟨rfl, E⟩

set_option maxRecDepth 100000 in
set_option maxHeartbeats 2000000 in
theorem putR_3p (n : Int) (w : World) (h0 : 32768 ≤ n) (h1 : n ≤ 8388607) :
    Calls Try.prog 29 #[.int .i64 n] w fun e w' => e = .returned (.tuple #[.string (bytesOf (manyB n 3)), .int .i64 0]) ∧ Ext w w' := by
    go_enter Try.func29, Try.ntmps29
    go_wp2_with fail
    refine wp_loop_rounds 3 ?_
    rw [rounds_succ]
    go_wp2_with fail
    go_loop [5, 6] (fun h i => ∃ k : Nat, 1 ≤ k ∧ k ≤ 8 ∧ i = .int .i64 k ∧ h = .int .i64 (pw k)) (fun _ i => 8 - (intOf i).toNat)
    case atStart => exact ⟨1, by omega, by omega, rfl, rfl⟩
    case round =>
    obtain ⟨k, hk1, hk2, rfl, rfl⟩ := hrel
    by_cases hk : k < 8
    · have hs := pw_succ k hk1
      have HS := Lib.hid hs
      clear hs
      obtain ⟨p1, p2⟩ := pw_bd k (by omega)
      go_wp2_with fail
      go_round
      case rel => exact ⟨k + 1, by omega, by omega, by go_num, by rw [HS.out]⟩
      case measure => simp [intOf]; omega
    obtain rfl : k = 8 := by omega
    have hpw := pw8
    clear hk hk1 hk2
    go_wp2_with fail
    clear hpw
    rw [rounds_succ]
    go_wp2_with fail
    go_loop [5, 6] (fun h i => ∃ k : Nat, 1 ≤ k ∧ k ≤ 16 ∧ i = .int .i64 k ∧ h = .int .i64 (pw k)) (fun _ i => 16 - (intOf i).toNat)
    case atStart => exact ⟨1, by omega, by omega, rfl, rfl⟩
    case round =>
    obtain ⟨k, hk1, hk2, rfl, rfl⟩ := hrel
    by_cases hk : k < 16
    · have hs := pw_succ k hk1
      have HS := Lib.hid hs
      clear hs
      obtain ⟨p1, p2⟩ := pw_bd k (by omega)
      go_wp2_with fail
      go_round
      case rel => exact ⟨k + 1, by omega, by omega, by go_num, by rw [HS.out]⟩
      case measure => simp [intOf]; omega
    obtain rfl : k = 16 := by omega
    have hpw := pw16
    clear hk hk1 hk2
    go_wp2_with fail
    clear hpw
    rw [rounds_succ]
    go_wp2_with fail
    go_loop [5, 6] (fun h i => ∃ k : Nat, 1 ≤ k ∧ k ≤ 24 ∧ i = .int .i64 k ∧ h = .int .i64 (pw k)) (fun _ i => 24 - (intOf i).toNat)
    case atStart => exact ⟨1, by omega, by omega, rfl, rfl⟩
    case round =>
    obtain ⟨k, hk1, hk2, rfl, rfl⟩ := hrel
    by_cases hk : k < 24
    · have hs := pw_succ k hk1
      have HS := Lib.hid hs
      clear hs
      obtain ⟨p1, p2⟩ := pw_bd k (by omega)
      go_wp2_with fail
      go_round
      case rel => exact ⟨k + 1, by omega, by omega, by go_num, by rw [HS.out]⟩
      case measure => simp [intOf]; omega
    obtain rfl : k = 24 := by omega
    have hpw := pw24
    clear hk hk1 hk2
    go_wp2_with fail
    clear hpw
    refine (bytesR_any n 3 _ (by decide) (by decide)).mono ?_; rintro e w1 ⟨rfl, E⟩
    go_wp2_with fail
    go_ret2
    exact ⟨rfl, E⟩

set_option maxRecDepth 100000 in
set_option maxHeartbeats 2000000 in
theorem putR_4n (n : Int) (w : World) (h0 : -2147483648 ≤ n) (h1 : n ≤ -8388609) :
    Calls Try.prog 29 #[.int .i64 n] w fun e w' => e = .returned (.tuple #[.string (bytesOf (manyB n 4)), .int .i64 0]) ∧ Ext w w' := by
    go_enter Try.func29, Try.ntmps29
    go_wp2_with fail
    refine wp_loop_rounds 4 ?_
    rw [rounds_succ]
    go_wp2_with fail
    go_loop [5, 6] (fun h i => ∃ k : Nat, 1 ≤ k ∧ k ≤ 8 ∧ i = .int .i64 k ∧ h = .int .i64 (pw k)) (fun _ i => 8 - (intOf i).toNat)
    case atStart => exact ⟨1, by omega, by omega, rfl, rfl⟩
    case round =>
    obtain ⟨k, hk1, hk2, rfl, rfl⟩ := hrel
    by_cases hk : k < 8
    · have hs := pw_succ k hk1
      have HS := Lib.hid hs
      clear hs
      obtain ⟨p1, p2⟩ := pw_bd k (by omega)
      go_wp2_with fail
      go_round
      case rel => exact ⟨k + 1, by omega, by omega, by go_num, by rw [HS.out]⟩
      case measure => simp [intOf]; omega
    obtain rfl : k = 8 := by omega
    have hpw := pw8
    clear hk hk1 hk2
    go_wp2_with fail
    clear hpw
    rw [rounds_succ]
    go_wp2_with fail
    go_loop [5, 6] (fun h i => ∃ k : Nat, 1 ≤ k ∧ k ≤ 16 ∧ i = .int .i64 k ∧ h = .int .i64 (pw k)) (fun _ i => 16 - (intOf i).toNat)
    case atStart => exact ⟨1, by omega, by omega, rfl, rfl⟩
    case round =>
    obtain ⟨k, hk1, hk2, rfl, rfl⟩ := hrel
    by_cases hk : k < 16
    · have hs := pw_succ k hk1
      have HS := Lib.hid hs
      clear hs
      obtain ⟨p1, p2⟩ := pw_bd k (by omega)
      go_wp2_with fail
      go_round
      case rel => exact ⟨k + 1, by omega, by omega, by go_num, by rw [HS.out]⟩
      case measure => simp [intOf]; omega
    obtain rfl : k = 16 := by omega
    have hpw := pw16
    clear hk hk1 hk2
    go_wp2_with fail
    clear hpw
    rw [rounds_succ]
    go_wp2_with fail
    go_loop [5, 6] (fun h i => ∃ k : Nat, 1 ≤ k ∧ k ≤ 24 ∧ i = .int .i64 k ∧ h = .int .i64 (pw k)) (fun _ i => 24 - (intOf i).toNat)
    case atStart => exact ⟨1, by omega, by omega, rfl, rfl⟩
    case round =>
    obtain ⟨k, hk1, hk2, rfl, rfl⟩ := hrel
    by_cases hk : k < 24
    · have hs := pw_succ k hk1
      have HS := Lib.hid hs
      clear hs
      obtain ⟨p1, p2⟩ := pw_bd k (by omega)
      go_wp2_with fail
      go_round
      case rel => exact ⟨k + 1, by omega, by omega, by go_num, by rw [HS.out]⟩
      case measure => simp [intOf]; omega
    obtain rfl : k = 24 := by omega
    have hpw := pw24
    clear hk hk1 hk2
    go_wp2_with fail
    clear hpw
    rw [rounds_succ]
    go_wp2_with fail
    refine (bytesR_any n 4 _ (by decide) (by decide)).mono ?_; rintro e w1 ⟨rfl, E⟩
    go_wp2_with fail
    go_ret2
    exact ⟨rfl, E⟩

set_option maxRecDepth 100000 in
set_option maxHeartbeats 2000000 in
theorem putR_4p (n : Int) (w : World) (h0 : 8388608 ≤ n) (h1 : n ≤ 2147483647) :
    Calls Try.prog 29 #[.int .i64 n] w fun e w' => e = .returned (.tuple #[.string (bytesOf (manyB n 4)), .int .i64 0]) ∧ Ext w w' := by
    go_enter Try.func29, Try.ntmps29
    go_wp2_with fail
    refine wp_loop_rounds 4 ?_
    rw [rounds_succ]
    go_wp2_with fail
    go_loop [5, 6] (fun h i => ∃ k : Nat, 1 ≤ k ∧ k ≤ 8 ∧ i = .int .i64 k ∧ h = .int .i64 (pw k)) (fun _ i => 8 - (intOf i).toNat)
    case atStart => exact ⟨1, by omega, by omega, rfl, rfl⟩
    case round =>
    obtain ⟨k, hk1, hk2, rfl, rfl⟩ := hrel
    by_cases hk : k < 8
    · have hs := pw_succ k hk1
      have HS := Lib.hid hs
      clear hs
      obtain ⟨p1, p2⟩ := pw_bd k (by omega)
      go_wp2_with fail
      go_round
      case rel => exact ⟨k + 1, by omega, by omega, by go_num, by rw [HS.out]⟩
      case measure => simp [intOf]; omega
    obtain rfl : k = 8 := by omega
    have hpw := pw8
    clear hk hk1 hk2
    go_wp2_with fail
    clear hpw
    rw [rounds_succ]
    go_wp2_with fail
    go_loop [5, 6] (fun h i => ∃ k : Nat, 1 ≤ k ∧ k ≤ 16 ∧ i = .int .i64 k ∧ h = .int .i64 (pw k)) (fun _ i => 16 - (intOf i).toNat)
    case atStart => exact ⟨1, by omega, by omega, rfl, rfl⟩
    case round =>
    obtain ⟨k, hk1, hk2, rfl, rfl⟩ := hrel
    by_cases hk : k < 16
    · have hs := pw_succ k hk1
      have HS := Lib.hid hs
      clear hs
      obtain ⟨p1, p2⟩ := pw_bd k (by omega)
      go_wp2_with fail
      go_round
      case rel => exact ⟨k + 1, by omega, by omega, by go_num, by rw [HS.out]⟩
      case measure => simp [intOf]; omega
    obtain rfl : k = 16 := by omega
    have hpw := pw16
    clear hk hk1 hk2
    go_wp2_with fail
    clear hpw
    rw [rounds_succ]
    go_wp2_with fail
    go_loop [5, 6] (fun h i => ∃ k : Nat, 1 ≤ k ∧ k ≤ 24 ∧ i = .int .i64 k ∧ h = .int .i64 (pw k)) (fun _ i => 24 - (intOf i).toNat)
    case atStart => exact ⟨1, by omega, by omega, rfl, rfl⟩
    case round =>
    obtain ⟨k, hk1, hk2, rfl, rfl⟩ := hrel
    by_cases hk : k < 24
    · have hs := pw_succ k hk1
      have HS := Lib.hid hs
      clear hs
      obtain ⟨p1, p2⟩ := pw_bd k (by omega)
      go_wp2_with fail
      go_round
      case rel => exact ⟨k + 1, by omega, by omega, by go_num, by rw [HS.out]⟩
      case measure => simp [intOf]; omega
    obtain rfl : k = 24 := by omega
    have hpw := pw24
    clear hk hk1 hk2
    go_wp2_with fail
    clear hpw
    rw [rounds_succ]
    go_wp2_with fail
    refine (bytesR_any n 4 _ (by decide) (by decide)).mono ?_; rintro e w1 ⟨rfl, E⟩
    go_wp2_with fail
    go_ret2
    exact ⟨rfl, E⟩

theorem putR_ok (n : Int) (w : World) (h0 : -2147483648 ≤ n) (h1 : n ≤ 2147483647) :
    Calls Try.prog 29 #[.int .i64 n] w fun e w' => e = .returned (.tuple #[.string (bytesOf (putB n)), .int .i64 0]) ∧ Ext w w' := by
  unfold putB manyF
  by_cases hs : n < 0
  · split
    · exact putR_1n n w (by omega) (by omega)
    · split
      · exact putR_2n n w (by omega) (by omega)
      · split
        · exact putR_3n n w (by omega) (by omega)
        · exact putR_4n n w (by omega) (by omega)
  · split
    · exact putR_1p n w (by omega) (by omega)
    · split
      · exact putR_2p n w (by omega) (by omega)
      · split
        · exact putR_3p n w (by omega) (by omega)
        · exact putR_4p n w (by omega) (by omega)

theorem putR_no (n : Int) (w : World) (h : n < -2147483648 ∨ 2147483647 < n) :
    Calls Try.prog 29 #[.int .i64 n] w fun e w' => e = .returned (.tuple #[.string ByteArray.empty, .int .i64 2]) ∧ Ext w w' := by
  rcases h with h | h
  · go_enter Try.func29, Try.ntmps29
    go_wp2_with fail
    go_ret2
    exact ⟨rfl, Ext.refl _⟩
  · have hd : decide (n < -2147483648) = false := by simp; omega
    go_enter Try.func29, Try.ntmps29
    go_wp2_with fail
    go_ret2
    exact ⟨rfl, Ext.refl _⟩

end Go.Proofs.Ytecfcamlnfmebaa
