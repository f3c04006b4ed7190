/- num.Read and bothyref02.Read: both give the number rdF of a text's bytes, or the errors. -/
import Derived.Test.YtecfcamlnfmebaaNumR
namespace Go.Proofs.Ytecfcamlnfmebaa
open Go.RowKit Go.Bo

theorem w64b (s : ByteArray) (k : Nat) : wrap64 (bt s k) = bt s k := by
  have := bt_bd s k
  exact IntWalk.wrap64_in _ (by omega)
/-- A byte's sign. -/
def sgB (s : ByteArray) (k : Nat) : Int := if bt s k < 128 then 0 else -1
theorem sgB_eq (s : ByteArray) (k : Nat) : wrap64 (IntKind.i8.wrap (bt s k)) / 128 = sgB s k := by
  have := bt_bd s k
  have h : IntKind.i8.wrap (bt s k) = if bt s k < 128 then bt s k else bt s k - 256 := by
    split
    · exact IntWalk.i8_in _ (by omega)
    · simp [IntKind.wrap, IntKind.bits, IntKind.signed]; omega
  rw [h]
  unfold sgB
  split
  · rw [IntWalk.wrap64_in _ (by omega)]; omega
  · rw [IntWalk.wrap64_in _ (by omega)]; omega

theorem or8 (x b : Int) (h0 : -1099511627776 ≤ x) (h1 : x ≤ 1099511627776) (h2 : 0 ≤ b) (h3 : b ≤ 255) : bits BinOp.or IntKind.i64 (x * 256) b = x * 256 + b := by
  show IntKind.i64.wrap ((BitVec.ofInt 64 (x * 256) ||| BitVec.ofInt 64 b).toNat : Int) = _
  rw [BitVec.toNat_or, BitVec.toNat_ofInt, BitVec.toNat_ofInt, nat_join 8 _ _ (by omega) (by omega), IntKind.wrap_i64]
  omega

def sg0 (s : ByteArray) : Int := sgB s 0
/-- The number of so many bytes. -/
def rdN (s : ByteArray) : Nat → Int
  | 0 => sg0 s
  | k + 1 => rdN s k * 256 + bt s k
theorem rdN_bd (s : ByteArray) : ∀ k, -(256 ^ k : Nat) ≤ rdN s k ∧ rdN s k < (256 ^ k : Nat) := by
  intro k
  induction k with
  | zero => simp [rdN, sg0, sgB]; split <;> omega
  | succ k ih =>
    have := bt_bd s k
    simp only [rdN, Nat.pow_succ]
    omega
theorem rdN_bd' (s : ByteArray) (k : Nat) (h : k ≤ 4) : -4294967296 ≤ rdN s k ∧ rdN s k < 4294967296 := by
  have h1 := rdN_bd s k
  have h2 : 256 ^ k ≤ 256 ^ 4 := Nat.pow_le_pow_right (by omega) h
  have h3 : 256 ^ 4 = 4294967296 := by decide
  omega

/-- Whether a text's first byte says what the second says already. -/
def formB (s : ByteArray) : Bool := (bt s 0 == 0 && bt s 1 < 128) || (bt s 0 == 255 && 128 ≤ bt s 1)
/-- What a text is read as. -/
def rdE (s : ByteArray) : Int := if s.size = 0 then 4 else if 1 < s.size ∧ formB s then 5 else if 4 < s.size then 3 else 0
def rdF (s : ByteArray) : Int := if rdE s = 0 then rdN s s.size else 0

theorem emptyB {s : ByteArray} (h : s.size ≠ 0) : s.toList.isEmpty = false := by
  rw [Go.ByteArray.toList_eq]
  have h2 : s.data.toList.length = s.size := by simp
  cases hl : s.data.toList with
  | nil => rw [hl] at h2; simp at h2; omega
  | cons => rfl
theorem empty0 {s : ByteArray} (h : s.size = 0) : s = ByteArray.empty := by
  apply ByteArray.ext
  exact Array.eq_empty_of_size_eq_zero h

/-- The ways of the two first bytes. -/
def WayB (s : ByteArray) (g : Int) (d : Int) (x : Bool) (g1 : Int) (f : Bool) : Prop := sgB s 0 = g ∧ (bt s 0 == d) = x ∧ sgB s 1 = g1 ∧ formB s = f
theorem read_cases (s : ByteArray) : WayB s 0 0 true 0 true ∨ WayB s 0 0 true (-1) false ∨ WayB s 0 0 false 0 false ∨ WayB s 0 0 false (-1) false ∨
    WayB s (-1) 255 true 0 false ∨ WayB s (-1) 255 true (-1) true ∨ WayB s (-1) 255 false 0 false ∨ WayB s (-1) 255 false (-1) false := by
  have h0 := bt_bd s 0
  have h1 := bt_bd s 1
  unfold WayB sgB formB
  grind

theorem rdE_long {s : ByteArray} {f : Bool} (_h1 : (1 : Int) < (s.size : Int)) (h4 : (4 : Int) < (s.size : Int)) (hf : formB s = f) : rdE s = if f then 5 else 3 := by
  unfold rdE
  rw [if_neg (by omega), hf]
  cases f
  · rw [if_neg (by simp), if_pos (by omega)]; rfl
  · rw [if_pos ⟨by omega, rfl⟩]; rfl
theorem rdE_mid {s : ByteArray} {f : Bool} (h1 : (1 : Int) < (s.size : Int)) (h4 : (s.size : Int) ≤ 4) (hf : formB s = f) : rdE s = if f then 5 else 0 := by
  unfold rdE
  rw [if_neg (by omega), hf]
  cases f
  · rw [if_neg (by simp), if_neg (by omega)]; rfl
  · rw [if_pos ⟨by omega, rfl⟩]; rfl
theorem rdE_one {s : ByteArray} (h1 : s.size = 1) : rdE s = 0 := by
  unfold rdE
  rw [if_neg (by omega), if_neg (by omega), if_neg (by omega)]
theorem rdF_no {s : ByteArray} {e : Int} (h : rdE s = e) (he : e ≠ 0) : rdF s = 0 := by
  unfold rdF; rw [h, if_neg he]
theorem rdF_yes {s : ByteArray} (h : rdE s = 0) : rdF s = rdN s s.size := by
  unfold rdF; rw [h, if_pos rfl]

set_option maxRecDepth 100000 in
set_option maxHeartbeats 4000000 in
theorem read_any (s : ByteArray) (w : World) (h' : s.size ≤ 9223372036854775807) :
    Calls Try.prog 30 #[.string s] w fun e w' => e = .returned (.tuple #[.int .i64 (rdF s), .int .i64 (rdE s)]) ∧ w = w' := by
  by_cases hz : s.size = 0
  · obtain rfl := empty0 hz
    go_enter Try.func30, Try.ntmps30
    go_wp2_with fail
    go_ret2
    exact ⟨rfl, rfl⟩
  have he := emptyB hz
  have b0 := w64b s 0
  have q0 := sgB_eq s 0
  have q1 := sgB_eq s 1
  have a0 : bits BinOp.and IntKind.i64 0 255 = 0 := by decide
  have a1 : bits BinOp.and IntKind.i64 (-1) 255 = 255 := by decide
  by_cases h1 : (1 : Int) < (s.size : Int)
  · by_cases h4 : (4 : Int) < (s.size : Int)
    · rcases read_cases s with ⟨g0, hx, g1, hf⟩ | ⟨g0, hx, g1, hf⟩ | ⟨g0, hx, g1, hf⟩ | ⟨g0, hx, g1, hf⟩ | ⟨g0, hx, g1, hf⟩ | ⟨g0, hx, g1, hf⟩ | ⟨g0, hx, g1, hf⟩ | ⟨g0, hx, g1, hf⟩
      all_goals
        rw [g0] at q0
        rw [g1] at q1
        have he1 := rdE_long h1 h4 hf
        have hf1 := rdF_no he1 (by decide)
        rw [he1, hf1]
        clear g0 g1 hf he1 hf1
        go_enter Try.func30, Try.ntmps30
        go_wp2_with ((first | (with_reducible refine wp_index_str 0 9 _ _ rfl rfl Try.underlying9 _ _ rfl rfl ?_ ?_) | (with_reducible refine wp_index_str 1 9 _ _ rfl rfl Try.underlying9 _ _ rfl rfl ?_ ?_)); focus omega)
        go_ret2
        exact ⟨rfl, rfl⟩
    · rcases read_cases s with ⟨g0, hx, g1, hf⟩ | ⟨g0, hx, g1, hf⟩ | ⟨g0, hx, g1, hf⟩ | ⟨g0, hx, g1, hf⟩ | ⟨g0, hx, g1, hf⟩ | ⟨g0, hx, g1, hf⟩ | ⟨g0, hx, g1, hf⟩ | ⟨g0, hx, g1, hf⟩
      all_goals
        rw [g0] at q0
        rw [g1] at q1
        have he1 := rdE_mid h1 (by omega) hf
        have G0 := Lib.hid g0
        clear g0 g1 hf
      all_goals first
      | (have hf1 := rdF_no he1 (by decide)
         rw [he1, hf1]
         clear he1 hf1
         go_enter Try.func30, Try.ntmps30
         go_wp2_with ((first | (with_reducible refine wp_index_str 0 9 _ _ rfl rfl Try.underlying9 _ _ rfl rfl ?_ ?_) | (with_reducible refine wp_index_str 1 9 _ _ rfl rfl Try.underlying9 _ _ rfl rfl ?_ ?_)); focus omega)
         go_ret2
         exact ⟨rfl, rfl⟩)
      | (have hf1 := rdF_yes he1
         rw [he1, hf1]
         clear he1 hf1
         go_enter Try.func30, Try.ntmps30
         go_wp2_with ((first | (with_reducible refine wp_index_str 0 9 _ _ rfl rfl Try.underlying9 _ _ rfl rfl ?_ ?_) | (with_reducible refine wp_index_str 1 9 _ _ rfl rfl Try.underlying9 _ _ rfl rfl ?_ ?_)); focus omega)
         go_loop [5, 42] (fun n i => ∃ k : Nat, k ≤ s.size ∧ i = .int .i64 k ∧ n = .int .i64 (rdN s k)) (fun _ i => s.size - (intOf i).toNat)
         case atStart => exact ⟨0, by omega, rfl, by rw [rdN, sg0, G0.out]⟩
         case round =>
         obtain ⟨k, hk, rfl, rfl⟩ := hrel
         by_cases hlt : k < s.size
         · obtain ⟨c1, c2⟩ := rdN_bd' s k (by omega)
           have c3 := bt_bd s k
           have hor := or8 (rdN s k) (bt s k) (by omega) (by omega) (by omega) (by omega)
           have bk := w64b s k
           clear c3
           go_wp2_with (((with_reducible refine wp_index_str _ 9 _ _ rfl rfl Try.underlying9 _ _ rfl rfl ?_ ?_)); focus omega)
           go_round
           case rel => exact ⟨k + 1, by omega, by go_num, rfl⟩
           case measure => simp [intOf]; omega
         · obtain rfl : k = s.size := by omega
           go_wp2_with fail
           go_ret2
           exact ⟨rfl, rfl⟩)
  · have hs1 : s.size = 1 := by omega
    have he1 := rdE_one hs1
    have hf1 := rdF_yes he1
    rw [he1, hf1]
    clear he1 hf1 hs1
    rcases read_cases s with ⟨g0, hx, g1, hf⟩ | ⟨g0, hx, g1, hf⟩ | ⟨g0, hx, g1, hf⟩ | ⟨g0, hx, g1, hf⟩ | ⟨g0, hx, g1, hf⟩ | ⟨g0, hx, g1, hf⟩ | ⟨g0, hx, g1, hf⟩ | ⟨g0, hx, g1, hf⟩
    all_goals
        rw [g0] at q0
        rw [g1] at q1
        have G0 := Lib.hid g0
        clear g0 g1 hf
        go_enter Try.func30, Try.ntmps30
        go_wp2_with ((first | (with_reducible refine wp_index_str 0 9 _ _ rfl rfl Try.underlying9 _ _ rfl rfl ?_ ?_) | (with_reducible refine wp_index_str 1 9 _ _ rfl rfl Try.underlying9 _ _ rfl rfl ?_ ?_)); focus omega)
        go_loop [5, 42] (fun n i => ∃ k : Nat, k ≤ s.size ∧ i = .int .i64 k ∧ n = .int .i64 (rdN s k)) (fun _ i => s.size - (intOf i).toNat)
        case atStart => exact ⟨0, by omega, rfl, by rw [rdN, sg0, G0.out]⟩
        case round =>
        obtain ⟨k, hk, rfl, rfl⟩ := hrel
        by_cases hlt : k < s.size
        · obtain ⟨c1, c2⟩ := rdN_bd' s k (by omega)
          have c3 := bt_bd s k
          have hor := or8 (rdN s k) (bt s k) (by omega) (by omega) (by omega) (by omega)
          have bk := w64b s k
          clear c3
          go_wp2_with (((with_reducible refine wp_index_str _ 9 _ _ rfl rfl Try.underlying9 _ _ rfl rfl ?_ ?_)); focus omega)
          go_round
          case rel => exact ⟨k + 1, by omega, by go_num, rfl⟩
          case measure => simp [intOf]; omega
        · obtain rfl : k = s.size := by omega
          go_wp2_with fail
          go_ret2
          exact ⟨rfl, rfl⟩
end Go.Proofs.Ytecfcamlnfmebaa
