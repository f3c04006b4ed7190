/- The laws of layer 49, walked. -/
import Derived.Test.YtecfcamlnfmebaaLim
import Derived.Test.YtecfcamlnfmebaaOpen
namespace Go.Proofs.Ytecfcamlnfmebaa
open Go.RowKit Go.Bo

theorem left_c (b r : Nat) (each most : Int) (l : List (ByteArray × (Int × Int))) (who : ByteArray) (now v : Int) (w : World) (hL : Lim w b r each most l) (hv : (atF each most l who now).1.1 = v) :
    Calls Try.prog 25 #[.pointer (some ⟨b, 0, none⟩), .string who, .int .i64 now] w fun e w' => e = .returned (.int .i64 v) ∧ Ext w w' := by
  subst hv; exact left_any b r each most l who now w hL
theorem take_c (b r : Nat) (each most : Int) (l : List (ByteArray × (Int × Int))) (who : ByteArray) (now n : Int) (w : World) (hL : Lim w b r each most l) (hn : -9223372036854775808 ≤ n ∧ n ≤ 9223372036854775807) (v : Bool) (l' : List (ByteArray × (Int × Int))) (hv : takeF each most l who now n = (v, l')) :
    Calls Try.prog 26 #[.pointer (some ⟨b, 0, none⟩), .string who, .int .i64 now, .int .i64 n] w fun e w' => e = .returned (.bool v) ∧ w.grownBy w' (some r) ∧ Lim w' b r each most l' := by
  have := take_any b r each most l who now n w hL hn
  rw [hv] at this; exact this

/-- Below B all is as it was, and r is not below. -/
theorem grown_below {w0 w w' : World} {r : Nat} (E : Ext w0 w) (h : w.grownBy w' (some r)) (hr : w0.heap.size ≤ r) : Ext w0 w' :=
  Below.grown E h E.size (fun k hk => by cases hk; exact hr)

def kx : ByteArray := ⟨#[120]⟩
def ky : ByteArray := ⟨#[121]⟩

set_option maxRecDepth 100000 in
theorem awake49_any (w : World) : Calls Try.prog 22 #[] w fun e w' => e = .returned (.bool true) ∧ Ext w w' := by
  go_enter Try.func22, Try.ntmps22
  go_wp2_with fail
  refine (new_ok 1 3 _ (by decide)).mono ?_; rintro e w1 ⟨b, r, rfl, E1, hL, hb, hr⟩
  go_wp2_with fail
  refine (new_no 0 3 _ (by decide)).mono ?_; rintro e w1' ⟨rfl, rfl⟩
  go_wp2_with fail
  refine (take_c b r 1 3 _ ⟨#[120]⟩ 0 3 _ hL (by decide) true [(⟨#[120]⟩, (0, 0))] (by decide)).mono ?_; rintro e w2 ⟨rfl, G, hL⟩
  have E1 := grown_below E1 G hr; clear G
  go_wp2_with fail
  refine (take_c b r 1 3 _ ⟨#[120]⟩ 1 2 _ hL (by decide) false [(⟨#[120]⟩, (1, 1))] (by decide)).mono ?_; rintro e w2 ⟨rfl, G, hL⟩
  have E1 := grown_below E1 G hr; clear G
  go_wp2_with fail
  refine (take_c b r 1 3 _ ⟨#[120]⟩ 2 2 _ hL (by decide) true [(⟨#[120]⟩, (0, 2))] (by decide)).mono ?_; rintro e w2 ⟨rfl, G, hL⟩
  have E1 := grown_below E1 G hr; clear G
  go_wp2_with fail
  refine (take_c b r 1 3 _ ⟨#[120]⟩ 1 1 _ hL (by decide) false [(⟨#[120]⟩, (0, 2))] (by decide)).mono ?_; rintro e w2 ⟨rfl, G, hL⟩
  have E1 := grown_below E1 G hr; clear G
  go_wp2_with fail
  refine (left_c b r 1 3 _ ⟨#[120]⟩ 5 3 _ hL (by decide)).mono ?_; rintro e w2 ⟨rfl, E2⟩
  have E1 := E1.trans E2; have hL := hL.ext E2; clear E2
  go_wp2_with fail
  refine (left_c b r 1 3 _ ⟨#[121]⟩ 0 3 _ hL (by decide)).mono ?_; rintro e w2 ⟨rfl, E2⟩
  have E1 := E1.trans E2; have hL := hL.ext E2; clear E2
  go_wp2_with fail
  refine (left_c b r 1 3 _ ⟨#[120]⟩ 1 0 _ hL (by decide)).mono ?_; rintro e w2 ⟨rfl, E2⟩
  have E1 := E1.trans E2; clear E2
  go_wp2_with fail
  go_ret
  exact ⟨rfl, E1⟩

/-- What holds while somebody takes again and again: what was taken, and what is left, is no more than what there was and what came. -/
def HoldInv (each most : Int) (l : List (ByteArray × (Int × Int))) (now sum : Int) : Prop :=
  (shF l most ⟨#[97]⟩).2 ≤ now ∧ sum + (shF l most ⟨#[97]⟩).1 ≤ most + (shF l most ⟨#[97]⟩).2 * each

theorem hold_step {w : World} {b r : Nat} {each most : Int} {l : List (ByteArray × (Int × Int))} (hL : Lim w b r each most l) {now now' sum : Int} (h : HoldInv each most l now sum) (hle : now ≤ now') (h0 : 0 ≤ now') (h1 : now' ≤ 1099511627776) (m : Int) :
    HoldInv each most (takeF each most l ⟨#[97]⟩ now' m).2 now' (if (takeF each most l ⟨#[97]⟩ now' m).1 then sum + m else sum) := by
  by_cases c1 : 1 ≤ m
  rotate_left
  · have hn : takeF each most l ⟨#[97]⟩ now' m = (false, l) := by unfold takeF; simp [c1]
    rw [hn]
    exact ⟨Int.le_trans h.1 hle, h.2⟩
  obtain ⟨ha, hs⟩ := h
  have hbd := shF_bd hL ⟨#[97]⟩
  have hat : atF each most l ⟨#[97]⟩ now' = ((lfF each most (shF l most ⟨#[97]⟩).1 (now' - (shF l most ⟨#[97]⟩).2), now'), true) := by
    unfold atF; rw [if_pos ⟨h0, h1, by omega⟩]
  have hset : ∀ p : Int × Int, shF (mset l ⟨#[97]⟩ p) most ⟨#[97]⟩ = p := by
    intro p; unfold shF; rw [mlook_set, if_pos rfl]; rfl
  unfold takeF
  simp only [hat]
  generalize shF l most ⟨#[97]⟩ = p at *
  obtain ⟨n, a⟩ := p
  simp only at *
  have hlf : lfF each most n (now' - a) ≤ n + (now' - a) * each := by
    unfold lfF
    split
    · rename_i hg
      obtain ⟨q1, q2, q3, q4⟩ := hL.2.2.2.1
      have h2 : most < (most / each + 1) * each := by
        have := Int.lt_ediv_add_one_mul_self most (show 0 < each by omega)
        exact this
      have h3 := Int.mul_le_mul_of_nonneg_right (show most / each + 1 ≤ now' - a by omega) (show 0 ≤ each by omega)
      omega
    · omega
  generalize lfF each most n (now' - a) = v at *
  have hm : (now' - a) * each = now' * each - a * each := Int.sub_mul _ _ _
  rw [if_pos ⟨trivial, c1⟩]
  by_cases c2 : m ≤ v
  · rw [if_pos c2]
    unfold HoldInv
    rw [hset]
    exact ⟨Int.le_refl _, by simp only [if_true]; omega⟩
  · rw [if_neg c2]
    unfold HoldInv
    rw [hset]
    exact ⟨Int.le_refl _, by simp only [Bool.false_eq_true, if_false]; omega⟩

theorem holdInv_le {w : World} {b r : Nat} {each most : Int} {l : List (ByteArray × (Int × Int))} (hL : Lim w b r each most l) {now sum : Int} (h : HoldInv each most l now sum) : sum ≤ most + now * each := by
  have hbd := shF_bd hL ⟨#[97]⟩
  obtain ⟨ha, hs⟩ := h
  have := Int.mul_le_mul_of_nonneg_right ha (show 0 ≤ each by have := hL.2.2.2.1; omega)
  omega

set_option maxRecDepth 100000 in
set_option maxHeartbeats 2000000 in
theorem hold_any (each most : Int) (a : Option Addr) (n c : Nat) (l : List (Int × Int)) (w : World) (h0 : 0 ≤ each ∧ each ≤ 255) (h1 : 0 ≤ most ∧ most ≤ 255) (hl : Sl (eCat (eInt .u8) (eInt .u8)) w (fun _ => True) a l) (hn : l.length = n) :
    Calls Try.prog 6 #[.int .u8 each, .int .u8 most, .slice a n c] w fun e w' => e = .returned (.bool true) ∧ Ext w w' := by
  have hlen := hl.1
  by_cases hc : 1 ≤ each ∧ 1 ≤ most ∧ n ≤ 60
  rotate_left
  · have hd : decide ((60 : Int) < (n : Int)) = true ∨ decide ((60 : Int) < (n : Int)) = false ∧ decide (each < 1) = true ∨ decide ((60 : Int) < (n : Int)) = false ∧ decide (each < 1) = false ∧ decide (most < 1) = true := by
      simp only [decide_eq_true_eq, decide_eq_false_iff_not]; omega
    rcases hd with d1 | ⟨d1, d2⟩ | ⟨d1, d2, d3⟩
    all_goals
      go_enter Try.func6, Try.ntmps6
      go_wp2_with fail
      refine (awake49_any _).mono ?_; rintro e w1 ⟨rfl, E1⟩
      go_wp2_with fail
      go_ret
      exact ⟨rfl, E1⟩
  obtain ⟨e1, m1, n1⟩ := hc
  have d1 : decide ((60 : Int) < (n : Int)) = false := by simp; omega
  have d2 : decide (each < 1) = false := by simp; omega
  have d3 : decide (most < 1) = false := by simp; omega
  go_enter Try.func6, Try.ntmps6
  go_wp2_with fail
  refine (new_ok each most _ (by omega)).mono ?_; rintro e w1 ⟨b, r, rfl, E1, hL, hb, hr⟩
  go_wp2_with fail
  go_loopw [9, 10, 11] (fun nw sm i wr => ∃ (j : Nat) (now sum : Int) (lst : List (ByteArray × (Int × Int))), j ≤ n ∧ nw = .int .i64 now ∧ sm = .int .i64 sum ∧ i = .int .i64 j ∧ 0 ≤ now ∧ now ≤ 7 * j ∧ 0 ≤ sum ∧ sum ≤ 255 * j ∧
    Ext w wr ∧ Lim wr b r each most lst ∧ Hid (HoldInv each most lst now sum)) (fun _ _ i _ => n - (intOf i).toNat)
  case atStart => exact ⟨0, 0, 0, [], by omega, rfl, rfl, rfl, by omega, by omega, by omega, by omega, E1, hL, by simp [Hid, HoldInv, shF, mlook]⟩
  case round =>
    obtain ⟨j, now, sum, lst, hj, rfl, rfl, rfl, n0, n2, s0, s1, E, hL, hI⟩ := hrel
    by_cases hlt : j < n
    · obtain ⟨bb, off, cs, rfl, -, ⟨c, d, rfl, ⟨rfl, wf1⟩, ⟨rfl, wf2⟩⟩, hcell⟩ := hl.2 j (by omega)
      have q0 : w.cell? ⟨bb, off + j * 2, none⟩ = some (.int .u8 l[j].1) := hcell 0 (by decide)
      have q1 : w.cell? ⟨bb, off + j * 2 + 1, none⟩ = some (.int .u8 l[j].2) := hcell 1 (by decide)
      generalize l[j].1 = x at q0 wf1
      generalize l[j].2 = y at q1 wf2
      have k0 := E.cellE q0
      have k1 := E.cellE q1
      have Q1 := Lib.hid q1
      clear q0 q1
      obtain ⟨x0, x1⟩ := bounds_u8 wf1
      obtain ⟨y0, y1⟩ := bounds_u8 wf2
      clear hcell wf1 wf2
      go_wp2_with fail
      refine (take_any b r each most lst ⟨#[97]⟩ (now + x % 8) y _ hL (by omega)).mono ?_; rintro e w2 ⟨rfl, G, hL2⟩
      have hI2 := hold_step hL hI.out (show now ≤ now + x % 8 by omega) (by omega) (by omega) y
      have hbd := holdInv_le hL2 hI2
      have p0 : 0 ≤ (now + x % 8) * each := Int.mul_nonneg (by omega) (by omega)
      have p1 : (now + x % 8) * each ≤ 1000 * each := Int.mul_le_mul_of_nonneg_right (by omega) (by omega)
      have E2 := grown_below E G hr
      generalize takeF each most lst ⟨#[97]⟩ (now + x % 8) y = tf at hL2 hI2 hbd
      obtain ⟨v, l'⟩ := tf
      have HI := Lib.hid hI2
      clear hI2 hI hL G E k0 k1
      have k1 := E2.cellE Q1.out
      cases v with
      | true =>
        simp only [if_true] at hbd HI
        go_wp2_with fail
        go_roundw
        case rel => exact ⟨j + 1, now + x % 8, sum + y, l', by omega, rfl, rfl, by go_num, by omega, by omega, by omega, by omega, E2, hL2, HI⟩
        case measure => simp [intOf]; omega
      | false =>
        simp only [Bool.false_eq_true, if_false] at hbd HI
        go_wp2_with fail
        go_roundw
        case rel => exact ⟨j + 1, now + x % 8, sum, l', by omega, rfl, rfl, by go_num, by omega, by omega, by omega, by omega, E2, hL2, HI⟩
        case measure => simp [intOf]; omega
    · go_wp2_with fail
      refine (take_nil _ _ _ _).mono ?_; rintro e w2 ⟨rfl, E2⟩
      go_wp2_with fail
      refine (left_nil _ _ _).mono ?_; rintro e w3 ⟨rfl, E3⟩
      go_wp2_with fail
      refine (awake49_any _).mono ?_; rintro e w4 ⟨rfl, E4⟩
      go_wp2_with fail
      go_ret
      exact ⟨rfl, E.trans (E2.trans (E3.trans E4))⟩

end Go.Proofs.Ytecfcamlnfmebaa
