/- Ber: what is put is read, and the other way round. -/
import Derived.Test.YtogmbfaijmhamaaBer3
set_option linter.unusedSimpArgs false
set_option linter.unusedVariables false
namespace Go.Proofs.Ytogmbfaijmhamaa
open Go.RowKit Go.Bo Go.Ab

theorem valB_be (n : Nat) : valB (be n) = n := by
  induction n using Nat.strongRecOn with
  | _ n ih =>
    by_cases h : n = 0
    · subst h; rw [be_zero]; rfl
    · rw [be_pos n (by omega), valB_snoc, ih (n / 256) (by omega)]
      simp; omega
theorem be_mono (m : Nat) : ∀ n, n ≤ m → (be n).length ≤ (be m).length := by
  induction m using Nat.strongRecOn with
  | _ m ih =>
    intro n hn
    by_cases h : n = 0
    · subst h; rw [be_zero]; exact Nat.zero_le _
    · rw [be_pos n (by omega), be_pos m (by omega), List.length_append, List.length_append]
      have := ih (m / 256) (by omega) (n / 256) (by omega)
      simp only [List.length_cons, List.length_nil]; omega
theorem be_one (n : Nat) (h : 0 < n) : 0 < (be n).length := by rw [be_pos n h]; simp
theorem lenB_mono (n m : Nat) (h : n ≤ m) : (lenB n).length ≤ (lenB m).length := by
  unfold lenB
  have := be_mono m n h
  split
  · split
    · simp
    · simp
  · rw [if_neg (by omega)]; simp; omega
theorem u8_nat (n : Nat) (h : n < 256) : (UInt8.ofNat n).toNat = n := by simp; omega
theorem read_put (t : Int) (s more : List UInt8) (h : (putB t s).2 = 0) : readB ((putB t s).1 ++ more) = ((t, s, ()), (putB t s).1.length, 0) := by
  unfold putB at h ⊢
  split at h
  · rename_i h1
    split at h
    · rename_i h2
      rw [if_pos h1, if_pos h2]
      obtain ⟨n, rfl, hn⟩ := tagB_nat h1
      have ht : (UInt8.ofNat n).toNat = n := u8_nat n (by omega)
      simp only [Int.toNat_natCast, List.cons_append, List.length_cons, List.length_append]
      by_cases h3 : s.length < 128
      · have e : lenB s.length = [UInt8.ofNat s.length] := by unfold lenB; rw [if_pos h3]
        have hH : headB (UInt8.ofNat n :: (lenB s.length ++ s ++ more)) = (n, s.length, 2, 0) := by
          rw [e]
          simp only [List.cons_append, List.nil_append, headB]
          rw [ht, u8_nat _ (by omega), if_pos h1, if_pos h3]
        unfold readB
        rw [hH]
        simp only [List.length_cons, List.length_append, e, List.length_nil, if_true, List.cons_append, List.nil_append]
        rw [if_neg (by omega)]
        rw [show 2 + s.length = s.length + 1 + 1 by omega, List.take_succ_cons, List.take_succ_cons, List.drop_succ_cons, List.drop_succ_cons, List.drop_zero, List.take_left]
        simp only [Prod.mk.injEq, true_and, and_true]; omega
      · have e : lenB s.length = UInt8.ofNat (128 + (be s.length).length) :: be s.length := by unfold lenB; rw [if_neg h3]
        have hb4 := be_len 3 s.length (by omega)
        have hb0 := be_one s.length (by omega)
        have hc := u8_nat (128 + (be s.length).length) (by omega)
        have hL : longB (UInt8.ofNat (128 + (be s.length).length)) (be s.length ++ (s ++ more)) = (s.length, 1 + (be s.length).length, 0) := by
          have e2 : (be s.length ++ (s ++ more)).take (be s.length).length = be s.length := List.take_left
          have := longB_0 (c := UInt8.ofNat (128 + (be s.length).length)) (r := be s.length ++ (s ++ more)) (m := (be s.length).length) (by omega) (by omega) (by simp) (by rw [e2, valB_be, e]) (by rw [e2, valB_be]; omega)
          rw [this, e2, valB_be]
        have hH : headB (UInt8.ofNat n :: (lenB s.length ++ s ++ more)) = (n, s.length, 1 + (1 + (be s.length).length), 0) := by
          rw [e]
          simp only [List.cons_append, List.append_assoc, headB]
          rw [ht, if_pos h1, if_neg (by omega), hL]
          simp only [if_true]
        unfold readB
        rw [hH]
        simp only [List.length_cons, List.length_append, e, if_true, List.cons_append]
        rw [if_neg (by omega)]
        rw [show 1 + (1 + (be s.length).length) + s.length = ((be s.length).length + s.length) + 1 + 1 by omega, List.take_succ_cons, List.take_succ_cons, show 1 + (1 + (be s.length).length) = (be s.length).length + 1 + 1 by omega, List.drop_succ_cons, List.drop_succ_cons]
        have e3 : (be s.length ++ s ++ more).take ((be s.length).length + s.length) = be s.length ++ s := by rw [← List.length_append, List.take_left]
        rw [e3, List.drop_left]
        simp only [Prod.mk.injEq, true_and, and_true]; omega
    · cases h
  · cases h
theorem u8_of (c : UInt8) : UInt8.ofNat c.toNat = c := by simp
theorem put_read (m : List UInt8) (h : (readB m).2.2 = 0) : putB (readB m).1.1 (readB m).1.2.1 = (m.take (readB m).2.1, 0) := by
  have h' := h
  unfold readB at h
  split at h
  · rename_i h0
    split at h
    · cases h
    · rename_i h1
      have hk := headB_ok m h0
      have e : readB m = ((((headB m).1 : Int), (m.take ((headB m).2.2.1 + (headB m).2.1)).drop (headB m).2.2.1, ()), (headB m).2.2.1 + (headB m).2.1, 0) := by unfold readB; rw [if_pos h0, if_neg h1]
      rw [e]
      clear e h h'
      simp only
      have hbl : ((m.take ((headB m).2.2.1 + (headB m).2.1)).drop (headB m).2.2.1).length = (headB m).2.1 := by
        rw [List.length_drop, List.length_take]; omega
      unfold putB
      rw [if_pos hk.1, if_pos (by rw [hbl]; exact hk.2.1), hbl]
      -- the head's bytes
      have key : UInt8.ofNat (headB m).1 :: lenB (headB m).2.1 = m.take (headB m).2.2.1 := by
        clear hbl hk h1
        match m, h0 with
        | [], h => simp [headB] at h
        | [t], h =>
          exfalso
          simp only [headB] at h
          split at h <;> simp at h
        | t :: c :: r, h =>
          simp only [headB] at h ⊢
          by_cases h1 : tagB (t.toNat : Int) = true
          · rw [if_pos h1] at h ⊢
            by_cases h2 : c.toNat < 128
            · rw [if_pos h2] at h ⊢
              simp only
              rw [u8_of]
              unfold lenB
              rw [if_pos h2, u8_of]
              rfl
            · rw [if_neg h2] at h ⊢
              by_cases h3 : (longB c r).2.2 = 0
              · rw [if_pos h3] at h ⊢
                obtain ⟨k1, k2, k3, k4, k5, k6⟩ := longB_ok c r h3
                rw [k2]
                simp only
                rw [u8_of, k5, show 1 + (1 + (c.toNat - 128)) = (c.toNat - 128) + 1 + 1 by omega]
                rfl
              · rw [if_neg h3] at h; simp at h; exact absurd h h3
          · rw [if_neg h1] at h; simp at h
      have e5 : ((headB m).1 : Int).toNat = (headB m).1 := rfl
      rw [e5, ← List.cons_append, key]
      have : m.take (headB m).2.2.1 = (m.take ((headB m).2.2.1 + (headB m).2.1)).take (headB m).2.2.1 := by rw [List.take_take, Nat.min_eq_left (by omega)]
      rw [this, List.take_append_drop]
  · rename_i h0
    exact absurd h h0
theorem put_len (t : Int) (s : List UInt8) (h : (putB t s).2 = 0) : (putB t s).1.length = 1 + (lenB s.length).length + s.length := by
  unfold putB at h ⊢
  split at h
  · rename_i h1
    split at h
    · rename_i h2
      rw [if_pos h1, if_pos h2]
      simp; omega
    · cases h
  · cases h
theorem lenB_lo (n : Nat) : 1 ≤ (lenB n).length := by unfold lenB; split <;> simp
theorem lenB_hi (n : Nat) (h : n ≤ 3000) : (lenB n).length ≤ 3 := by
  have := be_len 2 n (by omega)
  unfold lenB
  split <;> simp <;> omega

theorem put_code (t : Int) (s : List UInt8) (h : s.length ≤ 65536) : (putB t s).2 = if tagB t = true then 0 else 6 := by
  unfold putB
  by_cases ht : tagB t = true
  · rw [if_pos ht, if_pos h, if_pos ht]
  · rw [if_neg ht, if_neg ht]
theorem put_le (t : Int) (s : List UInt8) (h : s.length ≤ 3000) : (putB t s).1.length ≤ s.length + 4 := by
  have h1 := lenB_hi s.length h
  unfold putB
  split
  · rw [if_pos (by omega)]; simp; omega
  · simp
theorem headB_app : ∀ (T y : List UInt8), (headB T).2.2.2 ≠ 4 → headB (T ++ y) = headB T
  | [], y, h => by simp [headB] at h
  | [t], y, h => by
    by_cases ht : tagB (t.toNat : Int) = true
    · simp [headB, ht] at h
    · cases y <;> simp [headB, ht]
  | t :: c :: r, y, h => by
    simp only [List.cons_append]
    have hl : (longB c r).2.2 ≠ 4 → longB c (r ++ y) = longB c r := by
      unfold longB
      simp only
      by_cases h1 : c.toNat - 128 = 0 ∨ 4 < c.toNat - 128
      · rw [if_pos h1, if_pos h1]; exact fun _ => rfl
      · rw [if_neg h1, if_neg h1]
        by_cases h2 : r.length < c.toNat - 128
        · rw [if_pos h2]; intro h; simp at h
        · have hr : ¬ (r ++ y).length < c.toNat - 128 := by rw [List.length_append]; omega
          rw [if_neg h2, if_neg hr, List.take_append_of_le_length (Nat.not_lt.1 h2)]; exact fun _ => rfl
    by_cases ht : tagB (t.toNat : Int) = true
    · by_cases hc : c.toNat < 128
      · simp [headB, ht, hc]
      · simp only [headB, if_pos ht, if_neg hc] at h ⊢
        by_cases h0 : (longB c r).2.2 = 0
        · rw [hl (by rw [h0]; decide), if_pos h0]
        · rw [if_neg h0] at h
          simp only at h
          rw [hl h]
    · simp [headB, ht]
theorem readB_app (T y : List UInt8) (h : (readB T).2.2 = 0) : readB (T ++ y) = readB T := by
  have hr := readB_ok T h
  unfold readB at h hr ⊢
  split at h
  · rename_i h0
    rw [if_pos h0] at hr
    have hk := headB_ok T h0
    rw [headB_app T y (by rw [h0]; decide), if_pos h0, if_pos h0]
    split at h
    · simp at h
    · rename_i h1
      rw [if_neg h1] at hr
      simp only at hr
      rw [if_neg h1, if_neg (by simp; omega), List.take_append_of_le_length (by omega)]
  · rename_i h0; exact absurd h h0
end Go.Proofs.Ytogmbfaijmhamaa
