/- The laws of layer 2, walked. -/
import Derived.Test.YtecfcamlnfmebaaNumPlain
namespace Go.Proofs.Ytecfcamlnfmebaa
open Go.RowKit Go.Bo

theorem put_c (n : Int) (s : ByteArray) (w : World) (h0 : -2147483648 ≤ n) (h1 : n ≤ 2147483647) (hs : bytesOf (putB n) = s) :
    Calls Try.prog 28 #[.int .i64 n] w fun e w' => e = .returned (.tuple #[.string s, .int .i64 0]) ∧ Ext w w' := by subst hs; exact put_ok n w h0 h1
theorem read_c (s : ByteArray) (n e : Int) (w : World) (h : s.size ≤ 9223372036854775807) (hn : rdF s = n) (he : rdE s = e) :
    Calls Try.prog 30 #[.string s] w fun r w' => r = .returned (.tuple #[.int .i64 n, .int .i64 e]) ∧ w = w' := by subst hn; subst he; exact read_any s w h
theorem readBool_c (s : ByteArray) (b : Bool) (e : Int) (w : World) (hn : rbF s = b) (he : rbE s = e) :
    Calls Try.prog 32 #[.string s] w fun r w' => r = .returned (.tuple #[.bool b, .int .i64 e]) ∧ w = w' := by subst hn; subst he; exact readBool_any s w

theorem awake02_any (w : World) : Calls Try.prog 27 #[] w fun e w' => e = .returned (.bool true) ∧ Ext w w' := by
  go_enter Try.func27, Try.ntmps27
  go_wp2_with fail
  refine (put_c 128 ⟨#[0, 128]⟩ _ (by decide) (by decide) (by decide)).mono ?_; rintro e w1 ⟨rfl, E1⟩
  go_wp2_with fail
  refine (put_c (-1) ⟨#[255]⟩ _ (by decide) (by decide) (by decide)).mono ?_; rintro e w2 ⟨rfl, E2⟩
  go_wp2_with fail
  refine (put_no 2147483648 _ (by decide)).mono ?_; rintro e w3 ⟨rfl, E3⟩
  go_wp2_with fail
  refine (read_c ⟨#[255, 127]⟩ (-129) 0 _ (by decide) (by decide) (by decide)).mono ?_; rintro e w3' ⟨rfl, rfl⟩
  go_wp2_with fail
  refine (read_c ⟨#[0, 1]⟩ 0 5 _ (by decide) (by decide) (by decide)).mono ?_; rintro e w3' ⟨rfl, rfl⟩
  go_wp2_with fail
  refine (read_c ⟨#[1, 0, 0, 0, 0]⟩ 0 3 _ (by decide) (by decide) (by decide)).mono ?_; rintro e w3' ⟨rfl, rfl⟩
  go_wp2_with fail
  refine (bool_any true _).mono ?_; rintro e w3' ⟨rfl, rfl⟩
  go_wp2_with fail
  refine (readBool_c _ true 0 _ (by simp only [rbF, Go.ByteArray.toList_eq]; decide) (by simp only [rbE, Go.ByteArray.toList_eq]; decide)).mono ?_; rintro e w3' ⟨rfl, rfl⟩
  go_wp2_with fail
  refine (readBool_c ⟨#[1]⟩ false 5 _ (by simp only [rbF, Go.ByteArray.toList_eq]; decide) (by simp only [rbE, Go.ByteArray.toList_eq]; decide)).mono ?_; rintro e w3' ⟨rfl, rfl⟩
  go_wp2_with fail
  go_ret
  exact ⟨rfl, (E1.trans E2).trans E3⟩

theorem put_any (n : Int) (w : World) : ∃ s e, Calls Try.prog 28 #[.int .i64 n] w (fun r w' => r = .returned (.tuple #[.string s, .int .i64 e]) ∧ Ext w w') ∧ ∀ w, Calls Try.prog 29 #[.int .i64 n] w (fun r w' => r = .returned (.tuple #[.string s, .int .i64 e]) ∧ Ext w w') := by
  by_cases h : -2147483648 ≤ n ∧ n ≤ 2147483647
  · exact ⟨_, _, put_ok n w h.1 h.2, fun w => putR_ok n w h.1 h.2⟩
  · exact ⟨_, _, put_no n w (by omega), fun w => putR_no n w (by omega)⟩

set_option maxRecDepth 100000 in
theorem numTells_any (n : Int) (s : ByteArray) (w : World) (hs : s.size ≤ 9223372036854775807) :
    Calls Try.prog 7 #[.int .i64 n, .string s] w fun e w' => e = .returned (.bool true) ∧ Ext w w' := by
  by_cases h : (100 : Int) < (s.size : Int)
  · go_enter Try.func7, Try.ntmps7
    go_wp2_with (go_at_call 27; refine (awake02_any _).mono ?_; rintro e w1 ⟨rfl, E1⟩)
    go_ret
    exact ⟨rfl, E1⟩
  obtain ⟨t, e, c1, c2⟩ := put_any n w
  have C1 := Lib.hid c1
  have C2 := Lib.hid c2
  clear c1 c2
  go_enter Try.func7, Try.ntmps7
  go_wp2_with fail
  refine C1.out.mono ?_; rintro e w1 ⟨rfl, E1⟩
  go_wp2_with fail
  refine (C2.out _).mono ?_; rintro e w2 ⟨rfl, E2⟩
  go_wp2_with fail
  refine (read_any _ _ hs).mono ?_; rintro e w3' ⟨rfl, rfl⟩
  go_wp2_with fail
  refine (readR_any _ _ hs).mono ?_; rintro e w3' ⟨rfl, rfl⟩
  go_wp2_with fail
  refine (readBool_any _ _).mono ?_; rintro e w3' ⟨rfl, rfl⟩
  go_wp2_with fail
  refine (readBoolR_any _ _).mono ?_; rintro e w3' ⟨rfl, rfl⟩
  go_wp2_with fail
  refine (bool_any _ _).mono ?_; rintro e w3' ⟨rfl, rfl⟩
  go_wp2_with fail
  refine (boolR_any _ _).mono ?_; rintro e w3' ⟨rfl, rfl⟩
  go_wp2_with fail
  refine (awake02_any _).mono ?_; rintro e w3 ⟨rfl, E3⟩
  go_wp2_with fail
  go_ret
  exact ⟨rfl, (E1.trans E2).trans E3⟩

set_option maxRecDepth 100000 in
theorem numBack_any (n : Int) (s : ByteArray) (w : World) (h0 : -2147483648 ≤ n) (h1 : n ≤ 2147483647) (hs : s.size ≤ 9223372036854775807) :
    Calls Try.prog 8 #[.int .i32 n, .string s] w fun e w' => e = .returned (.bool true) ∧ Ext w w' := by
  by_cases h : (100 : Int) < (s.size : Int)
  · go_enter Try.func8, Try.ntmps8
    go_wp2_with (go_at_call 27; refine (awake02_any _).mono ?_; rintro e w1 ⟨rfl, E1⟩)
    go_ret
    exact ⟨rfl, E1⟩
  have hsz := put_size n
  have hm := manyF_bd n
  have hl : (bytesOf (putB n)).size ≤ 4 := by omega
  have c1 := fun w => put_ok n w h0 h1
  have c2 := fun w => read_c (bytesOf (putB n)) n 0 w (by omega) (rdF_put n h0 h1) (rdE_put n h0 h1)
  generalize bytesOf (putB n) = t at hl c1 c2
  have C1 := Lib.hid c1
  have C2 := Lib.hid c2
  clear c1 c2 hsz hm
  by_cases he : rdE s = 0
  · obtain ⟨p1, p2, p3⟩ := put_rd s he
    have c3 := fun w => read_c s (rdF s) 0 w hs rfl he
    have c4 := fun w => put_c (rdF s) s w p2 p3 p1
    generalize rdF s = k at p2 p3 c3 c4
    have C3 := Lib.hid c3
    have C4 := Lib.hid c4
    clear c3 c4 he p1
    go_enter Try.func8, Try.ntmps8
    go_wp2_with fail
    refine (C1.out _).mono ?_; rintro e w1 ⟨rfl, E1⟩
    go_wp2_with fail
    refine (C2.out _).mono ?_; rintro e w2' ⟨rfl, rfl⟩
    go_wp2_with fail
    refine (C3.out _).mono ?_; rintro e w2' ⟨rfl, rfl⟩
    go_wp2_with fail
    refine (C4.out _).mono ?_; rintro e w2 ⟨rfl, E2⟩
    go_wp2_with fail
    refine (awake02_any _).mono ?_; rintro e w3 ⟨rfl, E3⟩
    go_wp2_with fail
    go_ret
    exact ⟨rfl, (E1.trans E2).trans E3⟩
  · have c3 := fun w => read_c s 0 (rdE s) w hs (rdF_no rfl he) rfl
    have c4 := fun w => put_ok 0 w (by decide) (by decide)
    have hne : (rdE s != 0) = true := by simpa using he
    generalize rdE s = k at c3 hne
    generalize bytesOf (putB 0) = u at c4
    have C3 := Lib.hid c3
    have C4 := Lib.hid c4
    clear c3 c4 he
    go_enter Try.func8, Try.ntmps8
    go_wp2_with fail
    refine (C1.out _).mono ?_; rintro e w1 ⟨rfl, E1⟩
    go_wp2_with fail
    refine (C2.out _).mono ?_; rintro e w2' ⟨rfl, rfl⟩
    go_wp2_with fail
    refine (C3.out _).mono ?_; rintro e w2' ⟨rfl, rfl⟩
    go_wp2_with fail
    refine (C4.out _).mono ?_; rintro e w2 ⟨rfl, E2⟩
    go_wp2_with fail
    refine (awake02_any _).mono ?_; rintro e w3 ⟨rfl, E3⟩
    go_wp2_with fail
    go_ret
    exact ⟨rfl, (E1.trans E2).trans E3⟩

set_option maxRecDepth 100000 in
theorem numOrder_any (a b : Int) (w : World) (a0 : -2147483648 ≤ a) (a1 : a ≤ 2147483647) (b0 : -2147483648 ≤ b) (b1 : b ≤ 2147483647) :
    Calls Try.prog 9 #[.int .i32 a, .int .i32 b] w fun e w' => e = .returned (.bool true) ∧ Ext w w' := by
  have c1 := fun w => put_ok a w a0 a1
  have c2 := fun w => put_ok b w b0 b1
  have hi := put_inj a b a0 a1 b0 b1
  have hsa := put_size a
  have hsb := put_size b
  have hmono := manyF_mono a b
  generalize bytesOf (putB a) = s at c1 hi hsa
  generalize bytesOf (putB b) = t at c2 hi hsb
  have hle : 0 ≤ a ∧ a ≤ b ∨ a < 0 ∧ b ≤ a → (s.size : Int) ≤ (t.size : Int) := by intro h; have := hmono h; omega
  have C1 := Lib.hid c1
  have C2 := Lib.hid c2
  clear c1 c2 hsa hsb hmono
  have hc : (decide (0 ≤ a) = true ∧ decide (a ≤ b) = true ∧ (s.size : Int) ≤ (t.size : Int)) ∨ (decide (0 ≤ a) = true ∧ decide (a ≤ b) = false ∧ decide (a < 0) = false) ∨
      (decide (0 ≤ a) = false ∧ decide (a < 0) = true ∧ decide (b ≤ a) = true ∧ (s.size : Int) ≤ (t.size : Int)) ∨ (decide (0 ≤ a) = false ∧ decide (a < 0) = true ∧ decide (b ≤ a) = false) := by
    simp only [decide_eq_true_eq, decide_eq_false_iff_not]
    by_cases h1 : 0 ≤ a <;> by_cases h2 : a ≤ b <;> by_cases h3 : b ≤ a
    all_goals first
      | exact .inl ⟨by omega, by omega, hle (by omega)⟩
      | exact .inr (.inl ⟨by omega, by omega, by omega⟩)
      | exact .inr (.inr (.inl ⟨by omega, by omega, by omega, hle (by omega)⟩))
      | exact .inr (.inr (.inr ⟨by omega, by omega, by omega⟩))
  clear hle
  have hb : (a == b) = true ∨ (a == b) = false := by cases (a == b) <;> simp
  rcases hb with hb | hb
  all_goals
    rw [hb] at hi
    rcases hc with ⟨x1, x2, x3⟩ | ⟨x1, x2, x3⟩ | ⟨x1, x2, x3, x4⟩ | ⟨x1, x2, x3⟩
  all_goals
    go_enter Try.func9, Try.ntmps9
    go_wp2_with fail
    refine (C1.out _).mono ?_; rintro e w1 ⟨rfl, E1⟩
    go_wp2_with fail
    refine (C2.out _).mono ?_; rintro e w2 ⟨rfl, E2⟩
    go_wp2_with fail
    refine (awake02_any _).mono ?_; rintro e w3 ⟨rfl, E3⟩
    go_wp2_with fail
    go_ret
    exact ⟨rfl, (E1.trans E2).trans E3⟩

end Go.Proofs.Ytecfcamlnfmebaa
