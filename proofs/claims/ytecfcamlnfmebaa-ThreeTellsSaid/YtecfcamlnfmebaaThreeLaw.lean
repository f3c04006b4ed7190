/- The laws of layer 14, walked. -/
import Derived.Test.YtecfcamlnfmebaaThree
import Derived.Test.YtecfcamlnfmebaaOwn
namespace Go.Proofs.Ytecfcamlnfmebaa
open Go.RowKit Go.Bo

theorem and_c (l : List Int) (a : Option Addr) (n c : Nat) (v : Int) (w : World) (hl : ISl w a l) (hn : l.length = n) (hv : andF l = v) :
    Calls Try.prog 16 #[.slice a n c] w fun e w' => e = .returned (.int .i64 v) ∧ Ext w w' := by subst hn; subst hv; exact and_any a c l w hl
theorem or_c (l : List Int) (a : Option Addr) (n c : Nat) (v : Int) (w : World) (hl : ISl w a l) (hn : l.length = n) (hv : orF l = v) :
    Calls Try.prog 18 #[.slice a n c] w fun e w' => e = .returned (.int .i64 v) ∧ Ext w w' := by subst hn; subst hv; exact or_any a c l w hl
theorem lea_c (l : List Int) (a : Option Addr) (n c : Nat) (v : Int) (w : World) (hl : ISl w a l) (hn : l.length = n) (hv : leaF l = v) :
    Calls Try.prog 20 #[.slice a n c] w fun e w' => e = .returned (.int .i64 v) ∧ Ext w w' := by subst hn; subst hv; exact lea_any a c l w hl
theorem not_c (x v : Int) (w : World) (hv : notF x = v) :
    Calls Try.prog 14 #[.int .i64 x] w fun e w' => e = .returned (.int .i64 v) ∧ w = w' := by subst hv; exact not_any x w

theorem awake14_any (w : World) : Calls Try.prog 13 #[] w fun e w' => e = .returned (.bool true) ∧ Ext w w' := by
  go_enter Try.func13, Try.ntmps13
  go_wp2_with fail
  refine (and_c [] _ _ _ 1 _ (ISl.nil _ _) rfl rfl).mono ?_; rintro e w1 ⟨rfl, E1⟩
  go_wp2_with fail
  refine (or_c [0, 2] _ _ _ 2 _ (ISl.new _ [0, 2] (by decide) _) rfl rfl).mono ?_; rintro e w2 ⟨rfl, E2⟩
  go_wp2_with fail
  refine (and_c [2, 0] _ _ _ 0 _ (ISl.new _ [2, 0] (by decide) _) rfl rfl).mono ?_; rintro e w3 ⟨rfl, E3⟩
  go_wp2_with fail
  refine (or_c [2, 1] _ _ _ 1 _ (ISl.new _ [2, 1] (by decide) _) rfl rfl).mono ?_; rintro e w4 ⟨rfl, E4⟩
  go_wp2_with fail
  refine (not_c 2 2 _ rfl).mono ?_; rintro e w4' ⟨rfl, rfl⟩
  go_wp2_with fail
  refine (not_c 0 1 _ rfl).mono ?_; rintro e w4' ⟨rfl, rfl⟩
  go_wp2_with fail
  refine (lea_c [] _ _ _ 2 _ (ISl.nil _ _) rfl rfl).mono ?_; rintro e w5 ⟨rfl, E5⟩
  go_wp2_with fail
  refine (lea_c [1, 2] _ _ _ 2 _ (ISl.new _ [1, 2] (by decide) _) rfl rfl).mono ?_; rintro e w6 ⟨rfl, E6⟩
  go_wp2_with fail
  refine (and_c [1, 7] _ _ _ 2 _ (ISl.new _ [1, 7] (by decide) _) rfl rfl).mono ?_; rintro e w7 ⟨rfl, E7⟩
  go_wp2_with fail
  go_ret
  exact ⟨rfl, (((((E1.trans ((Ext.refl _).al _)).trans E2).trans (((Ext.refl _).al _).trans E3)).trans (((Ext.refl _).al _).trans E4)).trans E5).trans (((Ext.refl _).al _).trans (E6.trans (((Ext.refl _).al _).trans E7)))⟩

theorem tells_any (a : Option Addr) (c : Nat) (l : List Int) (w : World) (hl : ISl w a l) :
    Calls Try.prog 3 #[.slice a l.length c] w fun e w' => e = .returned (.bool true) ∧ Ext w w' := by
  obtain ⟨hl0, hl1⟩ := hl
  by_cases h : (40 : Int) < (l.length : Int)
  · go_enter Try.func3, Try.ntmps3
    go_wp2_with (go_at_call 13; refine (awake14_any _).mono ?_; rintro e w1 ⟨rfl, E1⟩)
    go_ret
    exact ⟨rfl, E1⟩
  go_enter Try.func3, Try.ntmps3
  go_wp2_with fail
  go_loopw [3] (fun i wr => ∃ j : Nat, j ≤ l.length ∧ i = .int .i64 j ∧ Ext w wr) (fun i _ => l.length - (intOf i).toNat)
  case atStart => exact ⟨0, Nat.zero_le _, rfl, Ext.refl _⟩
  case round =>
    obtain ⟨j, hj, rfl, E⟩ := hrel
    by_cases hjt : j < l.length
    · obtain ⟨b, off, rfl, hc⟩ := hl1 j hjt
      have hc := fun x : ExtOf wr => Ext.to x (E.cellE hc)
      generalize l.getD j 0 = y at hc
      go_wp2_with fail
      refine wp_region_quiet_ext (by kernel_rfl) (by kernel_rfl) ?_
      repeat (go_big_quiet_step ((first | (go_at_call 14; exact quietS (not_any _ _)) | (go_at_call 15; exact quietS (notR_any _ _)))))
      refine wpQuiet_nil ?_
      intro w1 E1
      go_wp2_with fail
      go_roundw
      case rel => exact ⟨j + 1, by omega, by go_num, E.trans E1⟩
      case measure => simp [intOf]; omega
    · go_wp2_with fail
      have hl' : ISl wr a l := ISl.ext ⟨hl0, hl1⟩ E
      refine (and_any _ _ l _ hl').mono ?_; rintro e w1 ⟨rfl, E1⟩
      go_wp2_with fail
      refine (andR_any _ _ l _ (hl'.ext E1)).mono ?_; rintro e w1' ⟨rfl, rfl⟩
      go_wp2_with fail
      refine (or_any _ _ l _ (hl'.ext E1)).mono ?_; rintro e w2 ⟨rfl, E2⟩
      have E2 := E1.trans E2
      go_wp2_with fail
      refine (orR_any _ _ l _ (hl'.ext E2)).mono ?_; rintro e w1' ⟨rfl, rfl⟩
      go_wp2_with fail
      refine (lea_any _ _ l _ (hl'.ext E2)).mono ?_; rintro e w3 ⟨rfl, E3⟩
      have E3 := E2.trans E3
      go_wp2_with fail
      refine (leaR_any _ _ l _ (hl'.ext E3)).mono ?_; rintro e w1' ⟨rfl, rfl⟩
      go_wp2_with fail
      refine (awake14_any _).mono ?_; rintro e w4 ⟨rfl, E4⟩
      go_wp2_with fail
      go_ret
      exact ⟨rfl, E.trans (E3.trans E4)⟩


theorem hasB_append (l m : List Int) (x : Int) : hasB (l ++ m) x = (hasB l x || hasB m x) := by simp [hasB]
theorem hasB_not (l : List Int) : hasB (l.map notF) 0 = hasB l 1 ∧ hasB (l.map notF) 1 = hasB l 0 ∧ hasB (l.map notF) 2 = hasB l 2 := by
  induction l with
  | nil => simp [hasB]
  | cons y t ih =>
    obtain ⟨h0, h1, h2⟩ := ih
    simp only [hasB] at h0 h1 h2
    have k0 : hit 0 (notF y) = hit 1 y := by unfold hit notF; grind
    have k1 : hit 1 (notF y) = hit 0 y := by unfold hit notF; grind
    have k2 : hit 2 (notF y) = hit 2 y := by unfold hit notF; grind
    simp [hasB, h0, h1, h2, k0, k1, k2]
theorem turn1 (l : List Int) : (notF (andF l) == orF (l.map notF)) = true := by
  obtain ⟨h0, h1, h2⟩ := hasB_not l
  rw [andR_eq, orR_eq, h1, h2]
  cases hasB l 0 <;> cases hasB l 2 <;> rfl
theorem turn2 (l : List Int) : (notF (orF l) == andF (l.map notF)) = true := by
  obtain ⟨h0, h1, h2⟩ := hasB_not l
  rw [andR_eq, orR_eq, h0, h2]
  cases hasB l 1 <;> cases hasB l 2 <;> rfl
theorem turn3 (l m : List Int) : (andF [andF l, andF m] == andF (l ++ m)) = true := by
  rw [andR_eq l, andR_eq m, andR_eq (l ++ m), hasB_append, hasB_append]
  cases hasB l 0 <;> cases hasB l 2 <;> cases hasB m 0 <;> cases hasB m 2 <;> rfl
theorem turn4 (l m : List Int) : (orF [orF l, orF m] == orF (l ++ m)) = true := by
  rw [orR_eq l, orR_eq m, orR_eq (l ++ m), hasB_append, hasB_append]
  cases hasB l 1 <;> cases hasB l 2 <;> cases hasB m 1 <;> cases hasB m 2 <;> rfl

theorem info_int : (Try.prog.info? 3).map (fun i => (i.zero, i.size, i.bytes)) = some (some (.int .i64 0), 1, 8) := by kernel_rfl

set_option maxRecDepth 100000 in
set_option maxHeartbeats 1000000 in
theorem turned_any (a : Option Addr) (c : Nat) (l : List Int) (b : Option Addr) (d : Nat) (m : List Int) (w : World) (hl : ISl w a l) (hm : ISl w b m) (hlc : l.length ≤ c) :
    Calls Try.prog 4 #[.slice a l.length c, .slice b m.length d] w fun e w' => e = .returned (.bool true) ∧ Ext w w' := by
  obtain ⟨i0, hi, hz0, hz1, hz2⟩ := info_parts info_int
  have hl0 := hl.1
  have hm0 := hm.1
  by_cases h : (30 : Int) < (l.length : Int)
  · go_enter Try.func4, Try.ntmps4
    go_wp2_with (go_at_call 13; refine (awake14_any _).mono ?_; rintro e w1 ⟨rfl, E1⟩)
    go_ret
    exact ⟨rfl, E1⟩
  by_cases h' : (30 : Int) < (m.length : Int)
  · have hd : decide ((30 : Int) < (l.length : Int)) = false := by simpa using h
    go_enter Try.func4, Try.ntmps4
    go_wp2_with (go_at_call 13; refine (awake14_any _).mono ?_; rintro e w1 ⟨rfl, E1⟩)
    go_ret
    exact ⟨rfl, E1⟩
  have hd : decide ((30 : Int) < (l.length : Int)) = false := by simpa using h
  have hd' : decide ((30 : Int) < (m.length : Int)) = false := by simpa using h'
  go_enter Try.func4, Try.ntmps4
  go_wp2_with fail
  go_loopw [5, 6] (fun v i wr => ∃ j : Nat, j ≤ l.length ∧ i = .int .i64 j ∧ Ext w wr ∧ IOwn wr 3 w.heap.size v ((l.take j).map notF)) (fun _ i _ => l.length - (intOf i).toNat)
  case atStart => exact ⟨0, Nat.zero_le _, rfl, Ext.refl _, IOwn.nil _ _ _⟩
  case round =>
    obtain ⟨j, hj, rfl, E, hO⟩ := hrel
    by_cases hjt : j < l.length
    · have HS : Hid ((l.take (j + 1)).map notF = (l.take j).map notF ++ [notF (l.getD j 0)]) := by
        rw [Hid, List.take_succ_eq_append_getElem hjt, List.map_append]; simp [hjt]
      have hN : ((l.take j).map notF).length = j := by simp; omega
      obtain ⟨bb, off, rfl, hc⟩ := hl.2 j hjt
      have hc := E.cellE hc
      generalize l.getD j 0 = y at hc HS
      generalize (l.take j).map notF = acc at hO HS hN
      have HN := Lib.hid hN
      clear hN
      unfold IOwn at hO
      have hB := E.size
      go_wp2_with fail
      refine (not_any _ _).mono ?_; rintro e w1 ⟨rfl, rfl⟩
      go_wp2_with (at_builtin; refine wp_own_append _ rfl _ _ 22 rfl w.heap.size 3 i0 (.int .i64 0) 1 8 Try.underlying22 hi hz0 hz1 hz2 rfl (by decide) _ _ _ rfl (hO.alloc _) ⟨wr.heap.size, 0, none⟩ 1 1 [.int .i64 (notF y)] rfl rfl ?c1 ?c2 ?c3 ?c4 ?c5 ?_)
      case c1 => exact cells_new1 wr #[.int .i64 (notF y)] _
      case c2 => simp [Value.oneCell']
      case c3 => rw [HN.out]; simp only [maxLen]; omega
      case c4 => rw [HN.out]; omega
      case c5 => simp; omega
      intro v' w1 hO' hG
      have E1 := hG.ext (E.al _) (hO.alloc _)
      go_wp2_with fail
      go_roundw
      case rel => exact ⟨j + 1, by omega, by go_num, E1, by rw [IOwn, HS.out]; simpa using hO'⟩
      case measure => simp [intOf]; omega
    · have hn : l.take j = l := List.take_of_length_le (by omega)
      rw [hn] at hO
      clear hn
      obtain ⟨a2, c2, rfl, hN⟩ := hO.isl
      clear hO
      have hl := hl.ext E
      have hm := hm.ext E
      go_wp2_with (at_builtin; refine wp_append_full _ rfl _ _ 22 rfl 3 i0 (.int .i64 0) 1 8 Try.underlying22 hi hz0 hz1 hz2 rfl (by decide) a l.length (l.map (Value.int .i64)) rfl ?c1 ?c2 hl.cellsAt b m.length d (m.map (Value.int .i64)) rfl ?c3 ?c4 hm.cellsAt ?c5 ?c6 ?c7 ?_)
      case c1 => intro h; subst h; exact hl.none
      case c2 => simp
      case c3 => intro h; subst h; exact hm.none
      case c4 => simp
      case c5 => simp [Value.oneCell']
      case c6 => simp only [maxLen]; omega
      case c7 => omega
      intro v' w1 E1 hcase
      obtain ⟨a3, c3, rfl, hA⟩ : ∃ a3 c3, v' = .slice a3 (l ++ m).length c3 ∧ ISl w1 a3 (l ++ m) := by
        rcases hcase with ⟨h0, rfl, rfl⟩ | hO
        · have : m = [] := by first | exact h0 | exact List.eq_nil_of_length_eq_zero h0
          subst this
          exact ⟨a, l.length, by simp, by simpa using hl⟩
        · exact ISl.own hO (by simp) (by simp)
      have hl := hl.ext E1
      have hm := hm.ext E1
      have hN := hN.ext E1
      have E := E.trans E1
      clear hcase E1
      have T1 := turn1 l
      have T2 := turn2 l
      have T3 := turn3 l m
      have T4 := turn4 l m
      go_wp2_with fail
      refine (and_any _ _ l _ hl).mono ?_; rintro e w2 ⟨rfl, E2⟩
      have hl := hl.ext E2; have hm := hm.ext E2; have hN := hN.ext E2; have hA := hA.ext E2; have E := E.trans E2; clear E2
      go_wp2_with fail
      refine (not_any _ _).mono ?_; rintro e w2' ⟨rfl, rfl⟩
      go_wp2_with fail
      refine (or_c _ _ _ _ _ _ hN (by simp) rfl).mono ?_; rintro e w3 ⟨rfl, E2⟩
      have hl := hl.ext E2; have hm := hm.ext E2; have hN := hN.ext E2; have hA := hA.ext E2; have E := E.trans E2; clear E2
      go_wp2_with fail
      refine (or_any _ _ l _ hl).mono ?_; rintro e w2 ⟨rfl, E2⟩
      have hl := hl.ext E2; have hm := hm.ext E2; have hN := hN.ext E2; have hA := hA.ext E2; have E := E.trans E2; clear E2
      go_wp2_with fail
      refine (not_any _ _).mono ?_; rintro e w2' ⟨rfl, rfl⟩
      go_wp2_with fail
      refine (and_c _ _ _ _ _ _ hN (by simp) rfl).mono ?_; rintro e w3 ⟨rfl, E2⟩
      have hl := hl.ext E2; have hm := hm.ext E2; have hA := hA.ext E2; have E := E.trans E2; clear E2
      go_wp2_with fail
      refine (and_any _ _ l _ hl).mono ?_; rintro e w2 ⟨rfl, E2⟩
      have hl := hl.ext E2; have hm := hm.ext E2; have hA := hA.ext E2; have E := E.trans E2; clear E2
      go_wp2_with fail
      refine (and_any _ _ m _ hm).mono ?_; rintro e w2 ⟨rfl, E2⟩
      have hl := hl.ext E2; have hm := hm.ext E2; have hA := hA.ext E2; have E := E.trans E2; clear E2
      go_wp2_with fail
      refine (and_c [andF l, andF m] _ _ _ _ _ (ISl.new _ [andF l, andF m] (by simp) _) rfl rfl).mono ?_; rintro e w2 ⟨rfl, E2⟩
      have E2 := ((Ext.refl _).al _).trans E2
      have hl := hl.ext E2; have hm := hm.ext E2; have hA := hA.ext E2; have E := E.trans E2; clear E2
      go_wp2_with fail
      refine (and_c _ _ _ _ _ _ hA (by simp) rfl).mono ?_; rintro e w2 ⟨rfl, E2⟩
      have hl := hl.ext E2; have hm := hm.ext E2; have hA := hA.ext E2; have E := E.trans E2; clear E2
      go_wp2_with fail
      refine (or_any _ _ l _ hl).mono ?_; rintro e w2 ⟨rfl, E2⟩
      have hl := hl.ext E2; have hm := hm.ext E2; have hA := hA.ext E2; have E := E.trans E2; clear E2
      go_wp2_with fail
      refine (or_any _ _ m _ hm).mono ?_; rintro e w2 ⟨rfl, E2⟩
      have hA := hA.ext E2; have E := E.trans E2; clear E2
      go_wp2_with fail
      refine (or_c [orF l, orF m] _ _ _ _ _ (ISl.new _ [orF l, orF m] (by simp) _) rfl rfl).mono ?_; rintro e w2 ⟨rfl, E2⟩
      have E2 := ((Ext.refl _).al _).trans E2
      have hA := hA.ext E2; have E := E.trans E2; clear E2
      go_wp2_with fail
      refine (or_c _ _ _ _ _ _ hA (by simp) rfl).mono ?_; rintro e w2 ⟨rfl, E2⟩
      have E := E.trans E2; clear E2
      go_wp2_with fail
      refine (awake14_any _).mono ?_; rintro e w2 ⟨rfl, E2⟩
      have E := E.trans E2; clear E2
      go_wp2_with fail
      go_ret
      exact ⟨rfl, E⟩

end Go.Proofs.Ytecfcamlnfmebaa
