/- limits' methods: what they answer and what they leave of the map. -/
import Derived.Test.YtecfcamlnfmebaaRows
import Derived.Test.YtecfcamlnfmebaaMaps
import Derived.Handy
import Derived.StillTailTactics
namespace Go.Proofs.Ytecfcamlnfmebaa
open Go.RowKit Go.Bo

def shV (p : Int × Int) : Value := .agg #[.int .i64 p.1, .int .i64 p.2]

/-- Block b is limits: the shares, how much comes each time, how much there is at most. -/
def Lim (w : World) (b r : Nat) (each most : Int) (l : List (ByteArray × (Int × Int))) : Prop :=
  w.heap[b]? = some (.cells #[.map (some r), .int .i64 each, .int .i64 most] 85 (0, 0)) ∧ MapK Value.string w r (l.map fun p => (p.1, shV p.2)) ∧ b ≠ r ∧
  (1 ≤ each ∧ each ≤ 1048576 ∧ 1 ≤ most ∧ most ≤ 1073741824) ∧ ∀ p ∈ l, 0 ≤ p.2.1 ∧ p.2.1 ≤ most ∧ 0 ≤ p.2.2 ∧ p.2.2 ≤ 1099511627776

theorem new_no (each most : Int) (w : World) (h : ¬ (1 ≤ each ∧ each ≤ 1048576 ∧ 1 ≤ most ∧ most ≤ 1073741824)) :
    Calls Try.prog 23 #[.int .i64 each, .int .i64 most] w fun e w' => e = .returned (.tuple #[.pointer none, .int .i64 1]) ∧ w = w' := by
  have hc : decide (each < 1) = true ∨ (decide (each < 1) = false ∧ decide (1048576 < each) = true) ∨ (decide (each < 1) = false ∧ decide (1048576 < each) = false ∧ decide (most < 1) = true) ∨
      (decide (each < 1) = false ∧ decide (1048576 < each) = false ∧ decide (most < 1) = false ∧ decide (1073741824 < most) = true) := by
    simp only [decide_eq_true_eq, decide_eq_false_iff_not]; omega
  rcases hc with h1 | ⟨h1, h2⟩ | ⟨h1, h2, h3⟩ | ⟨h1, h2, h3, h4⟩
  all_goals
    go_enter Try.func23, Try.ntmps23
    go_wp2_with fail
    go_ret2
    exact ⟨rfl, rfl⟩

theorem new_ok (each most : Int) (w : World) (h : 1 ≤ each ∧ each ≤ 1048576 ∧ 1 ≤ most ∧ most ≤ 1073741824) :
    Calls Try.prog 23 #[.int .i64 each, .int .i64 most] w fun e w' => ∃ b r, e = .returned (.tuple #[.pointer (some ⟨b, 0, none⟩), .int .i64 0]) ∧ Ext w w' ∧ Lim w' b r each most [] ∧ w.heap.size ≤ b ∧ w.heap.size ≤ r := by
  have hc : decide (each < 1) = false ∧ decide (1048576 < each) = false ∧ decide (most < 1) = false ∧ decide (1073741824 < most) = false := by
    simp only [decide_eq_false_iff_not]; omega
  obtain ⟨h1, h2, h3, h4⟩ := hc
  have hmm := @run_makeMap Try.prog
  go_enter Try.func23, Try.ntmps23
  go_wp2_with fail
  go_ret2
  refine ⟨w.heap.size + 1, w.heap.size, rfl, (by (repeat' (first | exact Ext.refl _ | (with_reducible assumption) | refine Ext.al ?_ _ | refine Ext.dr ?_ | refine Ext.drN ?_ _ | refine Ext.st ?_ ?_ _)); all_goals first | exact Nat.le_refl _ | omega | (simp; done) | (simp; omega)), ⟨?_, ?_, by omega, h, by simp⟩, by omega, Nat.le_refl _⟩
  · exact heap_alloc2_new w _ _
  · exact (MapK.new _ w).ext ((Ext.refl _).al _)

theorem at_nil (who : ByteArray) (now : Int) (w : World) :
    Calls Try.prog 46 #[.pointer none, .string who, .int .i64 now] w fun e w' => e = .returned (.tuple #[shV (0, 0), .bool false]) ∧ Ext w w' := by
  go_enter Try.func46, Try.ntmps46
  go_wp2_with fail
  exact bodyPost_ret (v := .tuple #[shV (0, 0), .bool false]) (by simp [results, Try.results46, go_sem, shV]) rfl ⟨rfl, (Ext.refl _).al _⟩

/-- What of somebody's is there. -/
def shF (l : List (ByteArray × (Int × Int))) (most : Int) (who : ByteArray) : Int × Int := (mlook l who).getD (most, 0)
/-- How many there would be. -/
def lfF (each most n gap : Int) : Int := if gap > most / each then most else min most (n + gap * each)

theorem zero_share (w : World) : (zeroValue 87).run Try.prog w = .ok (.agg #[.int .i64 0, .int .i64 0]) w := by kernel_rfl

theorem at_out (b : Nat) (who : ByteArray) (now : Int) (w : World) (h : now < 0 ∨ 1099511627776 < now) :
    Calls Try.prog 46 #[.pointer (some ⟨b, 0, none⟩), .string who, .int .i64 now] w fun e w' => e = .returned (.tuple #[shV (0, 0), .bool false]) ∧ Ext w w' := by
  have hc : decide (now < 0) = true ∨ decide (now < 0) = false ∧ decide (1099511627776 < now) = true := by simp only [decide_eq_true_eq, decide_eq_false_iff_not]; omega
  rcases hc with h1 | ⟨h1, h2⟩
  all_goals
    go_enter Try.func46, Try.ntmps46
    go_wp2_with fail
    exact bodyPost_ret (v := .tuple #[shV (0, 0), .bool false]) (by simp [results, Try.results46, go_sem, shV]) rfl ⟨rfl, (Ext.refl _).al _⟩

set_option maxRecDepth 100000 in
set_option maxHeartbeats 1000000 in
theorem at_in (b r : Nat) (each most : Int) (l : List (ByteArray × (Int × Int))) (who : ByteArray) (now : Int) (w : World) (hL : Lim w b r each most l) (h0 : 0 ≤ now) (h1 : now ≤ 1099511627776) (n a : Int)
    (hs : shF l most who = (n, a)) (hn : 0 ≤ n ∧ n ≤ most) (ha : 0 ≤ a) (hle : a ≤ now) :
    Calls Try.prog 46 #[.pointer (some ⟨b, 0, none⟩), .string who, .int .i64 now] w fun e w' => e = .returned (.tuple #[shV (lfF each most n (now - a), now), .bool true]) ∧ Ext w w' := by
  obtain ⟨hb, hm, hne, ⟨q1, q2, q3, q4⟩, hall⟩ := hL
  have hbl : b < w.heap.size := (Array.getElem?_eq_some_iff.1 hb).1
  have c0 : w.cell? ⟨b, 0, none⟩ = some (.map (some r)) := by simp [World.cell?, hb]
  have c1 : w.cell? ⟨b, 1, none⟩ = some (.int .i64 each) := by simp [World.cell?, hb]
  have c2 : w.cell? ⟨b, 2, none⟩ = some (.int .i64 most) := by simp [World.cell?, hb]
  have d1 : decide (now < 0) = false := by simp; omega
  have d2 : decide (1099511627776 < now) = false := by simp; omega
  have hl : (mlook (l.map fun p => (p.1, shV p.2)) who = some (.agg #[.int .i64 n, .int .i64 a])) ∨ (mlook (l.map fun p => (p.1, shV p.2)) who = none ∧ n = most ∧ a = 0) := by
    unfold shF at hs
    rw [mlook_map]
    cases hf : mlook l who with
    | none => simp [hf] at hs ⊢; omega
    | some p => simp [hf] at hs ⊢; rw [hs]; rfl
  rcases hl with hl | ⟨hl, en, ea⟩
  · go_enter Try.func46, Try.ntmps46
    go_wp2_with (with_reducible refine wp_lookup_k keyString 83 9 87 _ _ _ rfl rfl _ Try.underlying83 Try.underlying9 (zero_share _) r _ who rfl rfl (MapK.ext hm (((Ext.refl _).al _))) ?_)
    go_quiet (fail)
    by_cases hg : most / each < now - a
    · have HF : Hid (lfF each most n (now - a) = most) := by simp [Hid, lfF, hg]
      go_wp2_with fail
      exact bodyPost_ret (v := .tuple #[.agg #[.int .i64 most, .int .i64 now], .bool true]) (by simp [results, Try.results46, go_sem]) rfl ⟨by rw [HF.out]; rfl, (by (repeat' (first | exact Ext.refl _ | (with_reducible assumption) | refine Ext.al ?_ _ | refine Ext.dr ?_ | refine Ext.drN ?_ _ | refine Ext.st ?_ ?_ _)); all_goals first | exact Nat.le_refl _ | omega | (simp; done) | (simp; omega))⟩
    · have HF1 : Hid (n + (now - a) * each ≤ most → lfF each most n (now - a) = n + (now - a) * each) := by simp only [Hid, lfF]; rw [if_neg (by omega)]; omega
      have HF2 : Hid (most ≤ n + (now - a) * each → lfF each most n (now - a) = most) := by simp only [Hid, lfF]; rw [if_neg (by omega)]; omega
      have hg' : decide (most / each < now - a) = false := by simpa using hg
      go_wp2_with fail
      have m1 : 0 ≤ (now - a) * each := Int.mul_nonneg (by omega) (by omega)
      have m2 : (now - a) * each ≤ most := by
        have := Int.mul_le_mul_of_nonneg_right (show now - a ≤ most / each by omega) (show 0 ≤ each by omega)
        have h3 : most / each * each ≤ most := Int.ediv_mul_le _ (by omega)
        omega
      have w1 : IntKind.i64.wrap ((now - a) * each) = (now - a) * each := IntWalk.i64_in _ (by omega)
      have w2 : IntKind.i64.wrap (n + (now - a) * each) = n + (now - a) * each := IntWalk.i64_in _ (by omega)
      clear hs hn hle
      refine wp_region_tail 15 (by kernel_rfl) (by kernel_rfl) ?_
      simp only [List.take_succ_cons, List.take_zero, List.drop_succ_cons, List.drop_zero]
      repeat (go_big_quiet_step (fail))
      refine wpQuiet_nil ?_
      go_wp2_with fail
      all_goals go_wp2_with fail
      all_goals first
        | exact bodyPost_ret (v := .tuple #[.agg #[.int .i64 (n + (now - a) * each), .int .i64 now], .bool true]) (by simp [results, Try.results46, go_sem]) rfl ⟨by rw [HF1.out (by omega)]; rfl, (by (repeat' (first | exact Ext.refl _ | (with_reducible assumption) | refine Ext.al ?_ _ | refine Ext.dr ?_ | refine Ext.drN ?_ _ | refine Ext.st ?_ ?_ _)); all_goals first | exact Nat.le_refl _ | omega | (simp; done) | (simp; omega))⟩
        | exact bodyPost_ret (v := .tuple #[.agg #[.int .i64 most, .int .i64 now], .bool true]) (by simp [results, Try.results46, go_sem]) rfl ⟨by rw [HF2.out (by omega)]; rfl, (by (repeat' (first | exact Ext.refl _ | (with_reducible assumption) | refine Ext.al ?_ _ | refine Ext.dr ?_ | refine Ext.drN ?_ _ | refine Ext.st ?_ ?_ _)); all_goals first | exact Nat.le_refl _ | omega | (simp; done) | (simp; omega))⟩
  · obtain rfl : most = n := en.symm
    subst ea
    go_enter Try.func46, Try.ntmps46
    go_wp2_with (with_reducible refine wp_lookup_k keyString 83 9 87 _ _ _ rfl rfl _ Try.underlying83 Try.underlying9 (zero_share _) r _ who rfl rfl (MapK.ext hm (((Ext.refl _).al _))) ?_)
    go_quiet (fail)
    by_cases hg : most / each < now
    · have HF : Hid (lfF each most most (now - 0) = most) := by simp [Hid, lfF, hg]
      go_wp2_with fail
      exact bodyPost_ret (v := .tuple #[.agg #[.int .i64 most, .int .i64 now], .bool true]) (by simp [results, Try.results46, go_sem]) rfl ⟨by rw [HF.out]; rfl, (by (repeat' (first | exact Ext.refl _ | (with_reducible assumption) | refine Ext.al ?_ _ | refine Ext.dr ?_ | refine Ext.drN ?_ _ | refine Ext.st ?_ ?_ _)); all_goals first | exact Nat.le_refl _ | omega | (simp; done) | (simp; omega))⟩
    · have HF1 : Hid (most + now * each ≤ most → lfF each most most (now - 0) = most + now * each) := by simp only [Hid, lfF, Int.sub_zero]; rw [if_neg (by omega)]; omega
      have HF2 : Hid (most ≤ most + now * each → lfF each most most (now - 0) = most) := by simp only [Hid, lfF, Int.sub_zero]; rw [if_neg (by omega)]; omega
      have hg' : decide (most / each < now) = false := by simpa using hg
      go_wp2_with fail
      have m1 : 0 ≤ now * each := Int.mul_nonneg (by omega) (by omega)
      have m2 : now * each ≤ most := by
        have := Int.mul_le_mul_of_nonneg_right (show now ≤ most / each by omega) (show 0 ≤ each by omega)
        have h3 : most / each * each ≤ most := Int.ediv_mul_le _ (by omega)
        omega
      have w1 : IntKind.i64.wrap (now * each) = now * each := IntWalk.i64_in _ (by omega)
      have w2 : IntKind.i64.wrap (most + now * each) = most + now * each := IntWalk.i64_in _ (by omega)
      clear hs
      refine wp_region_tail 15 (by kernel_rfl) (by kernel_rfl) ?_
      simp only [List.take_succ_cons, List.take_zero, List.drop_succ_cons, List.drop_zero]
      repeat (go_big_quiet_step (fail))
      refine wpQuiet_nil ?_
      go_wp2_with fail
      all_goals go_wp2_with fail
      all_goals first
        | exact bodyPost_ret (v := .tuple #[.agg #[.int .i64 (most + now * each), .int .i64 now], .bool true]) (by simp [results, Try.results46, go_sem]) rfl ⟨by rw [HF1.out (by omega)]; rfl, (by (repeat' (first | exact Ext.refl _ | (with_reducible assumption) | refine Ext.al ?_ _ | refine Ext.dr ?_ | refine Ext.drN ?_ _ | refine Ext.st ?_ ?_ _)); all_goals first | exact Nat.le_refl _ | omega | (simp; done) | (simp; omega))⟩
        | exact bodyPost_ret (v := .tuple #[.agg #[.int .i64 most, .int .i64 now], .bool true]) (by simp [results, Try.results46, go_sem]) rfl ⟨by rw [HF2.out (by omega)]; rfl, (by (repeat' (first | exact Ext.refl _ | (with_reducible assumption) | refine Ext.al ?_ _ | refine Ext.dr ?_ | refine Ext.drN ?_ _ | refine Ext.st ?_ ?_ _)); all_goals first | exact Nat.le_refl _ | omega | (simp; done) | (simp; omega))⟩

set_option maxRecDepth 100000 in
set_option maxHeartbeats 1000000 in
theorem at_late (b r : Nat) (each most : Int) (l : List (ByteArray × (Int × Int))) (who : ByteArray) (now : Int) (w : World) (hL : Lim w b r each most l) (h0 : 0 ≤ now) (h1 : now ≤ 1099511627776) (n a : Int)
    (hs : shF l most who = (n, a)) (hle : now < a) :
    Calls Try.prog 46 #[.pointer (some ⟨b, 0, none⟩), .string who, .int .i64 now] w fun e w' => e = .returned (.tuple #[shV (0, 0), .bool false]) ∧ Ext w w' := by
  obtain ⟨hb, hm, hne, ⟨q1, q2, q3, q4⟩, hall⟩ := hL
  have hbl : b < w.heap.size := (Array.getElem?_eq_some_iff.1 hb).1
  have c0 : w.cell? ⟨b, 0, none⟩ = some (.map (some r)) := by simp [World.cell?, hb]
  have c2 : w.cell? ⟨b, 2, none⟩ = some (.int .i64 most) := by simp [World.cell?, hb]
  have d1 : decide (now < 0) = false := by simp; omega
  have d2 : decide (1099511627776 < now) = false := by simp; omega
  have hl : (mlook (l.map fun p => (p.1, shV p.2)) who = some (.agg #[.int .i64 n, .int .i64 a])) := by
    unfold shF at hs
    rw [mlook_map]
    cases hf : mlook l who with
    | none => simp [hf] at hs; omega
    | some p => simp [hf] at hs ⊢; rw [hs]; rfl
  go_enter Try.func46, Try.ntmps46
  go_wp2_with (with_reducible refine wp_lookup_k keyString 83 9 87 _ _ _ rfl rfl _ Try.underlying83 Try.underlying9 (zero_share _) r _ who rfl rfl (MapK.ext hm (((Ext.refl _).al _))) ?_)
  exact bodyPost_ret (v := .tuple #[shV (0, 0), .bool false]) (by simp [results, Try.results46, go_sem, shV]) rfl ⟨rfl, (by (repeat' (first | exact Ext.refl _ | (with_reducible assumption) | refine Ext.al ?_ _ | refine Ext.dr ?_ | refine Ext.drN ?_ _ | refine Ext.st ?_ ?_ _)); all_goals first | exact Nat.le_refl _ | omega | (simp; done) | (simp; omega))⟩


theorem shF_bd {w : World} {b r : Nat} {each most : Int} {l : List (ByteArray × (Int × Int))} (hL : Lim w b r each most l) (who : ByteArray) :
    0 ≤ (shF l most who).1 ∧ (shF l most who).1 ≤ most ∧ 0 ≤ (shF l most who).2 ∧ (shF l most who).2 ≤ 1099511627776 := by
  obtain ⟨hb, hm, hne, ⟨q1, q2, q3, q4⟩, hall⟩ := hL
  unfold shF
  cases hf : mlook l who with
  | none => simp; omega
  | some p => exact hall _ (mlook_mem hf)

/-- Somebody's share at a time, and whether the time may be. -/
def atF (each most : Int) (l : List (ByteArray × (Int × Int))) (who : ByteArray) (now : Int) : (Int × Int) × Bool :=
  if 0 ≤ now ∧ now ≤ 1099511627776 ∧ (shF l most who).2 ≤ now then ((lfF each most (shF l most who).1 (now - (shF l most who).2), now), true) else ((0, 0), false)

theorem at_any (b r : Nat) (each most : Int) (l : List (ByteArray × (Int × Int))) (who : ByteArray) (now : Int) (w : World) (hL : Lim w b r each most l) :
    Calls Try.prog 46 #[.pointer (some ⟨b, 0, none⟩), .string who, .int .i64 now] w fun e w' => e = .returned (.tuple #[.agg #[.int .i64 (atF each most l who now).1.1, .int .i64 (atF each most l who now).1.2], .bool (atF each most l who now).2]) ∧ Ext w w' := by
  have hbd := shF_bd hL who
  unfold atF
  by_cases h1 : 0 ≤ now ∧ now ≤ 1099511627776
  · by_cases h2 : (shF l most who).2 ≤ now
    · rw [if_pos ⟨h1.1, h1.2, h2⟩]
      exact at_in b r each most l who now w hL h1.1 h1.2 (shF l most who).1 (shF l most who).2 rfl ⟨hbd.1, hbd.2.1⟩ hbd.2.2.1 h2
    · rw [if_neg (fun h => h2 h.2.2)]
      exact at_late b r each most l who now w hL h1.1 h1.2 (shF l most who).1 (shF l most who).2 rfl (by omega)
  · rw [if_neg (fun h => h1 ⟨h.1, h.2.1⟩)]
    exact at_out b who now w (by omega)

theorem left_any (b r : Nat) (each most : Int) (l : List (ByteArray × (Int × Int))) (who : ByteArray) (now : Int) (w : World) (hL : Lim w b r each most l) :
    Calls Try.prog 25 #[.pointer (some ⟨b, 0, none⟩), .string who, .int .i64 now] w fun e w' => e = .returned (.int .i64 (atF each most l who now).1.1) ∧ Ext w w' := by
  have c1 := at_any b r each most l who now w hL
  generalize atF each most l who now = f at c1
  obtain ⟨⟨x, y⟩, z⟩ := f
  have C1 := Lib.hid c1
  clear c1
  go_enter Try.func25, Try.ntmps25
  go_wp2_with fail
  refine C1.out.mono ?_; rintro e w1 ⟨rfl, E1⟩
  go_wp2_with fail
  go_ret
  exact ⟨rfl, (by (repeat' (first | exact Ext.refl _ | (with_reducible assumption) | refine Ext.al ?_ _ | refine Ext.dr ?_ | refine Ext.drN ?_ _ | refine Ext.st ?_ ?_ _)); all_goals first | exact Nat.le_refl _ | omega | (simp; done) | (simp; omega))⟩
theorem left_nil (who : ByteArray) (now : Int) (w : World) :
    Calls Try.prog 25 #[.pointer none, .string who, .int .i64 now] w fun e w' => e = .returned (.int .i64 0) ∧ Ext w w' := by
  go_enter Try.func25, Try.ntmps25
  go_wp2_with fail
  refine (at_nil _ _ _).mono ?_; rintro e w1 ⟨rfl, E1⟩
  unfold shV
  go_wp2_with fail
  go_ret
  exact ⟨rfl, (by (repeat' (first | exact Ext.refl _ | (with_reducible assumption) | refine Ext.al ?_ _ | refine Ext.dr ?_ | refine Ext.drN ?_ _ | refine Ext.st ?_ ?_ _)); all_goals first | exact Nat.le_refl _ | omega | (simp; done) | (simp; omega))⟩
theorem take_nil (who : ByteArray) (now n : Int) (w : World) :
    Calls Try.prog 26 #[.pointer none, .string who, .int .i64 now, .int .i64 n] w fun e w' => e = .returned (.bool false) ∧ Ext w w' := by
  go_enter Try.func26, Try.ntmps26
  go_wp2_with fail
  refine (at_nil _ _ _).mono ?_; rintro e w1 ⟨rfl, E1⟩
  unfold shV
  go_wp2_with fail
  go_ret
  exact ⟨rfl, (by (repeat' (first | exact Ext.refl _ | (with_reducible assumption) | refine Ext.al ?_ _ | refine Ext.dr ?_ | refine Ext.drN ?_ _ | refine Ext.st ?_ ?_ _)); all_goals first | exact Nat.le_refl _ | omega | (simp; done) | (simp; omega))⟩

/-- What a take answers, and what is left of the shares. -/
def takeF (each most : Int) (l : List (ByteArray × (Int × Int))) (who : ByteArray) (now n : Int) : Bool × List (ByteArray × (Int × Int)) :=
  let f := atF each most l who now
  if f.2 = true ∧ 1 ≤ n then (if n ≤ f.1.1 then (true, mset l who (f.1.1 - n, now)) else (false, mset l who (f.1.1, now))) else (false, l)

theorem Lim.ext {w w' : World} {b r : Nat} {each most : Int} {l : List (ByteArray × (Int × Int))} (h : Lim w b r each most l) (e : Ext w w') : Lim w' b r each most l := by
  obtain ⟨h1, h2, h3, h4, h5⟩ := h
  exact ⟨by rw [Below.block e b (Array.getElem?_eq_some_iff.1 h1).1]; exact h1, h2.ext e, h3, h4, h5⟩

theorem lim_set {w W w2 : World} {b r : Nat} {each most : Int} {l : List (ByteArray × (Int × Int))} (hL : Lim w b r each most l) (E : Ext w W) (hO : Only r W w2) (who : ByteArray) (s : Int × Int)
    (hM : MapK Value.string w2 r (mset (l.map fun p => (p.1, shV p.2)) who (shV s))) (hs : 0 ≤ s.1 ∧ s.1 ≤ most ∧ 0 ≤ s.2 ∧ s.2 ≤ 1099511627776) : Lim w2 b r each most (mset l who s) ∧ w.grownBy w2 (some r) := by
  have hL' := hL.ext E
  obtain ⟨h1, h2, h3, h4, h5⟩ := hL'
  refine ⟨⟨by rw [hO.block b h3]; exact h1, by rw [← mset_map]; exact hM, h3, h4, fun p hp => ?_⟩, ?_⟩
  · rcases mset_mem hp with rfl | hp
    · exact hs
    · exact h5 p hp
  · exact ⟨hO.os.trans E.os, hO.tape.trans E.tape, hO.output.trans E.output, by rw [hO.size]; exact E.size, fun k hk hr => by rw [hO.block k (fun h => hr (by rw [h]))]; exact Below.block E k hk⟩

theorem take_any (b r : Nat) (each most : Int) (l : List (ByteArray × (Int × Int))) (who : ByteArray) (now n : Int) (w : World) (hL : Lim w b r each most l) (hn : -9223372036854775808 ≤ n ∧ n ≤ 9223372036854775807) :
    Calls Try.prog 26 #[.pointer (some ⟨b, 0, none⟩), .string who, .int .i64 now, .int .i64 n] w fun e w' => e = .returned (.bool (takeF each most l who now n).1) ∧ w.grownBy w' (some r) ∧ Lim w' b r each most (takeF each most l who now n).2 := by
  have c1 := at_any b r each most l who now w hL
  have hb : (atF each most l who now).2 = true → (atF each most l who now).1.2 = now ∧ 0 ≤ now ∧ now ≤ 1099511627776 ∧ 0 ≤ (atF each most l who now).1.1 ∧ (atF each most l who now).1.1 ≤ most := by
    have hbd := shF_bd hL who
    unfold atF
    split
    · rename_i h
      intro _
      refine ⟨rfl, h.1, h.2.1, ?_, ?_⟩
      · simp only [lfF]
        have := Int.mul_nonneg (show 0 ≤ now - (shF l most who).2 by omega) (show 0 ≤ each by have := hL.2.2.2.1; omega)
        split <;> omega
      · simp only [lfF]
        split <;> omega
    · intro h; cases h
  have hLb := hL.1
  have hbl : b < w.heap.size := (Array.getElem?_eq_some_iff.1 hLb).1
  have c0 : w.cell? ⟨b, 0, none⟩ = some (.map (some r)) := by simp [World.cell?, hLb]
  unfold takeF
  generalize atF each most l who now = f at c1 hb
  obtain ⟨⟨x, y⟩, z⟩ := f
  have C1 := Lib.hid c1
  clear c1
  simp only at hb ⊢
  cases z with
  | false =>
    clear hb
    rw [if_neg (by simp)]
    go_enter Try.func26, Try.ntmps26
    go_wp2_with fail
    refine C1.out.mono ?_; rintro e w1 ⟨rfl, E1⟩
    go_wp2_with fail
    go_ret
    have E : Ext w w1 := E1
    exact ⟨rfl, E.grown_al r _, hL.ext ((by (repeat' (first | exact Ext.refl _ | (with_reducible assumption) | refine Ext.al ?_ _ | refine Ext.dr ?_ | refine Ext.drN ?_ _ | refine Ext.st ?_ ?_ _)); all_goals first | exact Nat.le_refl _ | omega | (simp; done) | (simp; omega)))⟩
  | true =>
    obtain ⟨ey, y0, y1, x0, x1⟩ := hb rfl
    obtain rfl : now = y := ey.symm
    obtain ⟨-, -, -, q4⟩ := hL.2.2.2.1
    clear hb
    by_cases h1 : 1 ≤ n
    · rw [if_pos ⟨rfl, h1⟩]
      have d1 : decide (n < 1) = false := by simp; omega
      by_cases h2 : n ≤ x
      · rw [if_pos h2]
        go_enter Try.func26, Try.ntmps26
        go_wp2_with fail
        refine C1.out.mono ?_; rintro e w1 ⟨rfl, E1⟩
        have hbl1 := Nat.lt_of_lt_of_le hbl E1.size
        have c1 := E1.cellE c0
        go_wp2_with fail
        refine wp_region_tail 6 (by kernel_rfl) (by kernel_rfl) ?_
        simp only [List.take_succ_cons, List.take_zero, List.drop_succ_cons, List.drop_zero]
        repeat (go_big_quiet_step (fail))
        refine wpQuiet_nil ?_
        refine wp_mapUpdate_k keyString 83 9 87 _ _ _ rfl rfl Try.underlying83 Try.underlying9 r (l.map fun p => (p.1, shV p.2)) who (shV (x - n, now)) rfl rfl rfl (hL.2.1.ext (by (repeat' (first | exact Ext.refl _ | (with_reducible assumption) | refine Ext.al ?_ _ | refine Ext.dr ?_ | refine Ext.drN ?_ _ | refine Ext.st ?_ ?_ _)); all_goals first | exact Nat.le_refl _ | omega | (simp; done) | (simp; omega))) ?_
        intro w2 hO hM
        have hfin := lim_set hL (by (repeat' (first | exact Ext.refl _ | (with_reducible assumption) | refine Ext.al ?_ _ | refine Ext.dr ?_ | refine Ext.drN ?_ _ | refine Ext.st ?_ ?_ _)); all_goals first | exact Nat.le_refl _ | omega | (simp; done) | (simp; omega)) hO who (x - n, now) hM ⟨by omega, by omega, by omega, by omega⟩
        go_wp2_with fail
        go_ret
        exact ⟨rfl, hfin.2, hfin.1⟩
      · rw [if_neg h2]
        have d2 : decide (n ≤ x) = false := by simp; omega
        go_enter Try.func26, Try.ntmps26
        go_wp2_with fail
        refine C1.out.mono ?_; rintro e w1 ⟨rfl, E1⟩
        have hbl1 := Nat.lt_of_lt_of_le hbl E1.size
        have c1 := E1.cellE c0
        go_wp2_with fail
        refine wp_region_tail 6 (by kernel_rfl) (by kernel_rfl) ?_
        simp only [List.take_succ_cons, List.take_zero, List.drop_succ_cons, List.drop_zero]
        repeat (go_big_quiet_step (fail))
        refine wpQuiet_nil ?_
        refine wp_mapUpdate_k keyString 83 9 87 _ _ _ rfl rfl Try.underlying83 Try.underlying9 r (l.map fun p => (p.1, shV p.2)) who (shV (x, now)) rfl rfl rfl (hL.2.1.ext (by (repeat' (first | exact Ext.refl _ | (with_reducible assumption) | refine Ext.al ?_ _ | refine Ext.dr ?_ | refine Ext.drN ?_ _ | refine Ext.st ?_ ?_ _)); all_goals first | exact Nat.le_refl _ | omega | (simp; done) | (simp; omega))) ?_
        intro w2 hO hM
        have hfin := lim_set hL (by (repeat' (first | exact Ext.refl _ | (with_reducible assumption) | refine Ext.al ?_ _ | refine Ext.dr ?_ | refine Ext.drN ?_ _ | refine Ext.st ?_ ?_ _)); all_goals first | exact Nat.le_refl _ | omega | (simp; done) | (simp; omega)) hO who (x, now) hM ⟨by omega, by omega, by omega, by omega⟩
        go_wp2_with fail
        go_ret
        exact ⟨rfl, hfin.2, hfin.1⟩
    · rw [if_neg (fun h => h1 h.2)]
      have d1 : decide (n < 1) = true := by simp; omega
      go_enter Try.func26, Try.ntmps26
      go_wp2_with fail
      refine C1.out.mono ?_; rintro e w1 ⟨rfl, E1⟩
      go_wp2_with fail
      go_ret
      have E : Ext w w1 := E1
      exact ⟨rfl, E.grown_al r _, hL.ext ((by (repeat' (first | exact Ext.refl _ | (with_reducible assumption) | refine Ext.al ?_ _ | refine Ext.dr ?_ | refine Ext.drN ?_ _ | refine Ext.st ?_ ?_ _)); all_goals first | exact Nat.le_refl _ | omega | (simp; done) | (simp; omega)))⟩

end Go.Proofs.Ytecfcamlnfmebaa
