/- Tree: Check, Depth. -/
import Derived.Test.YtogmbfaijmhamaaBerP
set_option linter.unusedSimpArgs false
set_option linter.unusedVariables false
namespace Go.Proofs.Ytogmbfaijmhamaa
open Go.RowKit Go.Bo Go.Ab

theorem and32N : ∀ n : Fin 255, IntKind.i64.wrap ((BitVec.ofInt IntKind.i64.bits (n.val : Int) &&& BitVec.ofInt IntKind.i64.bits 32).toNat : Int) = if n.val / 32 % 2 = 0 then 0 else 32 := by decide +kernel
theorem and32 (t : Int) (h : 0 ≤ t ∧ t ≤ 254) : IntKind.i64.wrap ((BitVec.ofInt IntKind.i64.bits t &&& BitVec.ofInt IntKind.i64.bits 32).toNat : Int) = if t / 32 % 2 = 0 then 0 else 32 := by
  obtain ⟨n, rfl⟩ : ∃ n : Nat, t = n := ⟨t.toNat, by omega⟩
  rw [and32N ⟨n, by omega⟩]
  simp only
  split <;> split <;> omega
def p32 (t : Int) : Int := if t / 32 % 2 = 0 then 0 else 32
theorem p32_iff (t : Int) : p32 t = 0 ↔ t / 32 % 2 = 0 := by unfold p32; split <;> simp_all
/-- The first error. -/
def fst0 : List Int → Int
  | [] => 0
  | a :: r => if a = 0 then fst0 r else a
/-- Why what is told may not be, no deeper than m. -/
def chk : Nat → Tlv → Int
  | 0, _ => 7
  | m + 1, x => if x.1 / 32 % 2 = 0 then 0 else if (allB x.2.1).2 = 0 then fst0 ((allB x.2.1).1.map (chk m)) else (allB x.2.1).2
def okT (x : Tlv) : Prop := 0 ≤ x.1 ∧ x.1 ≤ 254 ∧ x.2.1.length ≤ 65536
theorem readB_okT (s : List UInt8) (h : (readB s).2.2 = 0) : okT (readB s).1 ∧ tagB (readB s).1.1 = true ∧ (readB s).1.2.1.length + 2 ≤ s.length := by
  unfold readB at h ⊢
  split at h
  · rename_i h0
    have hk := headB_ok s h0
    split at h
    · cases h
    · rename_i h1
      rw [if_pos h0, if_neg h1]
      obtain ⟨n, hn, hn2⟩ := tagB_nat hk.1
      refine ⟨⟨?_, ?_, ?_⟩, hk.1, ?_⟩ <;> simp only [List.length_drop, List.length_take] <;> omega
  · rename_i h0
    exact absurd h h0
theorem allF_okT : ∀ (k : Nat) (s : List UInt8) (out : List Tlv), (∀ x ∈ out, okT x ∧ tagB x.1 = true) → out.length ≤ 1024 → (allF k s out).1.length ≤ 1024 ∧ ∀ x ∈ (allF k s out).1, okT x ∧ tagB x.1 = true
  | 0, s, out, h, hl => ⟨hl, h⟩
  | k + 1, s, out, h, hl => by
    rw [allF]
    split
    · exact ⟨hl, h⟩
    · split
      · rename_i h0
        split
        · exact ⟨by simp, by simp⟩
        · refine allF_okT k _ _ ?_ (by simp; omega)
          intro x hx
          rcases List.mem_append.1 hx with hx | hx
          · exact h x hx
          · simp only [List.mem_singleton] at hx
            subst hx
            exact ⟨(readB_okT s h0).1, (readB_okT s h0).2.1⟩
      · exact ⟨by simp, by simp⟩
theorem allB_okT (s : List UInt8) : (allB s).1.length ≤ 1024 ∧ ∀ x ∈ (allB s).1, okT x ∧ tagB x.1 = true := allF_okT _ _ _ (by simp) (by simp)
theorem fst0_take {f : Tlv → Int} : ∀ (l : List Tlv) (j : Nat) (hj : j < l.length), fst0 ((l.take j).map f) = 0 → f l[j] ≠ 0 → fst0 (l.map f) = f l[j]
  | a :: r, 0, hj, _, h => by simp only [List.getElem_cons_zero] at h ⊢; simp [fst0, h]
  | a :: r, j + 1, hj, h0, h => by
    simp only [List.take_succ_cons, List.map_cons, fst0] at h0 ⊢
    split at h0
    · rename_i h1
      rw [if_pos h1]
      simp only [List.getElem_cons_succ] at h ⊢
      exact fst0_take r j (by simpa using hj) h0 h
    · rename_i h1; exact absurd h0 h1
theorem fst0_snoc {f : Tlv → Int} (l : List Tlv) (j : Nat) (hj : j < l.length) (h0 : fst0 ((l.take j).map f) = 0) (h : f l[j] = 0) : fst0 ((l.take (j + 1)).map f) = 0 := by
  rw [← List.take_append_getElem hj, List.map_append]
  generalize l.take j = q at h0
  induction q with
  | nil => simp [fst0, h]
  | cons a r ih =>
    simp only [List.map_cons, List.cons_append, fst0] at h0 ⊢
    split at h0
    · rename_i h1; rw [if_pos h1]; exact ih h0
    · rename_i h1; exact absurd h0 h1
def chkmG (m : Nat) : List D → Option (Bool × D)
  | [.agg [.x (.int .i64 t), .x (.str b)], .x (.int .i64 k)] => some (decide (k.toNat = m ∧ k ≤ 64 ∧ 0 ≤ t ∧ t ≤ 254 ∧ b.length ≤ 65536), .x (.int .i64 (chk m (t, b, ()))))
  | _ => none
theorem chkmG_ok (m : Nat) (ih : ∀ (t : Int) (b : List UInt8) (k : Int), k.toNat = m ∧ k ≤ 64 ∧ 0 ≤ t ∧ t ≤ 254 ∧ b.length ≤ 65536 → PCalls Try.prog 50 [.agg [.x (.int .i64 t), .x (.str b)], .x (.int .i64 k)] (.x (.int .i64 (chk m (t, b, ()))))) : ∀ args r, chkmG m args = some (true, r) → PCalls Try.prog 50 args r := by
  intro args r h
  unfold chkmG at h
  split at h
  · rename_i t b k
    simp only [Option.some.injEq, Prod.mk.injEq, Bool.and_eq_true, decide_eq_true_eq, true_and] at h
    obtain ⟨h1, rfl⟩ := h
    exact ih _ _ _ h1
  · cases h
def tabTr1 (g : List D → Option (Bool × D)) : Tabs := addQ (addQ (noTabs) 20 allG) 50 g
theorem tabTr1_ok (g : List D → Option (Bool × D)) (hg : ∀ args r, g args = some (true, r) → PCalls Try.prog 50 args r) : SsOk Try.prog (tabTr1 g) := addQ_ok (addQ_ok (noTabs_ok) (G_enters G_ok (p := i20) rfl) allG_ok) (G_enters G_ok (p := i50) rfl) hg
theorem tabTr1_q20 (g : List D → Option (Bool × D)) (a : List D) : (tabTr1 g).q 20 a = allG a := rfl
theorem tabTr1_q50 (g : List D → Option (Bool × D)) (a : List D) : (tabTr1 g).q 50 a = g a := rfl
theorem tabTr1_r (g : List D → Option (Bool × D)) (f : FuncId) (a : List D) (o : List Ob) : (tabTr1 g).r f a o = none := rfl
theorem tabTr1_k (g : List D → Option (Bool × D)) (f : FuncId) (a : List D) (o : List Ob) : (tabTr1 g).k f a o = none := rfl
theorem check_c : ∀ (m : Nat) (t : Int) (b : List UInt8) (k : Int), k.toNat = m ∧ k ≤ 64 ∧ 0 ≤ t ∧ t ≤ 254 ∧ b.length ≤ 65536 → PCalls Try.prog 50 [.agg [.x (.int .i64 t), .x (.str b)], .x (.int .i64 k)] (.x (.int .i64 (chk m (t, b, ()))))
  | 0, t, b, k, h => by
    have hk : k < 1 := by omega
    clear h
    refine FCalls.pure (fcallsG (fz := true) G_ok (p := i50) rfl _ (Nat.le_of_ble_eq_true rfl) _ (fun C0 E0 => ?_)) rfl
    dsimp only [i50, argsφ]
    have uu := trivial
    refine WI.seq ?_
    refine WI.regB noTabs_ok [1, 2] ?_
    refine oG ?_
    refine oS ?_
    refine oN ?_
    refine thenQ_normal ?_
    refine WI.seq ?_
    refine WI.seq ?_
    refine WI.regB noTabs_ok [1, 2, 11] ?_
    refine oS ?_
    refine oG ?_
    refine oN ?_
    refine thenQ_normal ?_
    refine WI.cond (b := _) rfl rfl (fun h0 => ?_) (fun h0 => ?_)
    · try simp only [zB] at h0
      refine WI.seq ?_
      refine WI.regB noTabs_ok [4] ?_
      refine oS ?_
      refine oN ?_
      refine thenQ_normal ?_
      refine WI.ret ?_
      refine thenQ_ret ?_
      first | refine lfR ?_ | refine lfR2 ?_
      rfl -- leaf 0
    · exfalso
      simp [hk] at h0
  | m + 1, t, b, k, h => by
    have ih := check_c m
    have hk : ¬ k < 1 := by omega
    have ht : 0 ≤ t ∧ t ≤ 254 := ⟨h.2.2.1, h.2.2.2.1⟩
    have hb := h.2.2.2.2
    have hk1 : (k - 1).toNat = m ∧ k - 1 ≤ 64 := by omega
    have hk2 : k ≤ 64 := h.2.1
    clear h
    have ha := allB_okT b
    have e32 : IntKind.i64.wrap ((BitVec.ofInt IntKind.i64.bits t &&& BitVec.ofInt IntKind.i64.bits 32).toNat : Int) = p32 t := and32 t ht
    refine FCalls.pure (fcallsG (fz := true) G_ok (p := i50) rfl _ (Nat.le_of_ble_eq_true rfl) _ (fun C0 E0 => ?_)) rfl
    dsimp only [i50, argsφ]
    have uu := And.intro @chkmG.eq_1 (And.intro @chkmG.eq_2 (And.intro @allG.eq_1 (And.intro @allG.eq_2 (And.intro @e32 (And.intro @tabTr1_r (And.intro @tabTr1_k (And.intro @tabTr1_q20 (@tabTr1_q50))))))))
    refine WI.seq ?_
    refine WI.regB (tabTr1_ok (chkmG m) (chkmG_ok m ih)) [1, 2] ?_
    refine oG ?_
    refine oS ?_
    refine oN ?_
    refine thenQ_normal ?_
    refine WI.seq ?_
    refine WI.seq ?_
    refine WI.regB (tabTr1_ok (chkmG m) (chkmG_ok m ih)) [1, 2, 11] ?_
    refine oS ?_
    refine oG ?_
    refine oN ?_
    refine thenQ_normal ?_
    refine WI.cond (b := _) rfl rfl (fun h0 => ?_) (fun h0 => ?_)
    · exfalso
      simp at h0; omega
    · try simp only [zB] at h0
      refine WI.skip ?_
      refine thenQ_normal ?_
      refine WI.seq ?_
      refine WI.seq ?_
      refine WI.regB (tabTr1_ok (chkmG m) (chkmG_ok m ih)) [1, 2, 15] ?_
      refine oS ?_
      iterate 3 refine oG ?_
      refine oN ?_
      refine thenQ_normal ?_
      refine WI.cond (b := _) rfl rfl (fun h1 => ?_) (fun h1 => ?_)
      · try simp only [zB] at h1
        refine WI.seq ?_
        refine WI.regB (tabTr1_ok (chkmG m) (chkmG_ok m ih)) [4] ?_
        refine oS ?_
        refine oN ?_
        refine thenQ_normal ?_
        refine WI.ret ?_
        refine thenQ_ret ?_
        first | refine lfR ?_ | refine lfR2 ?_
        rw [chk, if_pos ((p32_iff t).1 h1)] -- leaf 0
      · try simp only [zB] at h1
        refine WI.skip ?_
        refine thenQ_normal ?_
        refine WI.seq ?_
        refine WI.regB (tabTr1_ok (chkmG m) (chkmG_ok m ih)) [1, 5, 6] ?_
        refine oS ?_
        refine oG ?_
        refine oC ?_
        refine oS ?_
        iterate 2 refine oG ?_
        iterate 2 refine oS ?_
        refine oN ?_
        refine thenQ_normal ?_
        refine WI.seq ?_
        refine WI.seq ?_
        refine WI.regB (tabTr1_ok (chkmG m) (chkmG_ok m ih)) [1, 5, 6, 23] ?_
        refine oS ?_
        refine oG ?_
        refine oN ?_
        refine thenQ_normal ?_
        refine WI.cond (b := _) rfl rfl (fun h2 => ?_) (fun h2 => ?_)
        · try simp only [zB] at h2
          refine WI.seq ?_
          refine WI.regB (tabTr1_ok (chkmG m) (chkmG_ok m ih)) [4] ?_
          iterate 2 refine oS ?_
          refine oN ?_
          refine thenQ_normal ?_
          refine WI.ret ?_
          refine thenQ_ret ?_
          first | refine lfR ?_ | refine lfR2 ?_
          rw [chk, if_neg (fun e => h1 ((p32_iff t).2 e)), if_neg h2] -- leaf 1
        · try simp only [zB] at h2
          refine WI.skip ?_
          refine thenQ_normal ?_
          refine WI.seq ?_
          refine WI.seq ?_
          refine WI.regB (tabTr1_ok (chkmG m) (chkmG_ok m ih)) [1, 25, 26, 27] ?_
          refine oS ?_
          refine oG ?_
          refine oS ?_
          refine oN ?_
          refine thenQ_normal ?_
          refine WI.block ?_
          refine WI.loop (fun φ os => ∃ (j : Nat), φ = [(1, .x (.int .i64 k)), (25, .x (.sl (rows rTlv (allB b).1))), (26, .x (.int .i64 (allB b).1.length)), (27, .x (.int .i64 j))] ∧ os = [.box [.x (.int .i64 t), .x (.str b)]] ∧ j ≤ (allB b).1.length ∧ fst0 (((allB b).1.take j).map (chk m)) = 0) (down (allB b).1.length 27) ?_ (fun φ os hI => ?_)
          · exact ⟨0, rfl, rfl, by omega, rfl⟩
          · obtain ⟨j, rfl, rfl, hj, h0j⟩ := hI
            refine WI.seq ?_
            refine WI.regB (tabTr1_ok (chkmG m) (chkmG_ok m ih)) [1, 25, 26, 27, 28] ?_
            refine oG ?_
            refine oN ?_
            refine thenQ_normal ?_
            refine WI.seq ?_
            refine WI.cond (b := _) rfl rfl (fun h3 => ?_) (fun h3 => ?_)
            · try simp only [zB] at h3
              refine WI.skip ?_
              refine thenQ_normal ?_
              refine WI.seq ?_
              refine WI.block ?_
              refine WI.seq ?_
              refine WI.regB (tabTr1_ok (chkmG m) (chkmG_ok m ih)) [1, 8, 25, 26, 27] ?_
              iterate 4 refine oG ?_
              refine oN ?_
              refine thenQ_normal ?_
              refine WI.seq ?_
              have hj11 : j < (allB b).1.length := by simpa using h3
              have hx := (ha.2 _ (List.getElem_mem hj11)).1
              have hx1 := hx.1; have hx2 := hx.2.1; have hx3 := hx.2.2
              refine WI.regB (tabTr1_ok (chkmG m) (chkmG_ok m ih)) [1, 9, 25, 26, 27] ?_
              refine oG ?_
              refine oS ?_
              refine oG ?_
              refine oC ?_
              refine oS ?_
              refine oN ?_
              refine thenQ_normal ?_
              refine WI.seq ?_
              refine WI.regB (tabTr1_ok (chkmG m) (chkmG_ok m ih)) [1, 9, 25, 26, 27, 36] ?_
              refine oS ?_
              refine oG ?_
              refine oN ?_
              refine thenQ_normal ?_
              refine WI.cond (b := _) rfl rfl (fun h4 => ?_) (fun h4 => ?_)
              · try simp only [zB] at h4
                refine WI.seq ?_
                refine WI.regB (tabTr1_ok (chkmG m) (chkmG_ok m ih)) [4] ?_
                iterate 2 refine oS ?_
                refine oN ?_
                refine thenQ_normal ?_
                refine WI.ret ?_
                refine blockQ_ret ?_
                refine thenQ_ret ?_
                refine thenQ_ret ?_
                refine blockQ_ret ?_
                refine thenQ_ret ?_
                first | refine lfR ?_ | refine lfR2 ?_
                rw [chk, if_neg (fun e => h1 ((p32_iff t).2 e)), if_pos h2, fst0_take _ j hj11 h0j h4] -- leaf 2
              · try simp only [zB] at h4
                refine WI.skip ?_
                refine blockQ_normal ?_
                refine thenQ_normal ?_
                refine WI.post ?_
                refine WI.regB (tabTr1_ok (chkmG m) (chkmG_ok m ih)) [1, 25, 26, 27] ?_
                refine oG ?_
                refine oS ?_
                refine oP ?_
                refine pPick [0] ?_
                refine pEnd ?_
                refine thenQ_normal ?_
                exact ⟨⟨j + 1, by simp, rfl, hj11, fst0_snoc _ _ _ h0j h4⟩, by simp [down, Ab.get, D.val, intOf?]; omega⟩
            · try simp only [zB] at h3
              refine WI.exit ?_
              refine thenQ_exit ?_
              refine thenQ_exit ?_
              refine blockQ_hit ?_
              refine thenQ_normal ?_
              refine WI.seq ?_
              refine WI.regB (tabTr1_ok (chkmG m) (chkmG_ok m ih)) [4] ?_
              refine oS ?_
              refine oN ?_
              refine thenQ_normal ?_
              refine WI.ret ?_
              first | refine lfR ?_ | refine lfR2 ?_
              rw [List.take_of_length_le (by omega)] at h0j; rw [chk, if_neg (fun e => h1 ((p32_iff t).2 e)), if_pos h2, h0j] -- leaf 3
def tcheckG : List D → Option (Bool × D)
  | [.agg [.x (.int .i64 t), .x (.str b)], .x (.int .i64 k)] => some (decide (k ≤ 64 ∧ 0 ≤ t ∧ t ≤ 254 ∧ b.length ≤ 65536), .x (.int .i64 (chk k.toNat (t, b, ()))))
  | _ => none
theorem tcheckG_ok : ∀ args r, tcheckG args = some (true, r) → PCalls Try.prog 50 args r := by
  intro args r h
  unfold tcheckG at h
  split at h
  · rename_i t b k
    simp only [Option.some.injEq, Prod.mk.injEq, Bool.and_eq_true, decide_eq_true_eq, true_and] at h
    obtain ⟨h1, rfl⟩ := h
    exact check_c _ t b k ⟨rfl, h1⟩
  · cases h
def wholeB (s : List UInt8) : Tlv × Int := if (readB s).2.2 = 0 ∧ (readB s).2.1 < s.length then ((0, [], ()), 5) else ((readB s).1, (readB s).2.2)
def wholeD (s : List UInt8) : D := .tup [.agg [.x (.int .i64 (wholeB s).1.1), .x (.str (wholeB s).1.2.1)], .x (.int .i64 (wholeB s).2)]
theorem whole_c (s : List UInt8) (hs : s.length ≤ 9223372036854775807) : PCalls Try.prog 49 [.x (.str s)] (wholeD s) := by
  have hr := readB_ok s
  refine FCalls.pure (fcallsG (fz := true) G_ok (p := i49) rfl _ (Nat.le_of_ble_eq_true rfl) _ (fun C0 E0 => ?_)) rfl
  dsimp only [i49, argsφ]
  have uu := And.intro @readG.eq_1 (And.intro @readG.eq_2 (And.intro @readD.eq_1 (And.intro @tabBer4_r (And.intro @tabBer4_k (@tabBer4_q18)))))
  refine WI.seq ?_
  refine WI.regB tabBer4_ok [0, 2] ?_
  refine oG ?_
  refine oS ?_
  refine oN ?_
  refine thenQ_normal ?_
  refine WI.seq ?_
  refine WI.regB tabBer4_ok [0, 2, 4, 5, 6] ?_
  refine oS ?_
  refine oC ?_
  refine oS ?_
  iterate 5 refine oG ?_
  iterate 2 refine oS ?_
  refine oN ?_
  refine thenQ_normal ?_
  refine WI.seq ?_
  refine WI.seq ?_
  refine WI.regB tabBer4_ok [2, 4, 6, 20] ?_
  refine oS ?_
  refine oG ?_
  refine oS ?_
  iterate 5 refine oG ?_
  refine oN ?_
  refine thenQ_normal ?_
  refine WI.cond (b := _) rfl rfl (fun h0 => ?_) (fun h0 => ?_)
  · try simp only [zB] at h0
    refine WI.seq ?_
    refine WI.regB tabBer4_ok [2, 3] ?_
    iterate 2 refine oG ?_
    refine oS ?_
    refine oN ?_
    refine thenQ_normal ?_
    refine WI.ret ?_
    refine thenQ_ret ?_
    first | refine lfR ?_ | refine lfR2 ?_
    have hc : (readB s).2.2 = 0 ∧ (readB s).2.1 < s.length := by omega
    simp only [wholeD, wholeB, if_pos hc] -- leaf 0
  · try simp only [zB] at h0
    refine WI.skip ?_
    refine thenQ_normal ?_
    refine WI.seq ?_
    refine WI.regB tabBer4_ok [2, 3] ?_
    refine oG ?_
    refine oS ?_
    refine oG ?_
    refine oS ?_
    refine oN ?_
    refine thenQ_normal ?_
    refine WI.ret ?_
    first | refine lfR ?_ | refine lfR2 ?_
    have hc : ¬ ((readB s).2.2 = 0 ∧ (readB s).2.1 < s.length) := by omega
    simp only [wholeD, wholeB, if_neg hc] -- leaf 1
def wholeG : List D → Option (Bool × D)
  | [.x (.str s)] => some (decide (s.length ≤ 9223372036854775807), wholeD s)
  | _ => none
theorem wholeG_ok : ∀ args r, wholeG args = some (true, r) → PCalls Try.prog 49 args r := by
  intro args r h
  unfold wholeG at h
  split at h
  · rename_i s
    simp only [Option.some.injEq, Prod.mk.injEq, Bool.and_eq_true, decide_eq_true_eq, true_and] at h
    obtain ⟨h1, rfl⟩ := h
    exact whole_c s h1
  · cases h
def chkS (m : Int) (s : List UInt8) : Int := if m < 1 then 7 else if (wholeB s).2 = 0 then chk (min m 64).toNat (wholeB s).1 else (wholeB s).2
theorem wholeB_ok (s : List UInt8) (h : (wholeB s).2 = 0) : (readB s).2.2 = 0 ∧ (readB s).2.1 = s.length ∧ wholeB s = ((readB s).1, 0) := by
  unfold wholeB at h ⊢
  split at h
  · cases h
  · rename_i h1
    have := (readB_ok s h).2
    rw [if_neg h1, show (readB s).2.2 = 0 from h]
    exact ⟨rfl, by have := h; simp only at this; omega, rfl⟩
def tabTr2 : Tabs := addQ (addQ (noTabs) 49 wholeG) 50 tcheckG
theorem tabTr2_ok : SsOk Try.prog tabTr2 := addQ_ok (addQ_ok (noTabs_ok) (G_enters G_ok (p := i49) rfl) wholeG_ok) (G_enters G_ok (p := i50) rfl) tcheckG_ok
theorem tabTr2_q49 (a : List D) : tabTr2.q 49 a = wholeG a := rfl
theorem tabTr2_q50 (a : List D) : tabTr2.q 50 a = tcheckG a := rfl
theorem tabTr2_r (f : FuncId) (a : List D) (o : List Ob) : tabTr2.r f a o = none := rfl
theorem tabTr2_k (f : FuncId) (a : List D) (o : List Ob) : tabTr2.k f a o = none := rfl
theorem tCheck_c (s : List UInt8) (m : Int) (hs : s.length ≤ 9223372036854775807) : PCalls Try.prog 33 [.x (.str s), .x (.int .i64 m)] (.x (.int .i64 (chkS m s))) := by
  have hw := wholeB_ok s
  have hr := readB_okT s
  refine FCalls.pure (fcallsG (fz := true) G_ok (p := i33) rfl _ (Nat.le_of_ble_eq_true rfl) _ (fun C0 E0 => ?_)) rfl
  dsimp only [i33, argsφ]
  have uu := And.intro @wholeG.eq_1 (And.intro @wholeG.eq_2 (And.intro @wholeD.eq_1 (And.intro @tcheckG.eq_1 (And.intro @tcheckG.eq_2 (And.intro @tabTr2_r (And.intro @tabTr2_k (And.intro @tabTr2_q49 (@tabTr2_q50))))))))
  refine WI.seq ?_
  refine WI.regB tabTr2_ok [0, 1] ?_
  refine oS ?_
  refine oN ?_
  refine thenQ_normal ?_
  refine WI.seq ?_
  refine WI.seq ?_
  refine WI.regB tabTr2_ok [0, 1, 8] ?_
  refine oS ?_
  refine oG ?_
  refine oN ?_
  refine thenQ_normal ?_
  refine WI.cond (b := _) rfl rfl (fun h0 => ?_) (fun h0 => ?_)
  · try simp only [zB] at h0
    refine WI.seq ?_
    refine WI.regB tabTr2_ok [4] ?_
    refine oS ?_
    refine oN ?_
    refine thenQ_normal ?_
    refine WI.ret ?_
    refine thenQ_ret ?_
    first | refine lfR ?_ | refine lfR2 ?_
    rw [chkS, if_pos (by omega)] -- leaf 0
  · try simp only [zB] at h0
    refine WI.skip ?_
    refine thenQ_normal ?_
    refine WI.seq ?_
    refine WI.regB tabTr2_ok [1, 5, 6] ?_
    refine oS ?_
    refine oC ?_
    refine oS ?_
    iterate 4 refine oG ?_
    refine oS ?_
    refine oN ?_
    refine thenQ_normal ?_
    refine WI.seq ?_
    refine WI.seq ?_
    refine WI.regB tabTr2_ok [1, 5, 6, 15] ?_
    refine oS ?_
    refine oG ?_
    refine oN ?_
    refine thenQ_normal ?_
    refine WI.cond (b := _) rfl rfl (fun h1 => ?_) (fun h1 => ?_)
    · try simp only [zB] at h1
      refine WI.seq ?_
      refine WI.regB tabTr2_ok [4] ?_
      iterate 2 refine oS ?_
      refine oN ?_
      refine thenQ_normal ?_
      refine WI.ret ?_
      refine thenQ_ret ?_
      first | refine lfR ?_ | refine lfR2 ?_
      rw [chkS, if_neg (by omega), if_neg h1] -- leaf 1
    · try simp only [zB] at h1
      refine WI.skip ?_
      refine thenQ_normal ?_
      refine WI.seq ?_
      have h6 := wholeB_ok s h1
      have hk : okT (wholeB s).1 := by rw [h6.2.2]; exact (hr h6.1).1
      have hk1 := hk.1; have hk2 := hk.2.1; have hk3 := hk.2.2
      have e6 : (if 64 < m then (64 : Int) else m) = min m 64 := by split <;> omega
      refine WI.regB tabTr2_ok [4] ?_
      refine oG ?_
      refine oS ?_
      refine oG ?_
      rw [e6]
      refine oC ?_
      refine oS ?_
      refine oN ?_
      refine thenQ_normal ?_
      refine WI.ret ?_
      first | refine lfR ?_ | refine lfR2 ?_
      rw [chkS, if_neg (by omega), if_pos h1] -- leaf 2
def tCheckG : List D → Option (Bool × D)
  | [.x (.str s), .x (.int .i64 m)] => some (decide (s.length ≤ 9223372036854775807), .x (.int .i64 (chkS m s)))
  | _ => none
theorem tCheckG_ok : ∀ args r, tCheckG args = some (true, r) → PCalls Try.prog 33 args r := by
  intro args r h
  unfold tCheckG at h
  split at h
  · rename_i s m
    simp only [Option.some.injEq, Prod.mk.injEq, Bool.and_eq_true, decide_eq_true_eq, true_and] at h
    obtain ⟨h1, rfl⟩ := h
    exact tCheck_c s m h1
  · cases h
/-- The least that is enough. -/
def depF (s : List UInt8) : Nat → Nat → Nat
  | 0, _ => 0
  | k + 1, m => if chkS m s = 0 then m else depF s k (m + 1)
def depB (s : List UInt8) : Nat := depF s 64 1
theorem depF_step (s : List UInt8) (j : Nat) (hj : j ≤ 64) : depF s (65 - j) j = if chkS j s = 0 then j else depF s (65 - (j + 1)) (j + 1) := by
  rw [show 65 - j = (65 - (j + 1)) + 1 by omega, depF]
def tabTr3 : Tabs := addQ (noTabs) 33 tCheckG
theorem tabTr3_ok : SsOk Try.prog tabTr3 := addQ_ok (noTabs_ok) (G_enters G_ok (p := i33) rfl) tCheckG_ok
theorem tabTr3_q33 (a : List D) : tabTr3.q 33 a = tCheckG a := rfl
theorem tabTr3_r (f : FuncId) (a : List D) (o : List Ob) : tabTr3.r f a o = none := rfl
theorem tabTr3_k (f : FuncId) (a : List D) (o : List Ob) : tabTr3.k f a o = none := rfl
theorem depth_c (s : List UInt8) (hs : s.length ≤ 9223372036854775807) : PCalls Try.prog 35 [.x (.str s)] (.x (.int .i64 (depB s))) := by
  refine FCalls.pure (fcallsG (fz := true) G_ok (p := i35) rfl _ (Nat.le_of_ble_eq_true rfl) _ (fun C0 E0 => ?_)) rfl
  dsimp only [i35, argsφ]
  have uu := And.intro @tCheckG.eq_1 (And.intro @tCheckG.eq_2 (And.intro @tabTr3_r (And.intro @tabTr3_k (@tabTr3_q33))))
  refine WI.seq ?_
  refine WI.regB tabTr3_ok [0] ?_
  refine oS ?_
  refine oN ?_
  refine thenQ_normal ?_
  refine WI.seq ?_
  refine WI.seq ?_
  refine WI.regB tabTr3_ok [0, 3] ?_
  refine oS ?_
  refine oN ?_
  refine thenQ_normal ?_
  refine WI.block ?_
  refine WI.loop (fun φ os => ∃ (j : Nat), φ = [(0, .x (.str s)), (3, .x (.int .i64 j))] ∧ os = [] ∧ 1 ≤ j ∧ j ≤ 65 ∧ depF s (65 - j) j = depB s) (down 65 3) ?_ (fun φ os hI => ?_)
  · exact ⟨1, rfl, rfl, by omega, by omega, rfl⟩
  · obtain ⟨j, rfl, rfl, hj1, hj, hd⟩ := hI
    refine WI.seq ?_
    refine WI.seq ?_
    refine WI.regB tabTr3_ok [0, 3, 5] ?_
    refine oS ?_
    refine oG ?_
    refine oN ?_
    refine thenQ_normal ?_
    refine WI.cond (b := _) rfl rfl (fun h0 => ?_) (fun h0 => ?_)
    · try simp only [zB] at h0
      refine WI.skip ?_
      refine thenQ_normal ?_
      refine WI.seq ?_
      refine WI.block ?_
      refine WI.seq ?_
      refine WI.regB tabTr3_ok [0, 3, 11] ?_
      iterate 2 refine oS ?_
      refine oC ?_
      refine oG ?_
      refine oN ?_
      refine thenQ_normal ?_
      refine WI.cond (b := _) rfl rfl (fun h1 => ?_) (fun h1 => ?_)
      · try simp only [zB] at h1
        refine WI.seq ?_
        refine WI.regB tabTr3_ok [2] ?_
        iterate 2 refine oS ?_
        refine oN ?_
        refine thenQ_normal ?_
        refine WI.ret ?_
        refine blockQ_ret ?_
        refine thenQ_ret ?_
        refine thenQ_ret ?_
        refine blockQ_ret ?_
        refine thenQ_ret ?_
        first | refine lfR ?_ | refine lfR2 ?_
        rw [← hd, depF_step s j (by omega), if_pos h1] -- leaf 0
      · try simp only [zB] at h1
        refine WI.skip ?_
        refine blockQ_normal ?_
        refine thenQ_normal ?_
        refine WI.regB tabTr3_ok [0, 3] ?_
        refine oS ?_
        refine oG ?_
        refine oS ?_
        refine oN ?_
        refine thenQ_normal ?_
        exact ⟨⟨j + 1, by simp, rfl, by omega, by omega, by rw [← hd, depF_step s j (by omega), if_neg h1]⟩, by simp [down, Ab.get, D.val, intOf?]; omega⟩
    · try simp only [zB] at h0
      refine WI.exit ?_
      refine thenQ_exit ?_
      refine thenQ_exit ?_
      refine blockQ_hit ?_
      refine thenQ_normal ?_
      refine WI.seq ?_
      refine WI.regB tabTr3_ok [2] ?_
      refine oS ?_
      refine oN ?_
      refine thenQ_normal ?_
      refine WI.ret ?_
      first | refine lfR ?_ | refine lfR2 ?_
      rw [← hd, show j = 65 by omega]; rfl -- leaf 1
def depthG : List D → Option (Bool × D)
  | [.x (.str s)] => some (decide (s.length ≤ 9223372036854775807), .x (.int .i64 (depB s)))
  | _ => none
theorem depthG_ok : ∀ args r, depthG args = some (true, r) → PCalls Try.prog 35 args r := by
  intro args r h
  unfold depthG at h
  split at h
  · rename_i s
    simp only [Option.some.injEq, Prod.mk.injEq, Bool.and_eq_true, decide_eq_true_eq, true_and] at h
    obtain ⟨h1, rfl⟩ := h
    exact depth_c s h1
  · cases h
end Go.Proofs.Ytogmbfaijmhamaa
