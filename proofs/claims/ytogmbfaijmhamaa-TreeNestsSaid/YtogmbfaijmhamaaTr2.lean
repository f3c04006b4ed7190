/- Tree: the document's answer: Check, Depth. -/
import Derived.Test.YtogmbfaijmhamaaTr1
set_option linter.unusedSimpArgs false
set_option linter.unusedVariables false
namespace Go.Proofs.Ytogmbfaijmhamaa
open Go.RowKit Go.Bo Go.Ab

theorem chk_put (x : Tlv) (h : okT x ∧ tagB x.1 = true) : (putB x.1 x.2.1).2 = 0 ∧ wholeB (putB x.1 x.2.1).1 = (x, 0) := by
  have h0 : (putB x.1 x.2.1).2 = 0 := by rw [put_code _ _ h.1.2.2, if_pos h.2]
  refine ⟨h0, ?_⟩
  have h1 := read_put x.1 x.2.1 [] h0
  rw [List.append_nil] at h1
  unfold wholeB
  rw [h1, if_neg (by simp)]
theorem chkS_put (m : Int) (x : Tlv) (h : okT x ∧ tagB x.1 = true) (hm : m ≤ 64) : chkS m (putB x.1 x.2.1).1 = chk m.toNat x := by
  obtain ⟨h1, h2⟩ := chk_put x h
  unfold chkS
  rw [h2]
  simp only [if_true]
  split
  · rw [show m.toNat = 0 by omega]; rfl
  · rw [show min m 64 = m by omega]
theorem wholeB_err (s : List UInt8) (h : ¬ (readB s).2.2 = 0) : wholeB s = ((readB s).1, (readB s).2.2) := by rw [wholeB, if_neg (fun e => h e.1)]
theorem wholeB_long (s : List UInt8) (h : (readB s).2.2 = 0) (h1 : (readB s).2.1 < s.length) : wholeB s = ((0, [], ()), 5) := by rw [wholeB, if_pos ⟨h, h1⟩]
theorem wholeB_is (s : List UInt8) (h : (readB s).2.2 = 0) (h1 : ¬ (readB s).2.1 < s.length) : wholeB s = ((readB s).1, 0) := by rw [wholeB, if_neg (fun e => h1 e.2), h]
theorem tdm (t : Int) (h : 0 ≤ t ∧ t ≤ 254) : (IntKind.i64.wrap (t.tdiv 32)).tmod 2 = t / 32 % 2 := by
  rw [Int.tdiv_eq_ediv_of_nonneg h.1, IntWalk.i64_in _ (by omega), Int.tmod_eq_emod_of_nonneg (by omega)]
theorem put_le2 (t : Int) (s : List UInt8) (h : s.length ≤ 65536) (ht : tagB t = true) : (putB t s).1.length ≤ 65542 := by
  have h0 : (putB t s).2 = 0 := by rw [put_code _ _ h, if_pos ht]
  have h1 := put_len t s h0
  have h2 := lenB_le s.length (by omega)
  omega
def chkRmG (m : Nat) : List D → Option (Bool × D)
  | [.x (.str s), .x (.int .i64 k)] => some (decide ((min k 64).toNat = m ∧ s.length ≤ 9223372036854775807), .x (.int .i64 (chkS k s)))
  | _ => none
theorem chkRmG_ok (m : Nat) (ih : ∀ (s : List UInt8) (k : Int), (min k 64).toNat = m ∧ s.length ≤ 9223372036854775807 → PCalls Try.prog 34 [.x (.str s), .x (.int .i64 k)] (.x (.int .i64 (chkS k s)))) : ∀ args r, chkRmG m args = some (true, r) → PCalls Try.prog 34 args r := by
  intro args r h
  unfold chkRmG at h
  split at h
  · rename_i s k
    simp only [Option.some.injEq, Prod.mk.injEq, Bool.and_eq_true, decide_eq_true_eq, true_and] at h
    obtain ⟨h1, rfl⟩ := h
    exact ih _ _ h1
  · cases h
def tabTr4 (g : List D → Option (Bool × D)) : Tabs := addQ (addQ (addQ (addQ (noTabs) 19 readRG) 21 allRG) 15 putRG) 34 g
theorem tabTr4_ok (g : List D → Option (Bool × D)) (hg : ∀ args r, g args = some (true, r) → PCalls Try.prog 34 args r) : SsOk Try.prog (tabTr4 g) := addQ_ok (addQ_ok (addQ_ok (addQ_ok (noTabs_ok) (G_enters G_ok (p := i19) rfl) readRG_ok) (G_enters G_ok (p := i21) rfl) allRG_ok) (G_enters G_ok (p := i15) rfl) putRG_ok) (G_enters G_ok (p := i34) rfl) hg
theorem tabTr4_q19 (g : List D → Option (Bool × D)) (a : List D) : (tabTr4 g).q 19 a = readRG a := rfl
theorem tabTr4_q21 (g : List D → Option (Bool × D)) (a : List D) : (tabTr4 g).q 21 a = allRG a := rfl
theorem tabTr4_q15 (g : List D → Option (Bool × D)) (a : List D) : (tabTr4 g).q 15 a = putRG a := rfl
theorem tabTr4_q34 (g : List D → Option (Bool × D)) (a : List D) : (tabTr4 g).q 34 a = g a := rfl
theorem tabTr4_r (g : List D → Option (Bool × D)) (f : FuncId) (a : List D) (o : List Ob) : (tabTr4 g).r f a o = none := rfl
theorem tabTr4_k (g : List D → Option (Bool × D)) (f : FuncId) (a : List D) (o : List Ob) : (tabTr4 g).k f a o = none := rfl
theorem checkR_c : ∀ (m : Nat) (s : List UInt8) (k : Int), (min k 64).toNat = m ∧ s.length ≤ 9223372036854775807 → PCalls Try.prog 34 [.x (.str s), .x (.int .i64 k)] (.x (.int .i64 (chkS k s)))
  | 0, s, k, h => by
    have hk : k < 1 := by omega
    refine FCalls.pure (fcallsG (fz := true) G_ok (p := i34) rfl _ (Nat.le_of_ble_eq_true rfl) _ (fun C0 E0 => ?_)) rfl
    dsimp only [i34, argsφ]
    have uu := trivial
    refine WI.seq ?_
    refine WI.regB noTabs_ok [0, 1] ?_
    refine oS ?_
    refine oN ?_
    refine thenQ_normal ?_
    refine WI.seq ?_
    refine WI.seq ?_
    refine WI.regB noTabs_ok [0, 1, 14] ?_
    refine oS ?_
    refine oG ?_
    refine oN ?_
    refine thenQ_normal ?_
    refine WI.cond (b := _) rfl rfl (fun h0 => ?_) (fun h0 => ?_)
    · try simp only [zB] at h0
      refine WI.seq ?_
      refine WI.regB noTabs_ok [4] ?_
      refine oS ?_
      refine oN ?_
      refine thenQ_normal ?_
      refine WI.ret ?_
      refine thenQ_ret ?_
      first | refine lfR ?_ | refine lfR2 ?_
      rw [chkS, if_pos hk] -- leaf 0
    · exfalso
      simp [hk] at h0
  | m + 1, s, k, h => by
    have ih := checkR_c m
    have hk : ¬ k < 1 := by omega
    have hs := h.2
    have hm : (min k 64).toNat = m + 1 := h.1
    clear h
    have ha := allB_okT (readB s).1.2.1
    have hr := readB_okT s
    have hr2 := readB_ok s
    refine FCalls.pure (fcallsG (fz := true) G_ok (p := i34) rfl _ (Nat.le_of_ble_eq_true rfl) _ (fun C0 E0 => ?_)) rfl
    dsimp only [i34, argsφ]
    have uu := And.intro @chkRmG.eq_1 (And.intro @chkRmG.eq_2 (And.intro @allRG.eq_1 (And.intro @allRG.eq_2 (And.intro @readRG.eq_1 (And.intro @readRG.eq_2 (And.intro @readD.eq_1 (And.intro @putRG.eq_1 (And.intro @putRG.eq_2 (And.intro @tabTr4_r (And.intro @tabTr4_k (And.intro @tabTr4_q15 (And.intro @tabTr4_q19 (And.intro @tabTr4_q21 (@tabTr4_q34))))))))))))))
    refine WI.seq ?_
    refine WI.regB (tabTr4_ok (chkRmG m) (chkRmG_ok m ih)) [0, 1] ?_
    refine oS ?_
    refine oN ?_
    refine thenQ_normal ?_
    refine WI.seq ?_
    refine WI.seq ?_
    refine WI.regB (tabTr4_ok (chkRmG m) (chkRmG_ok m ih)) [0, 1, 14] ?_
    refine oS ?_
    refine oG ?_
    refine oN ?_
    refine thenQ_normal ?_
    refine WI.cond (b := _) rfl rfl (fun h0 => ?_) (fun h0 => ?_)
    · exfalso
      simp at h0; omega
    · try simp only [zB] at h0
      refine WI.skip ?_
      refine thenQ_normal ?_
      refine WI.seq ?_
      refine WI.regB (tabTr4_ok (chkRmG m) (chkRmG_ok m ih)) [0, 1] ?_
      refine oS ?_
      refine oG ?_
      refine oS ?_
      refine oN ?_
      refine thenQ_normal ?_
      refine WI.seq ?_
      have e4 : (if 64 < k then (64 : Int) else k) = ((m + 1 : Nat) : Int) := by split <;> omega
      rw [e4]
      refine WI.regB (tabTr4_ok (chkRmG m) (chkRmG_ok m ih)) [0, 1, 5, 6, 7] ?_
      refine oS ?_
      refine oC ?_
      refine oS ?_
      iterate 5 refine oG ?_
      iterate 2 refine oS ?_
      refine oN ?_
      refine thenQ_normal ?_
      refine WI.seq ?_
      refine WI.block ?_
      refine WI.seq ?_
      refine WI.regB (tabTr4_ok (chkRmG m) (chkRmG_ok m ih)) [0, 1, 5, 6, 7, 23] ?_
      refine oS ?_
      refine oG ?_
      refine oS ?_
      refine oN ?_
      refine thenQ_normal ?_
      refine WI.cond (b := _) rfl rfl (fun h1 => ?_) (fun h1 => ?_)
      · try simp only [zB] at h1
        refine WI.seq ?_
        refine WI.regB (tabTr4_ok (chkRmG m) (chkRmG_ok m ih)) [4] ?_
        iterate 2 refine oS ?_
        refine oN ?_
        refine thenQ_normal ?_
        refine WI.ret ?_
        refine blockQ_ret ?_
        refine thenQ_ret ?_
        first | refine lfR ?_ | refine lfR2 ?_
        rw [chkS, if_neg (by omega), wholeB_err s h1, if_neg h1] -- leaf 0
      · try simp only [zB] at h1
        refine WI.seq ?_
        refine WI.regB (tabTr4_ok (chkRmG m) (chkRmG_ok m ih)) [1, 5, 27] ?_
        iterate 2 refine oS ?_
        iterate 2 refine oG ?_
        refine oS ?_
        refine oN ?_
        refine thenQ_normal ?_
        refine WI.cond (b := _) rfl rfl (fun h2 => ?_) (fun h2 => ?_)
        · try simp only [zB] at h2
          refine WI.seq ?_
          refine WI.regB (tabTr4_ok (chkRmG m) (chkRmG_ok m ih)) [4] ?_
          refine oS ?_
          refine oN ?_
          refine thenQ_normal ?_
          refine WI.ret ?_
          refine blockQ_ret ?_
          refine thenQ_ret ?_
          first | refine lfR ?_ | refine lfR2 ?_
          rw [chkS, if_neg (by omega), wholeB_long s h1 (by omega)]; rfl -- leaf 1
        · try simp only [zB] at h2
          refine WI.seq ?_
          have hk := hr h1
          have e9 := tdm _ ⟨hk.1.1, hk.1.2.1⟩
          have hw := wholeB_is s h1 (by omega)
          refine WI.regB (tabTr4_ok (chkRmG m) (chkRmG_ok m ih)) [1, 5, 32] ?_
          refine oS ?_
          iterate 4 refine oG ?_
          refine oS ?_
          refine oN ?_
          refine thenQ_normal ?_
          refine WI.cond (b := _) rfl rfl (fun h3 => ?_) (fun h3 => ?_)
          · try simp only [zB] at h3
            refine WI.seq ?_
            refine WI.regB (tabTr4_ok (chkRmG m) (chkRmG_ok m ih)) [4] ?_
            refine oS ?_
            refine oN ?_
            refine thenQ_normal ?_
            refine WI.ret ?_
            refine blockQ_ret ?_
            refine thenQ_ret ?_
            first | refine lfR ?_ | refine lfR2 ?_
            rw [chkS, if_neg (by omega), hw, if_pos rfl, hm, chk, if_pos (by rw [← e9]; exact h3)] -- leaf 2
          · try simp only [zB] at h3
            refine WI.skip ?_
            refine blockQ_normal ?_
            refine thenQ_normal ?_
            refine WI.seq ?_
            refine WI.regB (tabTr4_ok (chkRmG m) (chkRmG_ok m ih)) [1, 7, 8] ?_
            refine oS ?_
            refine oG ?_
            refine oC ?_
            refine oS ?_
            iterate 2 refine oG ?_
            iterate 2 refine oS ?_
            refine oN ?_
            refine thenQ_normal ?_
            refine WI.seq ?_
            refine WI.seq ?_
            refine WI.regB (tabTr4_ok (chkRmG m) (chkRmG_ok m ih)) [1, 7, 8, 45] ?_
            refine oS ?_
            refine oG ?_
            refine oN ?_
            refine thenQ_normal ?_
            refine WI.cond (b := _) rfl rfl (fun h4 => ?_) (fun h4 => ?_)
            · try simp only [zB] at h4
              refine WI.seq ?_
              refine WI.regB (tabTr4_ok (chkRmG m) (chkRmG_ok m ih)) [4] ?_
              iterate 2 refine oS ?_
              refine oN ?_
              refine thenQ_normal ?_
              refine WI.ret ?_
              refine thenQ_ret ?_
              first | refine lfR ?_ | refine lfR2 ?_
              rw [chkS, if_neg (by omega), hw, if_pos rfl, hm, chk, if_neg (by rw [← e9]; exact h3), if_neg h4] -- leaf 3
            · try simp only [zB] at h4
              refine WI.skip ?_
              refine thenQ_normal ?_
              refine WI.seq ?_
              refine WI.seq ?_
              refine WI.regB (tabTr4_ok (chkRmG m) (chkRmG_ok m ih)) [1, 8, 9] ?_
              refine oS ?_
              refine oN ?_
              refine thenQ_normal ?_
              refine WI.block ?_
              refine WI.loop (fun φ os => ∃ (j : Nat), φ = [(1, .x (.int .i64 ((m + 1 : Nat) : Int))), (8, .x (.sl (rows rTlv (allB (readB s).1.2.1).1))), (9, .x (.int .i64 j))] ∧ os = [.box [.x (.int .i64 (readB s).1.1), .x (.str (readB s).1.2.1)]] ∧ j ≤ (allB (readB s).1.2.1).1.length ∧ fst0 (((allB (readB s).1.2.1).1.take j).map (chk m)) = 0) (down (allB (readB s).1.2.1).1.length 9) ?_ (fun φ os hI => ?_)
              · exact ⟨0, rfl, rfl, by omega, rfl⟩
              · obtain ⟨j, rfl, rfl, hj, h0j⟩ := hI
                refine WI.seq ?_
                refine WI.seq ?_
                refine WI.regB (tabTr4_ok (chkRmG m) (chkRmG_ok m ih)) [1, 8, 9, 50] ?_
                iterate 2 refine oS ?_
                iterate 2 refine oG ?_
                refine oN ?_
                refine thenQ_normal ?_
                refine WI.cond (b := _) rfl rfl (fun h5 => ?_) (fun h5 => ?_)
                · try simp only [zB] at h5
                  refine WI.skip ?_
                  refine thenQ_normal ?_
                  refine WI.seq ?_
                  refine WI.block ?_
                  refine WI.seq ?_
                  have hj16 : j < (allB (readB s).1.2.1).1.length := by simpa using h5
                  have hx := ha.2 _ (List.getElem_mem hj16)
                  have hp := put_le2 _ _ hx.1.2.2 hx.2
                  have e16 := chkS_put m _ hx (by omega)
                  refine WI.dregB (tabTr4_ok (chkRmG m) (chkRmG_ok m ih)) [1, 8, 9, 10] ?_
                  iterate 2 refine dFS ?_
                  refine dQG ?_
                  refine dFS ?_
                  refine dQG ?_
                  iterate 2 refine dFS ?_
                  refine dQG ?_
                  refine dFS ?_
                  refine dQG ?_
                  refine dAC ?_
                  refine dFS ?_
                  iterate 2 refine dFG ?_
                  iterate 2 refine dFS ?_
                  refine dN ?_
                  refine thenQ_normal ?_
                  refine WI.seq ?_
                  refine WI.regB (tabTr4_ok (chkRmG m) (chkRmG_ok m ih)) [1, 8, 9, 12] ?_
                  iterate 2 refine oS ?_
                  refine oG ?_
                  refine oC ?_
                  refine oS ?_
                  refine oN ?_
                  rw [show ((m + 1 : Nat) : Int) - 1 = (m : Int) by omega, e16]
                  refine thenQ_normal ?_
                  refine WI.seq ?_
                  refine WI.regB (tabTr4_ok (chkRmG m) (chkRmG_ok m ih)) [1, 8, 9, 12, 72] ?_
                  refine oS ?_
                  refine oG ?_
                  refine oN ?_
                  refine thenQ_normal ?_
                  refine WI.cond (b := _) rfl rfl (fun h6 => ?_) (fun h6 => ?_)
                  · try simp only [zB] at h6
                    refine WI.seq ?_
                    refine WI.regB (tabTr4_ok (chkRmG m) (chkRmG_ok m ih)) [4] ?_
                    iterate 2 refine oS ?_
                    refine oN ?_
                    refine thenQ_normal ?_
                    refine WI.ret ?_
                    refine blockQ_ret ?_
                    refine thenQ_ret ?_
                    refine thenQ_ret ?_
                    refine blockQ_ret ?_
                    refine thenQ_ret ?_
                    first | refine lfR ?_ | refine lfR2 ?_
                    rw [chkS, if_neg (by omega), hw, if_pos rfl, hm, chk, if_neg (by rw [← e9]; exact h3), if_pos h4, fst0_take _ j hj16 h0j h6] -- leaf 4
                  · try simp only [zB] at h6
                    refine WI.skip ?_
                    refine blockQ_normal ?_
                    refine thenQ_normal ?_
                    refine WI.regB (tabTr4_ok (chkRmG m) (chkRmG_ok m ih)) [1, 8, 9] ?_
                    refine oS ?_
                    refine oG ?_
                    refine oS ?_
                    refine oN ?_
                    refine thenQ_normal ?_
                    exact ⟨⟨j + 1, by simp, rfl, hj16, fst0_snoc _ _ _ h0j h6⟩, by simp [down, Ab.get, D.val, intOf?]; omega⟩
                · try simp only [zB] at h5
                  refine WI.exit ?_
                  refine thenQ_exit ?_
                  refine thenQ_exit ?_
                  refine blockQ_hit ?_
                  refine thenQ_normal ?_
                  refine WI.seq ?_
                  refine WI.regB (tabTr4_ok (chkRmG m) (chkRmG_ok m ih)) [4] ?_
                  refine oS ?_
                  refine oN ?_
                  refine thenQ_normal ?_
                  refine WI.ret ?_
                  first | refine lfR ?_ | refine lfR2 ?_
                  rw [List.take_of_length_le (by omega)] at h0j; rw [chkS, if_neg (by omega), hw, if_pos rfl, hm, chk, if_neg (by rw [← e9]; exact h3), if_pos h4, h0j] -- leaf 5
def rcheckG : List D → Option (Bool × D)
  | [.x (.str s), .x (.int .i64 k)] => some (decide (s.length ≤ 9223372036854775807), .x (.int .i64 (chkS k s)))
  | _ => none
theorem rcheckG_ok : ∀ args r, rcheckG args = some (true, r) → PCalls Try.prog 34 args r := by
  intro args r h
  unfold rcheckG at h
  split at h
  · rename_i s k
    simp only [Option.some.injEq, Prod.mk.injEq, Bool.and_eq_true, decide_eq_true_eq, true_and] at h
    obtain ⟨h1, rfl⟩ := h
    exact checkR_c _ s k ⟨rfl, h1⟩
  · cases h
def tabTr5 : Tabs := addQ (noTabs) 34 rcheckG
theorem tabTr5_ok : SsOk Try.prog tabTr5 := addQ_ok (noTabs_ok) (G_enters G_ok (p := i34) rfl) rcheckG_ok
theorem tabTr5_q34 (a : List D) : tabTr5.q 34 a = rcheckG a := rfl
theorem tabTr5_r (f : FuncId) (a : List D) (o : List Ob) : tabTr5.r f a o = none := rfl
theorem tabTr5_k (f : FuncId) (a : List D) (o : List Ob) : tabTr5.k f a o = none := rfl
theorem depthR_c (s : List UInt8) (hs : s.length ≤ 9223372036854775807) : PCalls Try.prog 36 [.x (.str s)] (.x (.int .i64 (depB s))) := by
  refine FCalls.pure (fcallsG (fz := true) G_ok (p := i36) rfl _ (Nat.le_of_ble_eq_true rfl) _ (fun C0 E0 => ?_)) rfl
  dsimp only [i36, argsφ]
  have uu := And.intro @rcheckG.eq_1 (And.intro @rcheckG.eq_2 (And.intro @tabTr5_r (And.intro @tabTr5_k (@tabTr5_q34))))
  refine WI.seq ?_
  refine WI.regB tabTr5_ok [0] ?_
  refine oS ?_
  refine oN ?_
  refine thenQ_normal ?_
  refine WI.seq ?_
  refine WI.seq ?_
  refine WI.regB tabTr5_ok [0, 3] ?_
  refine oS ?_
  refine oN ?_
  refine thenQ_normal ?_
  refine WI.block ?_
  refine WI.loop (fun φ os => ∃ (j : Nat), φ = [(0, .x (.str s)), (3, .x (.int .i64 j))] ∧ os = [] ∧ 1 ≤ j ∧ j ≤ 65 ∧ depF s (65 - j) j = depB s) (down 65 3) ?_ (fun φ os hI => ?_)
  · exact ⟨1, rfl, rfl, by omega, by omega, rfl⟩
  · obtain ⟨j, rfl, rfl, hj1, hj, hd⟩ := hI
    refine WI.seq ?_
    refine WI.seq ?_
    refine WI.regB tabTr5_ok [0, 3, 5] ?_
    refine oS ?_
    refine oG ?_
    refine oN ?_
    refine thenQ_normal ?_
    refine WI.cond (b := _) rfl rfl (fun h0 => ?_) (fun h0 => ?_)
    · try simp only [zB] at h0
      refine WI.skip ?_
      refine thenQ_normal ?_
      refine WI.seq ?_
      refine WI.block ?_
      refine WI.seq ?_
      refine WI.regB tabTr5_ok [0, 3, 11] ?_
      iterate 2 refine oS ?_
      refine oC ?_
      refine oG ?_
      refine oN ?_
      refine thenQ_normal ?_
      refine WI.cond (b := _) rfl rfl (fun h1 => ?_) (fun h1 => ?_)
      · try simp only [zB] at h1
        refine WI.seq ?_
        refine WI.regB tabTr5_ok [2] ?_
        iterate 2 refine oS ?_
        refine oN ?_
        refine thenQ_normal ?_
        refine WI.ret ?_
        refine blockQ_ret ?_
        refine thenQ_ret ?_
        refine thenQ_ret ?_
        refine blockQ_ret ?_
        refine thenQ_ret ?_
        first | refine lfR ?_ | refine lfR2 ?_
        rw [← hd, depF_step s j (by omega), if_pos h1] -- leaf 0
      · try simp only [zB] at h1
        refine WI.skip ?_
        refine blockQ_normal ?_
        refine thenQ_normal ?_
        refine WI.regB tabTr5_ok [0, 3] ?_
        refine oS ?_
        refine oG ?_
        refine oS ?_
        refine oN ?_
        refine thenQ_normal ?_
        exact ⟨⟨j + 1, by simp, rfl, by omega, by omega, by rw [← hd, depF_step s j (by omega), if_neg h1]⟩, by simp [down, Ab.get, D.val, intOf?]; omega⟩
    · try simp only [zB] at h0
      refine WI.exit ?_
      refine thenQ_exit ?_
      refine thenQ_exit ?_
      refine blockQ_hit ?_
      refine thenQ_normal ?_
      refine WI.seq ?_
      refine WI.regB tabTr5_ok [2] ?_
      refine oS ?_
      refine oN ?_
      refine thenQ_normal ?_
      refine WI.ret ?_
      first | refine lfR ?_ | refine lfR2 ?_
      rw [← hd, show j = 65 by omega]; rfl -- leaf 1
def depthRG : List D → Option (Bool × D)
  | [.x (.str s)] => some (decide (s.length ≤ 9223372036854775807), .x (.int .i64 (depB s)))
  | _ => none
theorem depthRG_ok : ∀ args r, depthRG args = some (true, r) → PCalls Try.prog 36 args r := by
  intro args r h
  unfold depthRG at h
  split at h
  · rename_i s
    simp only [Option.some.injEq, Prod.mk.injEq, Bool.and_eq_true, decide_eq_true_eq, true_and] at h
    obtain ⟨h1, rfl⟩ := h
    exact depthR_c s h1
  · cases h
end Go.Proofs.Ytogmbfaijmhamaa
