/- MA2: Ct5, Ct6, Ct7, Texts, Equal, Ct8, Ct9. -/
import Derived.Test.YtcffpndhodhncaaMA1
import Derived.Test.YtcffpndhodhncaaLA4
import Derived.Test.YtcffpndhodhncaaIc
section
/- Count: entry.put at no attributes. -/
set_option linter.unusedSimpArgs false
set_option linter.unusedVariables false
namespace Go.Proofs.Ytcffpndhodhncaa
open Go.RowKit Go.Bo Go.Ab

theorem un_s (l : List (List UInt8)) : unrows rStr (rows rStr l) = some l := unrows_rows good_rStr l
def bsT : List D → Option (Bool × D)
  | [.x .nils, .x (.str s), .fn f []] => some (decide (f = 91), .tup [xI 0, .x (.bool false)])
  | _ => none
theorem bsT_ok : ∀ args r, bsT args = some (true, r) → PCalls Try.prog 90 args r := by
  intro args r h
  unfold bsT at h
  split at h
  · rename_i s f
    simp only [Option.some.injEq, Prod.mk.injEq, decide_eq_true_eq] at h
    obtain ⟨rfl, rfl⟩ := h
    exact bsNil_c s
  · cases h
def insT : List D → List Ob → Option (Bool × D × List Ob)
  | [.x .nils, .x (.int .i64 0), .ref 0 1 0 1], [.rows false 120 2 [[.str n, .nils]]] => some (true, .ref 1 1 0 1, [atB n, atB n])
  | _, _ => none
theorem insT_ok : ∀ args os r os', insT args os = some (true, r, os') → MCalls Try.prog 92 args os r os' := by
  intro args os r os' h
  unfold insT at h
  split at h
  · rename_i n
    simp only [Option.some.injEq, Prod.mk.injEq, true_and] at h
    obtain ⟨rfl, rfl⟩ := h
    exact insNil_c n
  · cases h
def catG : List D → Option (Bool × D)
  | [.x (.sl [[.nils], [.sl R]])] => (unrows rStr R).map fun b => (decide (b.length ≤ 100000), .x (.sl (rows rStr b)))
  | _ => none
theorem catG_ok : ∀ args r, catG args = some (true, r) → PCalls Try.prog 93 args r := by
  intro args r h
  unfold catG at h
  split at h
  · rename_i R
    obtain ⟨b, h1, h2⟩ := Option.map_eq_some_iff.1 h
    simp only [Prod.mk.injEq, decide_eq_true_eq] at h2
    obtain ⟨h3, rfl⟩ := h2
    rw [← rows_unrows good_rStr h1]
    exact concat_nil b h3
  · cases h
def tabCt5 : Tabs := addT (addQ (addT (addQ (addT (addQ (addQ (noTabs) 89 lowerG) 90 bsT) 92 insT) 93 catG) 93 (frzT catG)) 94 contG) 94 (frzT contG)
theorem tabCt5_ok : SsOk Try.prog tabCt5 := addT_ok (addQ_ok (addT_ok (addQ_ok (addT_ok (addQ_ok (addQ_ok (noTabs_ok) (G_enters G_ok (p := i89) rfl) lowerG_ok) (G_enters G_ok (p := i90) rfl) bsT_ok) (G_enters G_ok (p := i92) rfl) insT_ok) (G_enters G_ok (p := i93) rfl) catG_ok) (G_enters G_ok (p := i93) rfl) (frzT_ok catG_ok)) cont_enters contG_ok) cont_enters (frzT_ok contG_ok)
theorem tabCt5_q89 (a : List D) : tabCt5.q 89 a = lowerG a := rfl
theorem tabCt5_q90 (a : List D) : tabCt5.q 90 a = bsT a := rfl
theorem tabCt5_q92 (a : List D) : tabCt5.q 92 a = none := rfl
theorem tabCt5_t92 (a : List D) (o : List Ob) : tabCt5.t 92 a o = liftT insT a o := rfl
theorem tabCt5_q93 (a : List D) : tabCt5.q 93 a = catG a := rfl
theorem tabCt5_t93 (a : List D) (o : List Ob) : tabCt5.t 93 a o = liftT (frzT catG) a o := rfl
theorem tabCt5_q94 (a : List D) : tabCt5.q 94 a = contG a := rfl
theorem tabCt5_t94 (a : List D) (o : List Ob) : tabCt5.t 94 a o = liftT (frzT contG) a o := rfl
theorem tabCt5_r (f : FuncId) (a : List D) (o : List Ob) : tabCt5.r f a o = none := rfl
theorem tabCt5_k (f : FuncId) (a : List D) (o : List Ob) : tabCt5.k f a o = none := rfl
theorem put0_c (attr : List UInt8) (vs : List (List UInt8)) (hne : vs ≠ []) (hnd : vs.Nodup) (hl : vs.length ≤ 1000) (ha : attr.length ≤ 1000) : PCalls Try.prog 80 [.x .nils, .x (.str attr), .x (.sl (rows rStr vs))] (.x (.sl [[.str (lowS attr), .sl (rows rStr vs)]])) := by
  have hpos : 0 < vs.length := List.length_pos_iff.2 hne
  refine FCalls.pure (fcallsG (fz := true) G_ok (p := i80) rfl _ (Nat.le_of_ble_eq_true rfl) _ (fun C0 E0 => ?_)) rfl
  dsimp only [i80, argsφ]
  have uu := And.intro @lowerG.eq_1 (And.intro @lowerG.eq_2 (And.intro @bsT.eq_1 (And.intro @bsT.eq_2 (And.intro @insT.eq_1 (And.intro @insT.eq_2 (And.intro @catG.eq_1 (And.intro @catG.eq_2 (And.intro @contG.eq_1 (And.intro @contG.eq_2 (And.intro @un_s (And.intro @tabCt5_r (And.intro @tabCt5_k (And.intro @tabCt5_q89 (And.intro @tabCt5_q90 (And.intro @tabCt5_q92 (And.intro @tabCt5_q93 (And.intro @tabCt5_q94 (And.intro @tabCt5_t92 (And.intro @tabCt5_t93 (And.intro @tabCt5_t94 (@frzT.eq_1)))))))))))))))))))))
  refine WI.seq ?_
  refine WI.regB tabCt5_ok [0, 1, 2] ?_
  refine oS ?_
  refine oN ?_
  refine thenQ_normal ?_
  refine WI.seq ?_
  refine WI.regB tabCt5_ok [0, 2, 7] ?_
  refine oS ?_
  refine oC (hok := by first | with_reducible rfl | omega | (exact decide_eq_true (by omega)) | (simp; done) | (simp; omega) | rfl) ?_
  refine oS ?_
  refine oN ?_
  refine thenQ_normal ?_
  refine WI.seq ?_
  refine WI.seq ?_
  refine WI.regB tabCt5_ok [0, 2, 7, 17] ?_
  refine oS ?_
  iterate 2 refine oG (hok := by first | with_reducible rfl | omega | (exact decide_eq_true (by omega)) | (simp; done) | (simp; omega) | rfl) ?_
  refine oN ?_
  refine thenQ_normal ?_
  refine WI.cond (b := _) rfl rfl (fun h0 => ?_) (fun h0 => ?_)
  · exfalso
    first | omega | exact hne (by simpa using h0)
  · try simp only [zB] at h0
    refine WI.skip ?_
    refine thenQ_normal ?_
    refine WI.seq ?_
    refine WI.regB tabCt5_ok [0, 2, 7, 8, 9] ?_
    iterate 2 refine oS ?_
    refine oC (hok := by first | with_reducible rfl | omega | (exact decide_eq_true (by omega)) | (simp; done) | (simp; omega) | rfl) ?_
    refine oS ?_
    iterate 2 refine oG (hok := by first | with_reducible rfl | omega | (exact decide_eq_true (by omega)) | (simp; done) | (simp; omega) | rfl) ?_
    iterate 2 refine oS ?_
    refine oN ?_
    refine thenQ_normal ?_
    refine WI.seq ?_
    refine WI.seq ?_
    refine WI.regB tabCt5_ok [0, 2, 7, 8, 26] ?_
    refine oS ?_
    refine oG (hok := by first | with_reducible rfl | omega | (exact decide_eq_true (by omega)) | (simp; done) | (simp; omega) | rfl) ?_
    refine oN ?_
    refine thenQ_normal ?_
    refine WI.cond (b := _) rfl rfl (fun h1 => ?_) (fun h1 => ?_)
    · try simp only [zB] at h1
      refine WI.regB tabCt5_ok [0, 2, 8] ?_
      iterate 3 refine oS ?_
      iterate 2 refine oG (hok := by first | with_reducible rfl | omega | (exact decide_eq_true (by omega)) | (simp; done) | (simp; omega) | rfl) ?_
      refine oC (hok := by first | with_reducible rfl | omega | (exact decide_eq_true (by omega)) | (simp; done) | (simp; omega) | rfl) ?_
      refine oS ?_
      refine oN ?_
      refine thenQ_normal ?_
      refine WI.seq ?_
      refine WI.regB tabCt5_ok [0, 2, 8, 10] ?_
      refine oS ?_
      refine oN ?_
      refine thenQ_normal ?_
      refine WI.seq ?_
      refine WI.seq ?_
      refine WI.regB tabCt5_ok [0, 8, 10, 40, 41, 42] ?_
      iterate 2 refine oS ?_
      refine oG (hok := by first | with_reducible rfl | omega | (exact decide_eq_true (by omega)) | (simp; done) | (simp; omega) | rfl) ?_
      refine oS ?_
      refine oG (hok := by first | with_reducible rfl | omega | (exact decide_eq_true (by omega)) | (simp; done) | (simp; omega) | rfl) ?_
      refine oS ?_
      refine oG (hok := by first | with_reducible rfl | omega | (exact decide_eq_true (by omega)) | (simp; done) | (simp; omega) | rfl) ?_
      refine oC (hok := by first | with_reducible rfl | omega | (exact decide_eq_true (by omega)) | (simp; done) | (simp; omega) | rfl) ?_
      refine oG (hok := by first | with_reducible rfl | omega | (exact decide_eq_true (by omega)) | (simp; done) | (simp; omega) | rfl) ?_
      refine oS ?_
      refine oN ?_
      refine thenQ_normal ?_
      refine WI.block ?_
      refine WI.ownA 10 9 1 ?_
      refine WI.pickA [1, 3] ?_
      refine WI.loop (fun φ os => ∃ (j : Nat), φ = [(0, .ref 0 1 0 1), (8, xI 0), (10, .ref 1 (vs.take j).length 0 (vs.take j).length), (40, .x (.sl (rows rStr vs))), (41, xI vs.length), (42, xI j)] ∧ os = [atB (lowS attr), .rows false 9 1 (rows rStr (vs.take j))] ∧ j ≤ vs.length) (down vs.length 42) ?_ (fun φ os hI => ?_)
      · exact ⟨0, rfl, rfl, by omega⟩
      · obtain ⟨j, rfl, rfl, hj⟩ := hI
        refine WI.seq ?_
        refine WI.regB tabCt5_ok [0, 8, 10, 40, 41, 42, 43] ?_
        refine oG (hok := by first | with_reducible rfl | omega | (exact decide_eq_true (by omega)) | (simp; done) | (simp; omega) | rfl) ?_
        refine oN ?_
        refine thenQ_normal ?_
        refine WI.seq ?_
        refine WI.cond (b := _) rfl rfl (fun h2 => ?_) (fun h2 => ?_)
        · try simp only [zB] at h2
          refine WI.skip ?_
          refine thenQ_normal ?_
          refine WI.seq ?_
          refine WI.block ?_
          refine WI.seq ?_
          have hj4 : j < vs.length := by omega
          have hst : vs.take (j + 1) = vs.take j ++ [vs[j]] := List.take_succ_eq_append_getElem hj4
          have hlt : (vs.take j).length ≤ 1000 := by rw [List.length_take]; omega
          have hnin : vs[j] ∉ vs.take j := fun hm => by
            have := hnd
            rw [← List.take_append_drop j vs, List.nodup_append] at this
            exact this.2.2 _ hm _ (by rw [List.drop_eq_getElem_cons hj4]; exact List.mem_cons_self) rfl
          refine WI.regB tabCt5_ok [0, 8, 10, 12, 40, 41, 42] ?_
          iterate 2 refine oG (hok := by first | with_reducible rfl | omega | (exact decide_eq_true (by omega)) | (simp; done) | (simp; omega) | rfl) ?_
          refine oS ?_
          refine oN ?_
          refine thenQ_normal ?_
          refine WI.seq ?_
          refine WI.regB tabCt5_ok [0, 8, 10, 12, 40, 41, 42, 49] ?_
          iterate 2 refine oS ?_
          refine oC (hok := by first | with_reducible rfl | omega | (exact decide_eq_true (by omega)) | (simp; done) | (simp; omega) | rfl) ?_
          refine oG (hok := by first | with_reducible rfl | omega | (exact decide_eq_true (by omega)) | (simp; done) | (simp; omega) | rfl) ?_
          refine oN ?_
          refine thenQ_normal ?_
          refine WI.cond (b := _) rfl rfl (fun h3 => ?_) (fun h3 => ?_)
          · try simp only [zB] at h3
            refine WI.post ?_
            refine WI.regB tabCt5_ok [0, 8, 10, 40, 41, 42] ?_
            iterate 2 refine oS ?_
            iterate 2 refine oG (hok := by first | with_reducible rfl | omega | (exact decide_eq_true (by omega)) | (simp; done) | (simp; omega) | rfl) ?_
            refine oS ?_
            refine oP ?_
            refine pPick [0, 1] ?_
            refine pEnd ?_
            refine blockQ_normal ?_
            refine thenQ_normal ?_
            refine WI.regB tabCt5_ok [0, 8, 10, 40, 41, 42] ?_
            refine oG (hok := by first | with_reducible rfl | omega | (exact decide_eq_true (by omega)) | (simp; done) | (simp; omega) | rfl) ?_
            refine oS ?_
            refine oN ?_
            refine thenQ_normal ?_
            exact ⟨⟨j + 1, by rw [hst, List.length_append]; rfl, by rw [hst, ← rows_str], by omega⟩, by simp [down, Ab.get, D.val, intOf?]; omega⟩
          · exfalso
            rw [List.take_of_length_le (Nat.le_refl _)] at h3; simp at h3; exact hnin h3
        · try simp only [zB] at h2
          refine WI.exit ?_
          refine thenQ_exit ?_
          refine thenQ_exit ?_
          refine blockQ_hit ?_
          refine thenQ_normal ?_
          refine WI.seq ?_
          have hvt : vs.take j = vs := List.take_of_length_le (by omega)
          rw [hvt]
          refine WI.freezeA [1] ?_
          refine WI.regB tabCt5_ok [0] ?_
          iterate 3 refine oS ?_
          refine oG (hok := by first | with_reducible rfl | omega | (exact decide_eq_true (by omega)) | (simp; done) | (simp; omega) | rfl) ?_
          refine oS ?_
          refine oG (hok := by first | with_reducible rfl | omega | (exact decide_eq_true (by omega)) | (simp; done) | (simp; omega) | rfl) ?_
          refine oN ?_
          refine thenQ_normal ?_
          refine WI.seq ?_
          refine WI.regB tabCt5_ok [6] ?_
          iterate 2 refine oS ?_
          refine oN ?_
          refine thenQ_normal ?_
          refine WI.ret ?_
          first | refine lfR ?_ | refine lfR2 ?_
          first | rfl | exact ⟨rfl, rfl⟩ | trivial -- leaf 0
    · exfalso
      simp at h1
end Go.Proofs.Ytcffpndhodhncaa
end
section
/- Count: Clean and With at no attributes, Entry; counts that are none. -/
set_option linter.unusedSimpArgs false
set_option linter.unusedVariables false
namespace Go.Proofs.Ytcffpndhodhncaa
open Go.RowKit Go.Bo Go.Ab

theorem put00_c (attr : List UInt8) (ha : attr.length ≤ 1000) : PCalls Try.prog 80 [.x .nils, .x (.str attr), .x (.sl (rows rStr []))] (.x (.sl [])) := by
  refine FCalls.pure (fcallsG (fz := true) G_ok (p := i80) rfl _ (Nat.le_of_ble_eq_true rfl) _ (fun C0 E0 => ?_)) rfl
  dsimp only [i80, argsφ]
  have uu := And.intro @lowerG.eq_1 (And.intro @lowerG.eq_2 (And.intro @tabCt5_r (And.intro @tabCt5_k (And.intro @tabCt5_q89 (And.intro @tabCt5_q90 (And.intro @tabCt5_q92 (And.intro @tabCt5_q93 (And.intro @tabCt5_q94 (And.intro @tabCt5_t92 (And.intro @tabCt5_t93 (And.intro @tabCt5_t94 (And.intro @bsT.eq_1 (And.intro @bsT.eq_2 (And.intro @catG.eq_1 (And.intro @catG.eq_2 (And.intro @contG.eq_1 (And.intro @contG.eq_2 (And.intro @frzT.eq_1 (And.intro @insT.eq_1 (@insT.eq_2))))))))))))))))))))
  refine WI.seq ?_
  refine WI.regB tabCt5_ok [0, 1, 2] ?_
  refine oS ?_
  refine oN ?_
  refine thenQ_normal ?_
  refine WI.seq ?_
  refine WI.regB tabCt5_ok [0, 2, 7] ?_
  refine oS ?_
  refine oC (hok := by first | with_reducible rfl | omega | (exact decide_eq_true (by omega)) | (simp; done) | (simp; omega) | rfl) ?_
  refine oS ?_
  refine oN ?_
  refine thenQ_normal ?_
  refine WI.seq ?_
  refine WI.seq ?_
  refine WI.regB tabCt5_ok [0, 2, 7, 17] ?_
  refine oS ?_
  iterate 2 refine oG (hok := by first | with_reducible rfl | omega | (exact decide_eq_true (by omega)) | (simp; done) | (simp; omega) | rfl) ?_
  refine oN ?_
  refine thenQ_normal ?_
  refine WI.cond (b := _) rfl rfl (fun h0 => ?_) (fun h0 => ?_)
  · try simp only [zB] at h0
    refine WI.seq ?_
    refine WI.regB tabCt5_ok [6] ?_
    iterate 2 refine oS ?_
    refine oN ?_
    refine thenQ_normal ?_
    refine WI.nnA ?_
    refine WI.ret ?_
    refine thenQ_ret ?_
    first | refine lfR ?_ | refine lfR2 ?_
    first | rfl | exact ⟨rfl, rfl⟩ | trivial -- leaf 0
  · exfalso
    first | (exact absurd rfl h0) | simp at h0
/-- One attribute, if it has values. -/
def oneR (n : List UInt8) (v : List (List UInt8)) : List (List X) := if v = [] then [] else [[.str n, .sl (rows rStr v)]]
theorem putE_c (attr : List UInt8) (vs : List (List UInt8)) (hnd : vs.Nodup) (hl : vs.length ≤ 1000) (ha : attr.length ≤ 1000) : PCalls Try.prog 80 [.x .nils, .x (.str attr), .x (.sl (rows rStr vs))] (.x (.sl (oneR (lowS attr) vs))) := by
  by_cases h : vs = []
  · subst h; exact put00_c attr ha
  · rw [oneR, if_neg h]; exact put0_c attr vs h hnd hl ha
def putEG : List D → Option (Bool × D)
  | [.x .nils, .x (.str attr), .x (.sl V)] => (unrows rStr V).bind fun vs => some (decide (vs.Nodup) && (decide (vs.length ≤ 1000) && (decide (attr.length ≤ 1000))), .x (.sl (oneR (lowS attr) vs)))
  | _ => none
theorem putEG_ok : ∀ args r, putEG args = some (true, r) → PCalls Try.prog 80 args r := by
  intro args r h
  unfold putEG at h
  split at h
  · rename_i attr V
    obtain ⟨vs, hr0, h⟩ := Option.bind_eq_some_iff.1 h
    simp only [Option.some.injEq, Prod.mk.injEq, Bool.and_eq_true, decide_eq_true_eq, true_and] at h
    obtain ⟨⟨h1, h2, h3⟩, rfl⟩ := h
    rw [← rows_unrows good_rStr hr0]
    exact putE_c attr vs h1 h2 h3
  · cases h
theorem eclean0_c (dn : List UInt8) : PCalls Try.prog 79 [.agg [.x (.str dn), .x .nils]] (.agg [.x (.str dn), .x .nils]) := by
  refine FCalls.pure (fcallsG (fz := true) G_ok (p := i79) rfl _ (Nat.le_of_ble_eq_true rfl) _ (fun C0 E0 => ?_)) rfl
  dsimp only [i79, argsφ]
  have uu := trivial
  refine WI.seq ?_
  refine WI.regB noTabs_ok [1, 2] ?_
  iterate 2 refine oG ?_
  refine oN ?_
  refine thenQ_normal ?_
  refine WI.seq ?_
  refine WI.regB noTabs_ok [1, 2, 3] ?_
  refine oS ?_
  iterate 4 refine oG ?_
  refine oN ?_
  refine thenQ_normal ?_
  refine WI.seq ?_
  refine WI.seq ?_
  refine WI.regB noTabs_ok [2, 3, 10, 11, 12] ?_
  refine oS ?_
  iterate 2 refine oG ?_
  refine oS ?_
  refine oN ?_
  refine thenQ_normal ?_
  refine WI.block ?_
  refine WI.loop (fun φ os => φ = [(2, .ptr 1 0), (3, .ptr 2 0), (10, .x .nils), (11, .x (.int .i64 0)), (12, .x (.int .i64 0))] ∧ os = [.box [.x (.str dn), .x .nils], .box [.x (.str []), .x .nils], .box [.x (.str dn), .x .nils]]) (down 0 12) ?_ (fun φ os hI => ?_)
  · exact ⟨rfl, rfl⟩
  · obtain ⟨rfl, rfl⟩ := hI
    refine WI.seq ?_
    refine WI.regB noTabs_ok [2, 3, 10, 11, 12, 13] ?_
    refine oG ?_
    refine oN ?_
    refine thenQ_normal ?_
    refine WI.seq ?_
    refine WI.cond (b := _) rfl rfl (fun h0 => ?_) (fun h0 => ?_)
    · exfalso
      simp at h0
    · try simp only [zB] at h0
      refine WI.exit ?_
      refine thenQ_exit ?_
      refine thenQ_exit ?_
      refine blockQ_hit ?_
      refine thenQ_normal ?_
      refine WI.seq ?_
      refine WI.regB noTabs_ok [2] ?_
      iterate 2 refine oG ?_
      refine oN ?_
      refine thenQ_normal ?_
      refine WI.ret ?_
      first | refine lfR ?_ | refine lfR2 ?_
      first | rfl | exact ⟨rfl, rfl⟩ | trivial -- leaf 0
def eclean0G : List D → Option (Bool × D)
  | [.agg [.x (.str dn), .x .nils]] => some (true, .agg [.x (.str dn), .x .nils])
  | _ => none
theorem eclean0G_ok : ∀ args r, eclean0G args = some (true, r) → PCalls Try.prog 79 args r := by
  intro args r h
  unfold eclean0G at h
  split at h
  · simp only [Option.some.injEq, Prod.mk.injEq, true_and] at h
    subst h; exact eclean0_c _
  · cases h
def tabCt6 : Tabs := addT (addQ (addQ (noTabs) 79 eclean0G) 80 putEG) 80 (frzT putEG)
theorem tabCt6_ok : SsOk Try.prog tabCt6 := addT_ok (addQ_ok (addQ_ok (noTabs_ok) (G_enters G_ok (p := i79) rfl) eclean0G_ok) (G_enters G_ok (p := i80) rfl) putEG_ok) (G_enters G_ok (p := i80) rfl) (frzT_ok putEG_ok)
theorem tabCt6_q79 (a : List D) : tabCt6.q 79 a = eclean0G a := rfl
theorem tabCt6_q80 (a : List D) : tabCt6.q 80 a = putEG a := rfl
theorem tabCt6_t80 (a : List D) (o : List Ob) : tabCt6.t 80 a o = liftT (frzT putEG) a o := rfl
theorem tabCt6_r (f : FuncId) (a : List D) (o : List Ob) : tabCt6.r f a o = none := rfl
theorem tabCt6_k (f : FuncId) (a : List D) (o : List Ob) : tabCt6.k f a o = none := rfl
theorem ewith0_c (dn attr : List UInt8) (vs : List (List UInt8)) (hnd : vs.Nodup) (hl : vs.length ≤ 1000) (ha : attr.length ≤ 1000) : PCalls Try.prog 58 [.agg [.x (.str dn), .x .nils], .x (.str attr), .x (.sl (rows rStr vs))] (.agg [.x (.str dn), .x (.sl (oneR (lowS attr) vs))]) := by
  refine FCalls.pure (fcallsG (fz := true) G_ok (p := i58) rfl _ (Nat.le_of_ble_eq_true rfl) _ (fun C0 E0 => ?_)) rfl
  dsimp only [i58, argsφ]
  have uu := And.intro @eclean0G.eq_1 (And.intro @eclean0G.eq_2 (And.intro @putEG.eq_1 (And.intro @putEG.eq_2 (And.intro @un_s (And.intro @tabCt6_r (And.intro @tabCt6_k (And.intro @tabCt6_q79 (And.intro @tabCt6_q80 (And.intro @tabCt6_t80 (@frzT.eq_1))))))))))
  refine WI.seq ?_
  refine WI.regB tabCt6_ok [1, 2, 3, 6] ?_
  iterate 2 refine oG (hok := by first | with_reducible rfl | omega | (rw [Bool.and_eq_true, Bool.and_eq_true]; exact ⟨decide_eq_true hnd, decide_eq_true hl, decide_eq_true ha⟩) | (simp; done) | (simp; omega) | rfl) ?_
  refine oN ?_
  refine thenQ_normal ?_
  refine WI.seq ?_
  refine WI.regB tabCt6_ok [1, 2, 6, 7] ?_
  refine oG (hok := by first | with_reducible rfl | omega | (rw [Bool.and_eq_true, Bool.and_eq_true]; exact ⟨decide_eq_true hnd, decide_eq_true hl, decide_eq_true ha⟩) | (simp; done) | (simp; omega) | rfl) ?_
  refine oC (hok := by first | with_reducible rfl | omega | (rw [Bool.and_eq_true, Bool.and_eq_true]; exact ⟨decide_eq_true hnd, decide_eq_true hl, decide_eq_true ha⟩) | (simp; done) | (simp; omega) | rfl) ?_
  iterate 2 refine oG (hok := by first | with_reducible rfl | omega | (rw [Bool.and_eq_true, Bool.and_eq_true]; exact ⟨decide_eq_true hnd, decide_eq_true hl, decide_eq_true ha⟩) | (simp; done) | (simp; omega) | rfl) ?_
  refine oN ?_
  refine thenQ_normal ?_
  refine WI.seq ?_
  refine WI.regB tabCt6_ok [6, 7] ?_
  refine oS ?_
  refine oG (hok := by first | with_reducible rfl | omega | (rw [Bool.and_eq_true, Bool.and_eq_true]; exact ⟨decide_eq_true hnd, decide_eq_true hl, decide_eq_true ha⟩) | (simp; done) | (simp; omega) | rfl) ?_
  iterate 2 refine oS ?_
  refine oC (hok := by first | with_reducible rfl | omega | (rw [Bool.and_eq_true, Bool.and_eq_true]; exact ⟨decide_eq_true hnd, decide_eq_true hl, decide_eq_true ha⟩) | (simp; done) | (simp; omega) | rfl) ?_
  refine oS ?_
  refine oG (hok := by first | with_reducible rfl | omega | (rw [Bool.and_eq_true, Bool.and_eq_true]; exact ⟨decide_eq_true hnd, decide_eq_true hl, decide_eq_true ha⟩) | (simp; done) | (simp; omega) | rfl) ?_
  refine oN ?_
  refine thenQ_normal ?_
  refine WI.seq ?_
  refine WI.regB tabCt6_ok [6] ?_
  iterate 2 refine oG (hok := by first | with_reducible rfl | omega | (rw [Bool.and_eq_true, Bool.and_eq_true]; exact ⟨decide_eq_true hnd, decide_eq_true hl, decide_eq_true ha⟩) | (simp; done) | (simp; omega) | rfl) ?_
  refine oN ?_
  refine thenQ_normal ?_
  refine WI.ret ?_
  first | refine lfR ?_ | refine lfR2 ?_
  first | rfl | exact ⟨rfl, rfl⟩ | trivial -- leaf 0
def ewith0G : List D → Option (Bool × D)
  | [.agg [.x (.str dn), .x .nils], .x (.str attr), .x (.sl V)] => (unrows rStr V).bind fun vs => some (decide (vs.Nodup) && (decide (vs.length ≤ 1000) && (decide (attr.length ≤ 1000))), .agg [.x (.str dn), .x (.sl (oneR (lowS attr) vs))])
  | _ => none
theorem ewith0G_ok : ∀ args r, ewith0G args = some (true, r) → PCalls Try.prog 58 args r := by
  intro args r h
  unfold ewith0G at h
  split at h
  · rename_i dn attr V
    obtain ⟨vs, hr0, h⟩ := Option.bind_eq_some_iff.1 h
    simp only [Option.some.injEq, Prod.mk.injEq, Bool.and_eq_true, decide_eq_true_eq, true_and] at h
    obtain ⟨⟨h1, h2, h3⟩, rfl⟩ := h
    rw [← rows_unrows good_rStr hr0]
    exact ewith0_c dn attr vs h1 h2 h3
  · cases h
theorem bN {α β : Type} (o : Option α) : (o.bind fun _ => (none : Option β)) = none := by cases o <;> rfl
theorem idsL_xI : ∀ l : List Int, idsL (l.map xI) = []
  | [] => rfl
  | x :: l => by rw [List.map_cons]; exact idsL_xI l
theorem inL_xI (f : Nat → Bool) : ∀ l : List Int, inL f (l.map xI) = true
  | [] => rfl
  | x :: l => by rw [List.map_cons]; exact inL_xI f l
theorem renL_xI (f : Nat → Nat) : ∀ l : List Int, renL f (l.map xI) = l.map xI
  | [] => rfl
  | x :: l => by
    have ih := renL_xI f l
    simp only [List.map_cons, renL] at ih ⊢
    rw [ih]; rfl
def linesK : List D → List Ob → Option (Bool × D × Ob)
  | [.x (.str mark), .bref 0 off len], [.box B] => (unI B).bind fun l => some (decide (mark.length ≤ 100 ∧ off + len ≤ l.length ∧ len ≤ 128 ∧ ∀ x ∈ l, 0 ≤ x ∧ x < 1000), .ref 1 (linL mark 0 ((l.drop off).take len)).length 0 (linL mark 0 ((l.drop off).take len)).length, .rows false 9 1 (rows rStr (linL mark 0 ((l.drop off).take len))))
  | _, _ => none
theorem linesK_ok : ∀ args os r ob, linesK args os = some (true, r, ob) → (∃ fz e sz rs, ob = .rows fz e sz rs) ∧ MCalls Try.prog 57 args os r (os ++ [ob]) := by
  intro args os r ob h
  unfold linesK at h
  split at h
  · rename_i mark off len B
    obtain ⟨l, h0, h⟩ := Option.bind_eq_some_iff.1 h
    simp only [Option.some.injEq, Prod.mk.injEq, decide_eq_true_eq] at h
    obtain ⟨⟨h1, h2, h3, h4⟩, rfl, rfl⟩ := h
    rw [unI_inv h0]
    exact ⟨⟨_, _, _, _, rfl⟩, lines_c mark l off len h1 h2 h3 h4⟩
  · cases h
def tabCt7 : Tabs := addQ (addK (noTabs) 57 linesK) 58 ewith0G
theorem tabCt7_ok : SsOk Try.prog tabCt7 := addQ_ok (addK_ok (noTabs_ok) (G_enters G_ok (p := i57) rfl) linesK_ok) (G_enters G_ok (p := i58) rfl) ewith0G_ok
theorem tabCt7_q57 (a : List D) : tabCt7.q 57 a = none := rfl
theorem tabCt7_t57 (a : List D) (o : List Ob) : tabCt7.t 57 a o = liftT (fun args os => (linesK args os).map fun q => (q.1, q.2.1, os ++ [q.2.2])) a o := rfl
theorem tabCt7_k57 (a : List D) (o : List Ob) : tabCt7.k 57 a o = newT linesK a o := rfl
theorem tabCt7_q58 (a : List D) : tabCt7.q 58 a = ewith0G a := rfl
theorem tabCt7_r (f : FuncId) (a : List D) (o : List Ob) : tabCt7.r f a o = none := rfl
/-- What is told of counts. -/
def wantL (l : List Int) : List (List UInt8) := linL [107] 0 ((l.drop 0).take 32) ++ linL [99] 0 ((l.drop 32).take 128)
abbrev entD (w : List (List UInt8)) : D := .agg [.x (.str [99, 110, 61, 109, 111, 110, 105, 116, 111, 114]), .x (.sl (oneR (lowS [100, 101, 115, 99, 114, 105, 112, 116, 105, 111, 110]) w))]
theorem entry_c (l : List Int) (hl : l.length = 160) (hb : ∀ x ∈ l, 0 ≤ x ∧ x < 1000) (hnd : (wantL l).Nodup) : MCalls Try.prog 25 [.ptr 0 0] [cnB l] (entD (wantL l)) [cnB l, .box [.x (.str [99, 110, 61, 109, 111, 110, 105, 116, 111, 114]), .x (.sl (oneR (lowS [100, 101, 115, 99, 114, 105, 112, 116, 105, 111, 110]) (wantL l)))]] := by
  have h1 := linL_len [107] ((l.drop 0).take 32) 0
  have h2 := linL_len [99] ((l.drop 32).take 128) 0
  simp only [List.length_take, List.length_drop, List.drop_zero] at h1 h2
  have hbd : decide (∀ x ∈ l, 0 ≤ x ∧ x < 1000) = true := decide_eq_true hb
  have hwl : (wantL l).length ≤ 1000 := by unfold wantL; rw [List.length_append]; simp only [List.drop_zero] at h1 h2 ⊢; omega
  have hW : (linL [107] 0 (l.take 32) ++ linL [99] 0 ((l.drop 32).take 128)).take ((linL [107] 0 (l.take 32)).length + (linL [99] 0 ((l.drop 32).take 128)).length) = wantL l := List.take_of_length_le (Nat.le_of_eq List.length_append)
  refine FCalls.mcalls (fcallsG (fz := true) G_ok (p := i25) rfl _ (Nat.le_of_ble_eq_true rfl) _ (fun C0 E0 => ?_))
  dsimp only [i25, argsφ]
  have uu := And.intro @linesK.eq_1 (And.intro @linesK.eq_2 (And.intro @ewith0G.eq_1 (And.intro @ewith0G.eq_2 (And.intro @un_s (And.intro @unI_map (And.intro @idsL_xI (And.intro @inL_xI (And.intro @renL_xI (And.intro @idsD.eq_1 (And.intro @idsD.eq_2 (And.intro @idsD.eq_3 (And.intro @idsD.eq_4 (And.intro @idsD.eq_5 (And.intro @idsD.eq_6 (And.intro @idsD.eq_7 (And.intro @idsD.eq_8 (And.intro @idsD.eq_9 (And.intro @idsD.eq_10 (And.intro @idsD.eq_11 (And.intro @idsD.eq_12 (And.intro @idsD.eq_13 (And.intro @idsD.eq_14 (And.intro @idsD.eq_15 (And.intro @idsD.eq_16 (And.intro @idsD.eq_17 (And.intro @D.inP.eq_1 (And.intro @D.inP.eq_2 (And.intro @D.inP.eq_3 (And.intro @D.inP.eq_4 (And.intro @D.inP.eq_5 (And.intro @D.inP.eq_6 (And.intro @D.inP.eq_7 (And.intro @D.inP.eq_8 (And.intro @D.inP.eq_9 (And.intro @D.inP.eq_10 (And.intro @D.inP.eq_11 (And.intro @D.inP.eq_12 (And.intro @D.inP.eq_13 (And.intro @D.inP.eq_14 (And.intro @D.inP.eq_15 (And.intro @D.inP.eq_16 (And.intro @D.inP.eq_17 (And.intro @D.ren.eq_1 (And.intro @D.ren.eq_2 (And.intro @D.ren.eq_3 (And.intro @D.ren.eq_4 (And.intro @D.ren.eq_5 (And.intro @D.ren.eq_6 (And.intro @D.ren.eq_7 (And.intro @D.ren.eq_8 (And.intro @D.ren.eq_9 (And.intro @D.ren.eq_10 (And.intro @D.ren.eq_11 (And.intro @D.ren.eq_12 (And.intro @D.ren.eq_13 (And.intro @D.ren.eq_14 (And.intro @D.ren.eq_15 (And.intro @D.ren.eq_16 (And.intro @D.ren.eq_17 (And.intro @List.length_map.{0, 0} (And.intro hl (And.intro @bN (And.intro hbd (And.intro @tabCt7_r (And.intro @tabCt7_k57 (And.intro @tabCt7_q57 (And.intro @tabCt7_q58 (@tabCt7_t57))))))))))))))))))))))))))))))))))))))))))))))))))))))))))))))))))))
  refine WI.seq ?_
  refine WI.regB tabCt7_ok [0, 2] ?_
  refine oG (hok := by first | with_reducible rfl | omega | (exact decide_eq_true (by simp only [List.length_take]; omega)) | (rw [Bool.and_eq_true, Bool.and_eq_true]; exact ⟨decide_eq_true hnd, decide_eq_true hwl, rfl⟩) | (rw [Bool.and_eq_true]; exact ⟨decide_eq_true hnd, decide_eq_true hwl⟩) | (simp; done) | (simp; omega) | rfl) ?_
  refine oN ?_
  refine thenQ_normal ?_
  refine WI.seq ?_
  refine WI.seq ?_
  refine WI.regB tabCt7_ok [0, 2, 5] ?_
  refine oS ?_
  refine oG (hok := by first | with_reducible rfl | omega | (exact decide_eq_true (by simp only [List.length_take]; omega)) | (rw [Bool.and_eq_true, Bool.and_eq_true]; exact ⟨decide_eq_true hnd, decide_eq_true hwl, rfl⟩) | (rw [Bool.and_eq_true]; exact ⟨decide_eq_true hnd, decide_eq_true hwl⟩) | (simp; done) | (simp; omega) | rfl) ?_
  refine oN ?_
  refine thenQ_normal ?_
  refine WI.cond (b := _) rfl rfl (fun h0 => ?_) (fun h0 => ?_)
  · exfalso
    simp at h0
  · try simp only [zB] at h0
    refine WI.skip ?_
    refine thenQ_normal ?_
    refine WI.seq ?_
    refine WI.post ?_
    refine WI.dregB tabCt7_ok [2, 3] ?_
    iterate 3 refine dFS ?_
    refine dQG (hok := by first | with_reducible rfl | omega | (exact decide_eq_true (by simp only [List.length_take]; omega)) | (rw [Bool.and_eq_true, Bool.and_eq_true]; exact ⟨decide_eq_true hnd, decide_eq_true hwl, rfl⟩) | (rw [Bool.and_eq_true]; exact ⟨decide_eq_true hnd, decide_eq_true hwl⟩) | (simp; done) | (simp; omega) | rfl) ?_
    refine dKC (hok := by first | with_reducible rfl | omega | (exact decide_eq_true (by simp only [List.length_take]; omega)) | (rw [Bool.and_eq_true, Bool.and_eq_true]; exact ⟨decide_eq_true hnd, decide_eq_true hwl, rfl⟩) | (rw [Bool.and_eq_true]; exact ⟨decide_eq_true hnd, decide_eq_true hwl⟩) | (simp; done) | (simp; omega) | rfl) ?_
    iterate 3 refine dFS ?_
    refine dQG (hok := by first | with_reducible rfl | omega | (exact decide_eq_true (by simp only [List.length_take]; omega)) | (rw [Bool.and_eq_true, Bool.and_eq_true]; exact ⟨decide_eq_true hnd, decide_eq_true hwl, rfl⟩) | (rw [Bool.and_eq_true]; exact ⟨decide_eq_true hnd, decide_eq_true hwl⟩) | (simp; done) | (simp; omega) | rfl) ?_
    refine dAC (hok := by first | with_reducible rfl | omega | (exact decide_eq_true (by simp only [List.length_take]; omega)) | (rw [Bool.and_eq_true, Bool.and_eq_true]; exact ⟨decide_eq_true hnd, decide_eq_true hwl, rfl⟩) | (rw [Bool.and_eq_true]; exact ⟨decide_eq_true hnd, decide_eq_true hwl⟩) | (simp; done) | (simp; omega) | rfl) ?_
    refine dAG (hok := by first | with_reducible rfl | omega | (exact decide_eq_true (by simp only [List.length_take]; omega)) | (rw [Bool.and_eq_true, Bool.and_eq_true]; exact ⟨decide_eq_true hnd, decide_eq_true hwl, rfl⟩) | (rw [Bool.and_eq_true]; exact ⟨decide_eq_true hnd, decide_eq_true hwl⟩) | (simp; done) | (simp; omega) | rfl) ?_
    refine dFS ?_
    refine dP ?_
    refine pPick [0, 1, 2] ?_
    refine pEnd ?_
    refine thenQ_normal ?_
    refine WI.seq ?_
    rw [List.take_length, ← List.length_append]
    refine WI.freezeA [2] ?_
    refine WI.pickA [0, 1] ?_
    rw [pk_xI, hW]
    refine WI.regB tabCt7_ok [2] ?_
    refine oG (hok := by first | with_reducible rfl | omega | (exact decide_eq_true (by simp only [List.length_take]; omega)) | (rw [Bool.and_eq_true, Bool.and_eq_true]; exact ⟨decide_eq_true hnd, decide_eq_true hwl, rfl⟩) | (rw [Bool.and_eq_true]; exact ⟨decide_eq_true hnd, decide_eq_true hwl⟩) | (simp; done) | (simp; omega) | rfl) ?_
    refine oS ?_
    refine oC (hok := by first | with_reducible rfl | omega | (exact decide_eq_true (by simp only [List.length_take]; omega)) | (rw [Bool.and_eq_true, Bool.and_eq_true]; exact ⟨decide_eq_true hnd, decide_eq_true hwl, rfl⟩) | (rw [Bool.and_eq_true]; exact ⟨decide_eq_true hnd, decide_eq_true hwl⟩) | (simp; done) | (simp; omega) | rfl) ?_
    refine oG (hok := by first | with_reducible rfl | omega | (exact decide_eq_true (by simp only [List.length_take]; omega)) | (rw [Bool.and_eq_true, Bool.and_eq_true]; exact ⟨decide_eq_true hnd, decide_eq_true hwl, rfl⟩) | (rw [Bool.and_eq_true]; exact ⟨decide_eq_true hnd, decide_eq_true hwl⟩) | (simp; done) | (simp; omega) | rfl) ?_
    refine oN ?_
    refine thenQ_normal ?_
    refine WI.ret ?_
    first | refine lfR ?_ | refine lfR2 ?_
    exact ⟨rfl, by rw [pk_xI]⟩ -- leaf 0
def entryR : List D → List Ob → Option (Bool × D)
  | [.ptr 0 0], [.box B] => (unI B).bind fun l => some (decide (l.length = 160) && (decide (∀ x ∈ l, 0 ≤ x ∧ x < 1000) && decide ((wantL l).Nodup)), entD (wantL l))
  | _, _ => none
theorem entryR_ok : ∀ args os r, entryR args os = some (true, r) → r.clean = true ∧ ∃ X, MCalls Try.prog 25 args os r (os ++ X) := by
  intro args os r h
  unfold entryR at h
  split at h
  · rename_i B
    obtain ⟨l, h0, h⟩ := Option.bind_eq_some_iff.1 h
    simp only [Option.some.injEq, Prod.mk.injEq, decide_eq_true_eq, Bool.and_eq_true] at h
    obtain ⟨⟨h1, h2, h3⟩, rfl⟩ := h
    rw [unI_inv h0]
    exact ⟨rfl, _, entry_c l h1 h2 h3⟩
  · cases h
/-! ### counts that are none -/
theorem noteN_c (k c : Int) : PCalls Try.prog 18 [.x .nilp, msgD k c] (.tup []) := by
  refine FCalls.pure (fcallsG (fz := true) G_ok (p := i18) rfl _ (Nat.le_of_ble_eq_true rfl) _ (fun C0 E0 => ?_)) rfl
  dsimp only [i18, argsφ]
  have uu := trivial
  refine WI.seq ?_
  refine WI.regB noTabs_ok [0, 3] ?_
  refine oG ?_
  refine oN ?_
  refine thenQ_normal ?_
  refine WI.seq ?_
  refine WI.seq ?_
  refine WI.regB noTabs_ok [0, 3, 16] ?_
  refine oS ?_
  refine oG ?_
  refine oS ?_
  iterate 4 refine oG ?_
  refine oS ?_
  iterate 4 refine oG ?_
  refine oN ?_
  refine thenQ_normal ?_
  refine WI.cond (b := _) rfl rfl (fun h0 => ?_) (fun h0 => ?_)
  · try simp only [zB] at h0
    refine WI.ret ?_
    refine thenQ_ret ?_
    first | refine lfR ?_ | refine lfR2 ?_
    first | rfl | exact ⟨rfl, rfl⟩ | trivial -- leaf 0
  · exfalso
    simp at h0
theorem ofN_c (k : Int) : PCalls Try.prog 19 [.x .nilp, xI k] (xI 0) := by
  refine FCalls.pure (fcallsG (fz := true) G_ok (p := i19) rfl _ (Nat.le_of_ble_eq_true rfl) _ (fun C0 E0 => ?_)) rfl
  dsimp only [i19, argsφ]
  have uu := trivial
  refine WI.seq ?_
  refine WI.regB noTabs_ok [0, 1] ?_
  refine oS ?_
  refine oN ?_
  refine thenQ_normal ?_
  refine WI.seq ?_
  refine WI.seq ?_
  refine WI.regB noTabs_ok [0, 1, 14] ?_
  refine oS ?_
  refine oG ?_
  refine oS ?_
  iterate 3 refine oG ?_
  refine oS ?_
  iterate 3 refine oG ?_
  refine oN ?_
  refine thenQ_normal ?_
  refine WI.cond (b := _) rfl rfl (fun h0 => ?_) (fun h0 => ?_)
  · try simp only [zB] at h0
    refine WI.seq ?_
    refine WI.regB noTabs_ok [4] ?_
    refine oS ?_
    refine oN ?_
    refine thenQ_normal ?_
    refine WI.ret ?_
    refine thenQ_ret ?_
    first | refine lfR ?_ | refine lfR2 ?_
    first | rfl | exact ⟨rfl, rfl⟩ | trivial -- leaf 0
  · exfalso
    simp at h0
theorem codesN_c (k : Int) : PCalls Try.prog 22 [.x .nilp, xI k] (xI 0) := by
  refine FCalls.pure (fcallsG (fz := true) G_ok (p := i22) rfl _ (Nat.le_of_ble_eq_true rfl) _ (fun C0 E0 => ?_)) rfl
  dsimp only [i22, argsφ]
  have uu := trivial
  refine WI.seq ?_
  refine WI.regB noTabs_ok [0, 1] ?_
  refine oS ?_
  refine oN ?_
  refine thenQ_normal ?_
  refine WI.seq ?_
  refine WI.seq ?_
  refine WI.regB noTabs_ok [0, 1, 14] ?_
  refine oS ?_
  refine oG ?_
  refine oS ?_
  iterate 3 refine oG ?_
  refine oS ?_
  iterate 3 refine oG ?_
  refine oN ?_
  refine thenQ_normal ?_
  refine WI.cond (b := _) rfl rfl (fun h0 => ?_) (fun h0 => ?_)
  · try simp only [zB] at h0
    refine WI.seq ?_
    refine WI.regB noTabs_ok [4] ?_
    refine oS ?_
    refine oN ?_
    refine thenQ_normal ?_
    refine WI.ret ?_
    refine thenQ_ret ?_
    first | refine lfR ?_ | refine lfR2 ?_
    first | rfl | exact ⟨rfl, rfl⟩ | trivial -- leaf 0
  · exfalso
    simp at h0
theorem entryN_c : PCalls Try.prog 25 [.x .nilp] (.agg [.x (.str []), .x .nils]) := by
  refine FCalls.pure (fcallsG (fz := true) G_ok (p := i25) rfl _ (Nat.le_of_ble_eq_true rfl) _ (fun C0 E0 => ?_)) rfl
  dsimp only [i25, argsφ]
  have uu := trivial
  refine WI.seq ?_
  refine WI.regB noTabs_ok [0, 2] ?_
  refine oG ?_
  refine oN ?_
  refine thenQ_normal ?_
  refine WI.seq ?_
  refine WI.seq ?_
  refine WI.regB noTabs_ok [0, 2, 5] ?_
  refine oS ?_
  refine oG ?_
  refine oN ?_
  refine thenQ_normal ?_
  refine WI.cond (b := _) rfl rfl (fun h0 => ?_) (fun h0 => ?_)
  · try simp only [zB] at h0
    refine WI.seq ?_
    refine WI.regB noTabs_ok [2] ?_
    iterate 2 refine oG ?_
    refine oN ?_
    refine thenQ_normal ?_
    refine WI.ret ?_
    refine thenQ_ret ?_
    first | refine lfR ?_ | refine lfR2 ?_
    first | rfl | exact ⟨rfl, rfl⟩ | trivial -- leaf 0
  · exfalso
    simp at h0
end Go.Proofs.Ytcffpndhodhncaa
end
section
/- Count: awake. -/
set_option linter.unusedSimpArgs false
set_option linter.unusedVariables false
namespace Go.Proofs.Ytcffpndhodhncaa
open Go.RowKit Go.Bo Go.Ab

def tabCt8 : Tabs := addQ (addQ (addQ (addR (noTabs) 25 entryR) 55 lower5G) 54 (viaNN rputG)) 53 (viaNN rcleanG)
theorem tabCt8_ok : SsOk Try.prog tabCt8 := addQ_ok (addQ_ok (addQ_ok (addR_ok (noTabs_ok) (G_enters G_ok (p := i25) rfl) entryR_ok) (G_enters G_ok (p := i55) rfl) lower5G_ok) (G_enters G_ok (p := i54) rfl) (viaNN_ok rputG_ok)) (G_enters G_ok (p := i53) rfl) (viaNN_ok rcleanG_ok)
theorem tabCt8_q25 (a : List D) : tabCt8.q 25 a = none := rfl
theorem tabCt8_t25 (a : List D) (o : List Ob) : tabCt8.t 25 a o = (readT entryR a o).map fun r => (r.1, r.2, o) := rfl
theorem tabCt8_r25 (a : List D) (o : List Ob) : tabCt8.r 25 a o = readT entryR a o := rfl
theorem tabCt8_q55 (a : List D) : tabCt8.q 55 a = lower5G a := rfl
theorem tabCt8_q54 (a : List D) : tabCt8.q 54 a = viaNN rputG a := rfl
theorem tabCt8_q53 (a : List D) : tabCt8.q 53 a = viaNN rcleanG a := rfl
theorem tabCt8_r53 (a : List D) (o : List Ob) : tabCt8.r 53 a o = none := rfl
theorem tabCt8_r54 (a : List D) (o : List Ob) : tabCt8.r 54 a o = none := rfl
theorem tabCt8_r55 (a : List D) (o : List Ob) : tabCt8.r 55 a o = none := rfl
theorem tabCt8_k (f : FuncId) (a : List D) (o : List Ob) : tabCt8.k f a o = none := rfl
theorem awake51 : PCalls Try.prog 16 [] (.x (.bool true)) := ev_closedS G_ok 300 (p := i16) rfl tabCt8_ok (by kernel_rfl) rfl
end Go.Proofs.Ytcffpndhodhncaa
end
section
/- bothyref01.Texts: whether two lists of texts are the same. -/
set_option linter.unusedSimpArgs false
namespace Go.Proofs.Ytcffpndhodhncaa
open Go.RowKit Go.Bo Go.Ab

theorem take_extT {α : Type} {a b : List α} {i : Nat} (h : a.take i = b.take i) (ha : i < a.length) (hb : i < b.length) (he : a[i] = b[i]) : a.take (i + 1) = b.take (i + 1) := by
  rw [List.take_add_one, List.take_add_one, h]; simp [List.getElem?_eq_getElem ha, List.getElem?_eq_getElem hb, he]

theorem texts_c (a b : List (List UInt8)) : PCalls Try.prog 56 [.x (.sl (rows rStr a)), .x (.sl (rows rStr b))] (.x (.bool (decide (a = b)))) := by
  refine PCalls.wf (fun hw => ?_)
  have ha : a.length ≤ maxLen := by have := (hw _ (List.mem_cons_self)).1; rwa [rows_len] at this
  have hb : b.length ≤ maxLen := by have := (hw _ (List.mem_cons_of_mem _ List.mem_cons_self)).1; rwa [rows_len] at this
  clear hw
  simp only [maxLen] at ha hb
  refine FCalls.pure (fcallsG (fz := true) G_ok (p := i56) rfl _ (Nat.le_of_ble_eq_true rfl) _ (fun c E0 => ?_)) rfl
  dsimp only [i56, argsφ]
  have uu := trivial
  refine WI.seq ?_
  refine WI.regB noTabs_ok [0, 1] ?_
  refine oS ?_
  refine oN ?_
  refine thenQ_normal ?_
  refine WI.seq ?_
  refine WI.seq ?_
  refine WI.regB noTabs_ok [0, 1, 10] ?_
  refine oS ?_
  refine oG ?_
  refine oS ?_
  iterate 2 refine oG ?_
  refine oN ?_
  refine thenQ_normal ?_
  refine WI.cond (b := _) rfl rfl (fun h0 => ?_) (fun h0 => ?_)
  · try simp only [zB] at h0
    refine WI.seq ?_
    refine WI.regB noTabs_ok [4] ?_
    refine oS ?_
    refine oN ?_
    refine thenQ_normal ?_
    refine WI.ret ?_
    refine thenQ_ret ?_
    first | refine lfR ?_ | refine lfR2 ?_
    rw [decide_eq_false (fun e => h0 (by rw [e]))] -- leaf 0
  · try simp only [zB] at h0
    refine WI.skip ?_
    refine thenQ_normal ?_
    refine WI.seq ?_
    refine WI.seq ?_
    refine WI.regB noTabs_ok [0, 1, 5] ?_
    refine oS ?_
    refine oN ?_
    refine thenQ_normal ?_
    refine WI.block ?_
    refine WI.loop (fun φ os => ∃ i : Nat, φ = [(0, .x (.sl (rows rStr a))), (1, .x (.sl (rows rStr b))), (5, .x (.int .i64 i))] ∧ os = [] ∧ i ≤ a.length ∧ a.take i = b.take i) (down a.length 5) ?_ (fun φ os hI => ?_)
    · exact ⟨0, rfl, rfl, by omega, by simp⟩
    · obtain ⟨i, rfl, rfl, hi, he⟩ := hI
      refine WI.seq ?_
      refine WI.seq ?_
      refine WI.regB noTabs_ok [0, 1, 5, 14] ?_
      iterate 2 refine oS ?_
      iterate 2 refine oG ?_
      refine oN ?_
      refine thenQ_normal ?_
      refine WI.cond (b := _) rfl rfl (fun h1 => ?_) (fun h1 => ?_)
      · try simp only [zB] at h1
        refine WI.skip ?_
        refine thenQ_normal ?_
        refine WI.seq ?_
        refine WI.block ?_
        refine WI.seq ?_
        refine WI.dregB noTabs_ok [0, 1, 5, 25] ?_
        iterate 2 refine dFS ?_
        iterate 2 refine dQG ?_
        iterate 2 refine dFS ?_
        iterate 2 refine dQG ?_
        refine dFG ?_
        refine dN ?_
        refine thenQ_normal ?_
        refine WI.cond (b := _) rfl rfl (fun h2 => ?_) (fun h2 => ?_)
        · try simp only [zB] at h2
          refine WI.seq ?_
          refine WI.regB noTabs_ok [4] ?_
          refine oS ?_
          refine oN ?_
          refine thenQ_normal ?_
          refine WI.ret ?_
          refine blockQ_ret ?_
          refine thenQ_ret ?_
          refine thenQ_ret ?_
          refine blockQ_ret ?_
          refine thenQ_ret ?_
          first | refine lfR ?_ | refine lfR2 ?_
          rw [decide_eq_false (fun e => h2 (by subst e; rfl))] -- leaf 1
        · try simp only [zB] at h2
          refine WI.skip ?_
          refine blockQ_normal ?_
          refine thenQ_normal ?_
          refine WI.regB noTabs_ok [0, 1, 5] ?_
          refine oS ?_
          refine oG ?_
          refine oS ?_
          refine oN ?_
          refine thenQ_normal ?_
          exact ⟨⟨i + 1, by simp, rfl, by omega, take_extT he (by omega) (by omega) h2⟩, by simp [down, Ab.get, D.val, intOf?]; omega⟩
      · try simp only [zB] at h1
        refine WI.exit ?_
        refine thenQ_exit ?_
        refine thenQ_exit ?_
        refine blockQ_hit ?_
        refine thenQ_normal ?_
        refine WI.seq ?_
        refine WI.regB noTabs_ok [4] ?_
        refine oS ?_
        refine oN ?_
        refine thenQ_normal ?_
        refine WI.ret ?_
        first | refine lfR ?_ | refine lfR2 ?_
        rw [decide_eq_true]; rw [List.take_of_length_le (by omega), List.take_of_length_le (by omega)] at he; exact he -- leaf 2
def textsG : List D → Option (Bool × D)
  | [.x (.sl A), .x (.sl B)] => (unrows rStr A).bind fun a => (unrows rStr B).map fun b => (true, .x (.bool (decide (a = b))))
  | _ => none
theorem textsG_ok : ∀ args r, textsG args = some (true, r) → PCalls Try.prog 56 args r := by
  intro args r h
  unfold textsG at h
  split at h
  · simp only [Option.bind_eq_some_iff, Option.map_eq_some_iff] at h
    obtain ⟨a, h1, b, h2, h3⟩ := h
    cases h3
    rw [← rows_unrows good_rStr h1, ← rows_unrows good_rStr h2]
    exact texts_c a b
  · cases h
/-- With Texts. -/
def addTexts (S : Tabs) : Tabs := addQ S 56 (viaNN textsG)
theorem addTexts_ok {S : Tabs} (hS : SsOk Try.prog S) : SsOk Try.prog (addTexts S) := addQ_ok hS (G_enters G_ok (p := i56) rfl) (viaNN_ok textsG_ok)
end Go.Proofs.Ytcffpndhodhncaa
end
section
/- bothyref10.Equal: whether two entries are the same; bothyref22.Same: whether two lists of changes are. -/
set_option linter.unusedSimpArgs false
namespace Go.Proofs.Ytcffpndhodhncaa
open Go.RowKit Go.Bo Go.Ab


theorem equal_w (d e : List UInt8) (a b : List TAttr) (ha : a.length ≤ 9223372036854775807) (hb : b.length ≤ 9223372036854775807) : PCalls Try.prog 24 [.agg [.x (.str d), .x (.sl (rows rAttr a))], .agg [.x (.str e), .x (.sl (rows rAttr b))]] (.x (.bool (decide (d = e ∧ a = b)))) := by
  have hS := addTexts_ok (noTabs_ok (P := Try.prog))
  refine FCalls.pure (fcallsG (fz := true) G_ok (p := i24) rfl _ (Nat.le_of_ble_eq_true rfl) _ (fun c E0 => ?_)) rfl
  dsimp only [i24, argsφ]
  refine WI.seq ?_
  refine WI.regA hS [2, 3] (fun K hK => ?_)
  refine osS (by simp (disch := omega) only [zL, zC, stepOp, aval, opv, Ab.get, Ab.put, putO, Nat.reduceEqDiff, ↓reduceIte, D.val, D.cond, reduceCtorEq, aact, actT, IE.isCall, D.cells?, Nat.reduceAdd, Nat.reduceLeDiff, addTexts, textsG]; rfl) rfl ?_
  refine osS (by simp (disch := omega) only [zL, zC, stepOp, aval, opv, Ab.get, Ab.put, putO, Nat.reduceEqDiff, ↓reduceIte, D.val, D.cond, reduceCtorEq, aact, actT, IE.isCall, D.cells?, Nat.reduceAdd, Nat.reduceLeDiff, addTexts, textsG]; rfl) rfl ?_
  refine osS (by simp only [zC, stepOp, aval, opv, Ab.get, Ab.put, putO, Nat.reduceEqDiff, ↓reduceIte, D.val, D.cond, reduceCtorEq]; rfl) rfl ?_
  refine osN ?_
  simp only [keep, memN, Nat.reduceEqDiff, if_true, if_false, ↓reduceIte, Option.getD_none, Option.getD_some, List.append_nil, List.cons_append, List.nil_append, Bool.false_eq_true]
  refine hK _ _ ?_
  clear hK K
  refine thenQ_normal ?_
  refine WI.seq ?_
  refine WI.seq ?_
  refine WI.regA hS [2, 3, 19] (fun K hK => ?_)
  refine osS (by simp only [zC, stepOp, aval, opv, Ab.get, Ab.put, putO, Nat.reduceEqDiff, ↓reduceIte, D.val, D.cond, reduceCtorEq, Nat.reduceAdd, Nat.add_zero, Nat.zero_add]; rfl) rfl ?_
  refine osS (by simp (disch := omega) only [zL, zR, zC, stepOp, aval, opv, Ab.get, Ab.put, putO, Nat.reduceEqDiff, ↓reduceIte, D.val, D.cond, reduceCtorEq, Nat.reduceAdd, Nat.reduceLeDiff, Ob.slice?, addTexts, textsG]; rfl) (by first | with_reducible rfl | omega | (simp; done) | (simp; omega) | rfl) ?_
  refine osS (by simp only [zC, stepOp, aval, opv, Ab.get, Ab.put, putO, Nat.reduceEqDiff, ↓reduceIte, D.val, D.cond, reduceCtorEq, Nat.reduceAdd, Nat.add_zero, Nat.zero_add]; rfl) rfl ?_
  refine osS (by simp (disch := omega) only [zL, zR, zC, stepOp, aval, opv, Ab.get, Ab.put, putO, Nat.reduceEqDiff, ↓reduceIte, D.val, D.cond, reduceCtorEq, Nat.reduceAdd, Nat.reduceLeDiff, Ob.slice?, addTexts, textsG]; rfl) (by first | with_reducible rfl | omega | (simp; done) | (simp; omega) | rfl) ?_
  refine osS (by simp (disch := omega) only [zG, zN, zC, stepOp, aval, opv, Ab.get, Ab.put, putO, Nat.reduceEqDiff, ↓reduceIte, D.val, D.cond, reduceCtorEq, binD, bitsD, Nat.reduceAdd, Nat.reduceSub, Nat.reduceMul, Nat.reduceLeDiff, Int.reduceToNat, Int.reduceLE, Int.reduceLT, Int.reduceAdd, Int.reduceSub, Int.reduceMul, Int.reduceNeg, Int.reduceEq, bne_self_eq_false, addTexts, textsG]; rfl) (by first | with_reducible rfl | omega | (simp; done) | (simp; omega) | rfl) ?_
  refine osS (by simp only [zC, stepOp, aval, opv, Ab.get, Ab.put, putO, Nat.reduceEqDiff, ↓reduceIte, D.val, D.cond, reduceCtorEq]; rfl) rfl ?_
  refine osS (by simp (disch := omega) only [zG, zC, stepOp, aval, opv, Ab.get, Ab.put, putO, Nat.reduceEqDiff, ↓reduceIte, D.val, D.cond, reduceCtorEq, Nat.reduceAdd, Nat.add_zero, Nat.zero_add, addTexts, textsG]; rfl) rfl ?_
  refine osS (by simp (disch := omega) only [zL, zG, zR, zC, stepOp, aval, opv, Ab.get, Ab.put, putO, Nat.reduceEqDiff, ↓reduceIte, D.val, D.cond, reduceCtorEq, Nat.reduceAdd, Nat.reduceLeDiff, Ob.slice?, addTexts, textsG]; rfl) (by first | with_reducible rfl | omega | (simp; done) | (simp; omega) | rfl) ?_
  refine osS (by simp (disch := omega) only [zL, zG, zR, zC, stepOp, aval, opv, Ab.get, Ab.put, putO, Nat.reduceEqDiff, ↓reduceIte, D.val, D.cond, reduceCtorEq, lenD, okRef, Nat.reduceAdd, Nat.reduceLeDiff, Ob.slice?, addTexts, textsG]; rfl) (by first | with_reducible rfl | omega | (simp; done) | (simp; omega) | rfl) ?_
  refine osS (by simp (disch := omega) only [zG, zC, stepOp, aval, opv, Ab.get, Ab.put, putO, Nat.reduceEqDiff, ↓reduceIte, D.val, D.cond, reduceCtorEq, Nat.reduceAdd, Nat.add_zero, Nat.zero_add, addTexts, textsG]; rfl) rfl ?_
  refine osS (by simp (disch := omega) only [zL, zG, zR, zC, stepOp, aval, opv, Ab.get, Ab.put, putO, Nat.reduceEqDiff, ↓reduceIte, D.val, D.cond, reduceCtorEq, Nat.reduceAdd, Nat.reduceLeDiff, Ob.slice?, addTexts, textsG]; rfl) (by first | with_reducible rfl | omega | (simp; done) | (simp; omega) | rfl) ?_
  refine osS (by simp (disch := omega) only [zL, zG, zR, zC, stepOp, aval, opv, Ab.get, Ab.put, putO, Nat.reduceEqDiff, ↓reduceIte, D.val, D.cond, reduceCtorEq, lenD, okRef, Nat.reduceAdd, Nat.reduceLeDiff, Ob.slice?, addTexts, textsG]; rfl) (by first | with_reducible rfl | omega | (simp; done) | (simp; omega) | rfl) ?_
  refine osS (by simp (disch := omega) only [zG, zN, zC, stepOp, aval, opv, Ab.get, Ab.put, putO, Nat.reduceEqDiff, ↓reduceIte, D.val, D.cond, reduceCtorEq, binD, bitsD, Nat.reduceAdd, Nat.reduceSub, Nat.reduceMul, Nat.reduceLeDiff, Int.reduceToNat, Int.reduceLE, Int.reduceLT, Int.reduceAdd, Int.reduceSub, Int.reduceMul, Int.reduceNeg, Int.reduceEq, bne_self_eq_false, addTexts, textsG]; rfl) (by first | with_reducible rfl | omega | (simp; done) | (simp; omega) | rfl) ?_
  refine osS (by simp (disch := omega) only [zG, zC, stepOp, aval, opv, Ab.get, Ab.put, putO, Nat.reduceEqDiff, ↓reduceIte, D.val, D.cond, reduceCtorEq, Bool.cond_true_left, Bool.cond_false_right, cond_true, cond_false, addTexts, textsG]; rfl) (by first | with_reducible rfl | omega | (simp; done) | (simp; omega) | rfl) ?_
  refine osN ?_
  simp only [keep, memN, Nat.reduceEqDiff, if_true, if_false, ↓reduceIte, Option.getD_none, Option.getD_some, List.append_nil, List.cons_append, List.nil_append, Bool.false_eq_true]
  refine hK _ _ ?_
  clear hK K
  refine thenQ_normal ?_
  refine WI.cond (b := _) rfl rfl (fun h0 => ?_) (fun h0 => ?_)
  · try simp only [zB] at h0
    refine WI.seq ?_
    refine WI.regA hS [4] (fun K hK => ?_)
    refine osS (by simp only [zC, stepOp, aval, opv, Ab.get, Ab.put, putO, Nat.reduceEqDiff, ↓reduceIte, D.val, D.cond, reduceCtorEq]; rfl) rfl ?_
    refine osN ?_
    simp only [keep, memN, Nat.reduceEqDiff, if_true, if_false, ↓reduceIte, Option.getD_none, Option.getD_some, List.append_nil, List.cons_append, List.nil_append, Bool.false_eq_true]
    refine hK _ _ ?_
    clear hK K
    refine thenQ_normal ?_
    refine WI.ret ?_
    refine thenQ_ret ?_
    refine ⟨.inr rfl, ?_⟩
    -- leaf 0
    simp (disch := omega) only [zF, keep, memN, Bool.false_eq_true, if_false, retD, resD, finD, plainD, freezeD, freezeL, aval, opv, Ab.get, Nat.reduceEqDiff, ↓reduceIte, D.val, D.cond, Nat.reduceAdd, Nat.reduceLeDiff, Ob.slice?, addTexts, textsG]
    refine ⟨_, _, rfl, ?_⟩
    simp only [mkR]
    rw [decide_eq_false (by rintro ⟨rfl, rfl⟩; simp at h0)]
  · try simp only [zB] at h0
    refine WI.skip ?_
    refine thenQ_normal ?_
    refine WI.seq ?_
    refine WI.seq ?_
    refine WI.regA hS [2, 3, 5] (fun K hK => ?_)
    refine osS (by simp only [zC, stepOp, aval, opv, Ab.get, Ab.put, putO, Nat.reduceEqDiff, ↓reduceIte, D.val, D.cond, reduceCtorEq]; rfl) rfl ?_
    refine osN ?_
    simp only [keep, memN, Nat.reduceEqDiff, if_true, if_false, ↓reduceIte, Option.getD_none, Option.getD_some, List.append_nil, List.cons_append, List.nil_append, Bool.false_eq_true]
    refine hK _ _ ?_
    clear hK K
    refine thenQ_normal ?_
    refine WI.block ?_
    refine WI.loop (fun φ os => ∃ i : Nat, φ = [(2, .ptr 0 0), (3, .ptr 1 0), (5, .x (.int .i64 i))] ∧ os = [.box [.x (.str d), .x (.sl (rows rAttr a))], .box [.x (.str e), .x (.sl (rows rAttr b))]] ∧ i ≤ a.length ∧ a.take i = b.take i) (down a.length 5) ?_ (fun φ os hI => ?_)
    · exact ⟨0, rfl, rfl, by omega, by simp⟩
    · obtain ⟨i, rfl, rfl, hi, he⟩ := hI
      refine WI.seq ?_
      refine WI.seq ?_
      refine WI.regA hS [2, 3, 5, 24] (fun K hK => ?_)
      refine osS (by simp only [zC, stepOp, aval, opv, Ab.get, Ab.put, putO, Nat.reduceEqDiff, ↓reduceIte, D.val, D.cond, reduceCtorEq]; rfl) rfl ?_
      refine osS (by simp only [zC, stepOp, aval, opv, Ab.get, Ab.put, putO, Nat.reduceEqDiff, ↓reduceIte, D.val, D.cond, reduceCtorEq, Nat.reduceAdd, Nat.add_zero, Nat.zero_add]; rfl) rfl ?_
      refine osS (by simp (disch := omega) only [zL, zR, zC, stepOp, aval, opv, Ab.get, Ab.put, putO, Nat.reduceEqDiff, ↓reduceIte, D.val, D.cond, reduceCtorEq, Nat.reduceAdd, Nat.reduceLeDiff, Ob.slice?, addTexts, textsG]; rfl) (by first | with_reducible rfl | omega | (simp; done) | (simp; omega) | rfl) ?_
      refine osS (by simp (disch := omega) only [zL, zR, zC, stepOp, aval, opv, Ab.get, Ab.put, putO, Nat.reduceEqDiff, ↓reduceIte, D.val, D.cond, reduceCtorEq, lenD, okRef, Nat.reduceAdd, Nat.reduceLeDiff, Ob.slice?, addTexts, textsG]; rfl) (by first | with_reducible rfl | omega | (simp; done) | (simp; omega) | rfl) ?_
      refine osS (by simp (disch := omega) only [zG, zN, zC, stepOp, aval, opv, Ab.get, Ab.put, putO, Nat.reduceEqDiff, ↓reduceIte, D.val, D.cond, reduceCtorEq, binD, bitsD, Nat.reduceAdd, Nat.reduceSub, Nat.reduceMul, Nat.reduceLeDiff, Int.reduceToNat, Int.reduceLE, Int.reduceLT, Int.reduceAdd, Int.reduceSub, Int.reduceMul, Int.reduceNeg, Int.reduceEq, bne_self_eq_false, addTexts, textsG]; rfl) (by first | with_reducible rfl | omega | (simp; done) | (simp; omega) | rfl) ?_
      refine osN ?_
      simp only [keep, memN, Nat.reduceEqDiff, if_true, if_false, ↓reduceIte, Option.getD_none, Option.getD_some, List.append_nil, List.cons_append, List.nil_append, Bool.false_eq_true]
      refine hK _ _ ?_
      clear hK K
      refine thenQ_normal ?_
      refine WI.cond (b := _) rfl rfl (fun h1 => ?_) (fun h1 => ?_)
      · try simp only [zB] at h1
        refine WI.skip ?_
        refine thenQ_normal ?_
        refine WI.seq ?_
        refine WI.block ?_
        refine WI.seq ?_
        refine WI.dregA hS [2, 3, 5, 55] (fun K hK => ?_)
        refine dsF rfl (by simp only [zC, evQ, evA, avalR, prefB, Ob.beq_refl, stepOp, aval, opv, Ab.get, Ab.put, putO, Nat.reduceEqDiff, ↓reduceIte, D.val, D.cond, reduceCtorEq, Nat.reduceAdd, Nat.add_zero, Nat.zero_add]; rfl) rfl ?_
        refine dsQ rfl rfl rfl (by simp (disch := omega) only [zL, zR, zC, evQ, evA, avalR, prefB, Ob.beq_refl, stepOp, aval, opv, Ab.get, Ab.put, putO, Nat.reduceEqDiff, ↓reduceIte, D.val, D.cond, reduceCtorEq, Nat.reduceAdd, Nat.reduceLeDiff, Ob.slice?, addTexts, textsG]; rfl) (by first | with_reducible rfl | omega | (simp; done) | (simp; omega) | rfl) ?_
        refine dsF rfl (by simp only [zC, evQ, evA, avalR, prefB, Ob.beq_refl, stepOp, aval, opv, Ab.get, Ab.put, putO, Nat.reduceEqDiff, ↓reduceIte, D.val, D.cond, reduceCtorEq]; rfl) rfl ?_
        refine dsQ rfl rfl rfl (by simp (disch := omega) only [zL, zR, zC, evQ, evA, avalR, prefB, Ob.beq_refl, stepOp, aval, opv, Ab.get, Ab.put, putO, Nat.reduceEqDiff, ↓reduceIte, D.val, D.cond, reduceCtorEq, intOf?, Nat.reduceAdd, Nat.reduceLeDiff, Ob.slice?, Nat.reduceSub, Nat.reduceMul, Int.reduceToNat, Int.reduceLE, Int.reduceLT, Int.reduceAdd, Int.reduceSub, Int.reduceMul, Int.reduceNeg, Int.reduceEq, decide_false, IntWalk.i64_in, addTexts, textsG]; rfl) (by first | with_reducible rfl | omega | (simp; done) | (simp; omega) | rfl) ?_
        refine dsF rfl (by simp only [zC, evQ, evA, avalR, prefB, Ob.beq_refl, stepOp, aval, opv, Ab.get, Ab.put, putO, Nat.reduceEqDiff, ↓reduceIte, D.val, D.cond, reduceCtorEq, Nat.reduceAdd, Nat.add_zero, Nat.zero_add]; rfl) rfl ?_
        refine dsQ rfl rfl rfl (by simp (disch := omega) only [zL, zR, zC, evQ, evA, avalR, prefB, Ob.beq_refl, stepOp, aval, opv, Ab.get, Ab.put, putO, Nat.reduceEqDiff, ↓reduceIte, D.val, D.cond, reduceCtorEq, Nat.reduceAdd, Nat.reduceLeDiff, Ob.slice?, addTexts, textsG]; rfl) (by first | with_reducible rfl | omega | (simp; done) | (simp; omega) | rfl) ?_
        refine dsF rfl (by simp only [zC, evQ, evA, avalR, prefB, Ob.beq_refl, stepOp, aval, opv, Ab.get, Ab.put, putO, Nat.reduceEqDiff, ↓reduceIte, D.val, D.cond, reduceCtorEq, Nat.reduceAdd, Nat.add_zero, Nat.zero_add]; rfl) rfl ?_
        refine dsQ rfl rfl rfl (by simp (disch := omega) only [zL, zR, zC, evQ, evA, avalR, prefB, Ob.beq_refl, stepOp, aval, opv, Ab.get, Ab.put, putO, Nat.reduceEqDiff, ↓reduceIte, D.val, D.cond, reduceCtorEq, Nat.reduceAdd, Nat.reduceLeDiff, Ob.slice?, addTexts, textsG]; rfl) (by first | with_reducible rfl | omega | (simp; done) | (simp; omega) | rfl) ?_
        refine dsF rfl (by simp only [zC, evQ, evA, avalR, prefB, Ob.beq_refl, stepOp, aval, opv, Ab.get, Ab.put, putO, Nat.reduceEqDiff, ↓reduceIte, D.val, D.cond, reduceCtorEq]; rfl) rfl ?_
        refine dsQ rfl rfl rfl (by simp (disch := omega) only [zL, zR, zC, evQ, evA, avalR, prefB, Ob.beq_refl, stepOp, aval, opv, Ab.get, Ab.put, putO, Nat.reduceEqDiff, ↓reduceIte, D.val, D.cond, reduceCtorEq, intOf?, Nat.reduceAdd, Nat.reduceLeDiff, Ob.slice?, Nat.reduceSub, Nat.reduceMul, Int.reduceToNat, Int.reduceLE, Int.reduceLT, Int.reduceAdd, Int.reduceSub, Int.reduceMul, Int.reduceNeg, Int.reduceEq, decide_false, IntWalk.i64_in, addTexts, textsG]; rfl) (by first | with_reducible rfl | omega | (simp; done) | (simp; omega) | rfl) ?_
        refine dsF rfl (by simp only [zC, evQ, evA, avalR, prefB, Ob.beq_refl, stepOp, aval, opv, Ab.get, Ab.put, putO, Nat.reduceEqDiff, ↓reduceIte, D.val, D.cond, reduceCtorEq, Nat.reduceAdd, Nat.add_zero, Nat.zero_add]; rfl) rfl ?_
        refine dsQ rfl rfl rfl (by simp (disch := omega) only [zL, zR, zC, evQ, evA, avalR, prefB, Ob.beq_refl, stepOp, aval, opv, Ab.get, Ab.put, putO, Nat.reduceEqDiff, ↓reduceIte, D.val, D.cond, reduceCtorEq, Nat.reduceAdd, Nat.reduceLeDiff, Ob.slice?, addTexts, textsG]; rfl) (by first | with_reducible rfl | omega | (simp; done) | (simp; omega) | rfl) ?_
        refine dsF rfl (by simp (disch := omega) only [zG, zN, zC, evQ, evA, avalR, prefB, Ob.beq_refl, stepOp, aval, opv, Ab.get, Ab.put, putO, Nat.reduceEqDiff, ↓reduceIte, D.val, D.cond, reduceCtorEq, binD, bitsD, Nat.reduceAdd, Nat.reduceSub, Nat.reduceMul, Nat.reduceLeDiff, Int.reduceToNat, Int.reduceLE, Int.reduceLT, Int.reduceAdd, Int.reduceSub, Int.reduceMul, Int.reduceNeg, Int.reduceEq, bne_self_eq_false, addTexts, textsG]; rfl) (by first | with_reducible rfl | omega | (simp; done) | (simp; omega) | rfl) ?_
        refine dsF rfl (by simp only [zC, evQ, evA, avalR, prefB, Ob.beq_refl, stepOp, aval, opv, Ab.get, Ab.put, putO, Nat.reduceEqDiff, ↓reduceIte, D.val, D.cond, reduceCtorEq]; rfl) rfl ?_
        refine dsF rfl (by simp (disch := omega) only [zG, zC, evQ, evA, avalR, prefB, Ob.beq_refl, stepOp, aval, opv, Ab.get, Ab.put, putO, Nat.reduceEqDiff, ↓reduceIte, D.val, D.cond, reduceCtorEq, Nat.reduceAdd, Nat.add_zero, Nat.zero_add, addTexts, textsG]; rfl) rfl ?_
        refine dsQ rfl rfl rfl (by simp (disch := omega) only [zL, zG, zR, zC, evQ, evA, avalR, prefB, Ob.beq_refl, stepOp, aval, opv, Ab.get, Ab.put, putO, Nat.reduceEqDiff, ↓reduceIte, D.val, D.cond, reduceCtorEq, Nat.reduceAdd, Nat.reduceLeDiff, Ob.slice?, addTexts, textsG]; rfl) (by first | with_reducible rfl | omega | (simp; done) | (simp; omega) | rfl) ?_
        refine dsF rfl (by simp (disch := omega) only [zG, zC, evQ, evA, avalR, prefB, Ob.beq_refl, stepOp, aval, opv, Ab.get, Ab.put, putO, Nat.reduceEqDiff, ↓reduceIte, D.val, D.cond, reduceCtorEq, addTexts, textsG]; rfl) rfl ?_
        refine dsQ rfl rfl rfl (by simp (disch := omega) only [zL, zG, zR, zC, evQ, evA, avalR, prefB, Ob.beq_refl, stepOp, aval, opv, Ab.get, Ab.put, putO, Nat.reduceEqDiff, ↓reduceIte, D.val, D.cond, reduceCtorEq, intOf?, Nat.reduceAdd, Nat.reduceLeDiff, Ob.slice?, Nat.reduceSub, Nat.reduceMul, Int.reduceToNat, Int.reduceLE, Int.reduceLT, Int.reduceAdd, Int.reduceSub, Int.reduceMul, Int.reduceNeg, Int.reduceEq, decide_false, IntWalk.i64_in, addTexts, textsG]; rfl) (by first | with_reducible rfl | omega | (simp; done) | (simp; omega) | rfl) ?_
        refine dsF rfl (by simp (disch := omega) only [zG, zC, evQ, evA, avalR, prefB, Ob.beq_refl, stepOp, aval, opv, Ab.get, Ab.put, putO, Nat.reduceEqDiff, ↓reduceIte, D.val, D.cond, reduceCtorEq, Nat.reduceAdd, Nat.add_zero, Nat.zero_add, addTexts, textsG]; rfl) rfl ?_
        refine dsQ rfl rfl rfl (by simp (disch := omega) only [zL, zG, zR, zC, evQ, evA, avalR, prefB, Ob.beq_refl, stepOp, aval, opv, Ab.get, Ab.put, putO, Nat.reduceEqDiff, ↓reduceIte, D.val, D.cond, reduceCtorEq, Nat.reduceAdd, Nat.reduceLeDiff, Ob.slice?, addTexts, textsG]; rfl) (by first | with_reducible rfl | omega | (simp; done) | (simp; omega) | rfl) ?_
        refine dsF rfl (by simp (disch := omega) only [zG, zC, evQ, evA, avalR, prefB, Ob.beq_refl, stepOp, aval, opv, Ab.get, Ab.put, putO, Nat.reduceEqDiff, ↓reduceIte, D.val, D.cond, reduceCtorEq, Nat.reduceAdd, Nat.add_zero, Nat.zero_add, addTexts, textsG]; rfl) rfl ?_
        refine dsQ rfl rfl rfl (by simp (disch := omega) only [zL, zG, zR, zC, evQ, evA, avalR, prefB, Ob.beq_refl, stepOp, aval, opv, Ab.get, Ab.put, putO, Nat.reduceEqDiff, ↓reduceIte, D.val, D.cond, reduceCtorEq, Nat.reduceAdd, Nat.reduceLeDiff, Ob.slice?, addTexts, textsG]; rfl) (by first | with_reducible rfl | omega | (simp; done) | (simp; omega) | rfl) ?_
        refine dsF rfl (by simp (disch := omega) only [zG, zC, evQ, evA, avalR, prefB, Ob.beq_refl, stepOp, aval, opv, Ab.get, Ab.put, putO, Nat.reduceEqDiff, ↓reduceIte, D.val, D.cond, reduceCtorEq, addTexts, textsG]; rfl) rfl ?_
        refine dsQ rfl rfl rfl (by simp (disch := omega) only [zL, zG, zR, zC, evQ, evA, avalR, prefB, Ob.beq_refl, stepOp, aval, opv, Ab.get, Ab.put, putO, Nat.reduceEqDiff, ↓reduceIte, D.val, D.cond, reduceCtorEq, intOf?, Nat.reduceAdd, Nat.reduceLeDiff, Ob.slice?, Nat.reduceSub, Nat.reduceMul, Int.reduceToNat, Int.reduceLE, Int.reduceLT, Int.reduceAdd, Int.reduceSub, Int.reduceMul, Int.reduceNeg, Int.reduceEq, decide_false, IntWalk.i64_in, addTexts, textsG]; rfl) (by first | with_reducible rfl | omega | (simp; done) | (simp; omega) | rfl) ?_
        refine dsF rfl (by simp (disch := omega) only [zG, zC, evQ, evA, avalR, prefB, Ob.beq_refl, stepOp, aval, opv, Ab.get, Ab.put, putO, Nat.reduceEqDiff, ↓reduceIte, D.val, D.cond, reduceCtorEq, Nat.reduceAdd, Nat.add_zero, Nat.zero_add, addTexts, textsG]; rfl) rfl ?_
        refine dsQ rfl rfl rfl (by simp (disch := omega) only [zL, zG, zR, zC, evQ, evA, avalR, prefB, Ob.beq_refl, stepOp, aval, opv, Ab.get, Ab.put, putO, Nat.reduceEqDiff, ↓reduceIte, D.val, D.cond, reduceCtorEq, Nat.reduceAdd, Nat.reduceLeDiff, Ob.slice?, addTexts, textsG]; rfl) (by first | with_reducible rfl | omega | (simp; done) | (simp; omega) | rfl) ?_
        refine dsA rfl rfl rfl (by simp (disch := omega) only [zS, zO, viaNN, viaNNT, D.nn, D.na, addQ, addT, IE.isCall, Nat.reduceAdd, Nat.reduceSub, Nat.reduceMul, Nat.reduceLeDiff, Nat.reduceLT, Nat.reduceBEq, Int.reduceToNat, Int.reduceLE, Int.reduceLT, Int.reduceAdd, Int.reduceSub, Int.reduceMul, Int.reduceNeg, Int.reduceEq, Nat.reduceEqDiff, runOpsA, runDA, stepOp, aval, aact, opv, Ab.get, Ab.put, putO, keep, memN, D.val, D.cond, D.cells?, D.scalar, X.scalar, D.plain, D.isX, binD, bitsD, eqD, eqFs, eqX, unD, intOf?, lenD, okRef, rowsOf, viewD, viewX, freezeD, freezeL, partsD, buildD, slcStrD, slcSlD, Ob.slice?, ↓reduceIte, reduceCtorEq, evQ, evK, evC, evA, avalR, prefB, eqR, nzD, actT, callT1, callR1, callK1, valsL, condsL, optV, noTabs, IE.frame, memB, zeroO, IntWalk.i64_in, addTexts, textsG]; rfl) (by first | with_reducible rfl | omega | (simp; done) | (simp; omega) | rfl) ?_
        refine dsF rfl (by simp (disch := omega) only [zG, zC, evQ, evA, avalR, prefB, Ob.beq_refl, stepOp, aval, opv, Ab.get, Ab.put, putO, Nat.reduceEqDiff, ↓reduceIte, D.val, D.cond, reduceCtorEq, unD, addTexts, textsG]; rfl) (by first | with_reducible rfl | omega | (simp; done) | (simp; omega) | rfl) ?_
        refine dsF rfl (by simp (disch := omega) only [zG, zC, evQ, evA, avalR, prefB, Ob.beq_refl, stepOp, aval, opv, Ab.get, Ab.put, putO, Nat.reduceEqDiff, ↓reduceIte, D.val, D.cond, reduceCtorEq, Bool.cond_true_left, Bool.cond_false_right, cond_true, cond_false, addTexts, textsG]; rfl) (by first | with_reducible rfl | omega | (simp; done) | (simp; omega) | rfl) ?_
        refine dsN ?_
        simp only [keep, memN, Nat.reduceEqDiff, if_true, if_false, ↓reduceIte, Option.getD_none, Option.getD_some, List.append_nil, List.cons_append, List.nil_append, Bool.false_eq_true]
        refine hK _ _ ?_
        clear hK K
        refine thenQ_normal ?_
        refine WI.cond (b := _) rfl rfl (fun h2 => ?_) (fun h2 => ?_)
        · try simp only [zB] at h2
          refine WI.seq ?_
          refine WI.regA hS [4] (fun K hK => ?_)
          refine osS (by simp only [zC, stepOp, aval, opv, Ab.get, Ab.put, putO, Nat.reduceEqDiff, ↓reduceIte, D.val, D.cond, reduceCtorEq]; rfl) rfl ?_
          refine osN ?_
          simp only [keep, memN, Nat.reduceEqDiff, if_true, if_false, ↓reduceIte, Option.getD_none, Option.getD_some, List.append_nil, List.cons_append, List.nil_append, Bool.false_eq_true]
          refine hK _ _ ?_
          clear hK K
          refine thenQ_normal ?_
          refine WI.ret ?_
          refine blockQ_ret ?_
          refine thenQ_ret ?_
          refine thenQ_ret ?_
          refine blockQ_ret ?_
          refine thenQ_ret ?_
          refine ⟨.inr rfl, ?_⟩
          -- leaf 1
          simp (disch := omega) only [zF, keep, memN, Bool.false_eq_true, if_false, retD, resD, finD, plainD, freezeD, freezeL, aval, opv, Ab.get, Nat.reduceEqDiff, ↓reduceIte, D.val, D.cond, Nat.reduceAdd, Nat.reduceLeDiff, Ob.slice?, addTexts, textsG]
          refine ⟨_, _, rfl, ?_⟩
          simp only [mkR]
          rw [decide_eq_false (by rintro ⟨rfl, rfl⟩; simp at h2)]
        · try simp only [zB] at h2
          refine WI.skip ?_
          refine blockQ_normal ?_
          refine thenQ_normal ?_
          refine WI.regA hS [2, 3, 5] (fun K hK => ?_)
          refine osS (by simp only [zC, stepOp, aval, opv, Ab.get, Ab.put, putO, Nat.reduceEqDiff, ↓reduceIte, D.val, D.cond, reduceCtorEq]; rfl) rfl ?_
          refine osS (by simp (disch := omega) only [zG, zN, zC, stepOp, aval, opv, Ab.get, Ab.put, putO, Nat.reduceEqDiff, ↓reduceIte, D.val, D.cond, reduceCtorEq, binD, bitsD, Nat.reduceAdd, Nat.reduceSub, Nat.reduceMul, Nat.reduceLeDiff, Int.reduceToNat, Int.reduceLE, Int.reduceLT, Int.reduceAdd, Int.reduceSub, Int.reduceMul, Int.reduceNeg, Int.reduceEq, bne_self_eq_false, addTexts, textsG]; rfl) (by first | with_reducible rfl | omega | (simp; done) | (simp; omega) | rfl) ?_
          refine osS (by simp only [zC, stepOp, aval, opv, Ab.get, Ab.put, putO, Nat.reduceEqDiff, ↓reduceIte, D.val, D.cond, reduceCtorEq]; rfl) rfl ?_
          refine osN ?_
          simp only [keep, memN, Nat.reduceEqDiff, if_true, if_false, ↓reduceIte, Option.getD_none, Option.getD_some, List.append_nil, List.cons_append, List.nil_append, Bool.false_eq_true]
          refine hK _ _ ?_
          clear hK K
          refine thenQ_normal ?_
          exact ⟨⟨i + 1, by simp, rfl, by omega, take_extT he (by omega) (by omega) (Prod.ext h2.1 (Prod.ext h2.2 rfl))⟩, by simp [down, Ab.get, D.val, intOf?]; omega⟩
      · try simp only [zB] at h1
        refine WI.exit ?_
        refine thenQ_exit ?_
        refine thenQ_exit ?_
        refine blockQ_hit ?_
        refine thenQ_normal ?_
        refine WI.seq ?_
        refine WI.regA hS [4] (fun K hK => ?_)
        refine osS (by simp only [zC, stepOp, aval, opv, Ab.get, Ab.put, putO, Nat.reduceEqDiff, ↓reduceIte, D.val, D.cond, reduceCtorEq]; rfl) rfl ?_
        refine osN ?_
        simp only [keep, memN, Nat.reduceEqDiff, if_true, if_false, ↓reduceIte, Option.getD_none, Option.getD_some, List.append_nil, List.cons_append, List.nil_append, Bool.false_eq_true]
        refine hK _ _ ?_
        clear hK K
        refine thenQ_normal ?_
        refine WI.ret ?_
        refine ⟨.inr rfl, ?_⟩
        -- leaf 2
        simp (disch := omega) only [zF, keep, memN, Bool.false_eq_true, if_false, retD, resD, finD, plainD, freezeD, freezeL, aval, opv, Ab.get, Nat.reduceEqDiff, ↓reduceIte, D.val, D.cond, Nat.reduceAdd, Nat.reduceLeDiff, Ob.slice?, addTexts, textsG]
        refine ⟨_, _, rfl, ?_⟩
        simp only [mkR]
        rw [decide_eq_true]; rw [List.take_of_length_le (by omega), List.take_of_length_le (by omega)] at he; exact ⟨h0.1, he⟩
theorem equal_c (d e : List UInt8) (a b : List TAttr) : PCalls Try.prog 24 [.agg [.x (.str d), .x (.sl (rows rAttr a))], .agg [.x (.str e), .x (.sl (rows rAttr b))]] (.x (.bool (decide (d = e ∧ a = b)))) := by
  refine PCalls.wfA (fun hw => ?_)
  have ha : a.length ≤ maxLen := by have := (hw 0 1 _ rfl).1; rwa [rows_len] at this
  have hb : b.length ≤ maxLen := by have := (hw 1 1 _ rfl).1; rwa [rows_len] at this
  exact equal_w d e a b ha hb
def equalG : List D → Option (Bool × D)
  | [.agg [.x (.str d), .x (.sl A)], .agg [.x (.str e), .x (.sl B)]] => (unrows rAttr A).bind fun a => (unrows rAttr B).map fun b => (true, .x (.bool (decide (d = e ∧ a = b))))
  | _ => none
theorem equalG_ok : ∀ args r, equalG args = some (true, r) → PCalls Try.prog 24 args r := by
  intro args r h
  unfold equalG at h
  split at h
  · simp only [Option.bind_eq_some_iff, Option.map_eq_some_iff] at h
    obtain ⟨a, h1, b, h2, h3⟩ := h
    cases h3
    rw [← rows_unrows good_rAttr h1, ← rows_unrows good_rAttr h2]
    exact equal_c _ _ a b
  · cases h
/-- With Equal. -/
def addEqual (S : Tabs) : Tabs := addQ S 24 equalG
theorem addEqual_ok {S : Tabs} (hS : SsOk Try.prog S) : SsOk Try.prog (addEqual S) := addQ_ok hS (G_enters G_ok (p := i24) rfl) equalG_ok

theorem change_ext {x y : TChange} (h : (((x.1 = y.1 ∧ x.2.1 = y.2.1) ∧ x.2.2.2.2.1 = y.2.2.2.2.1) ∧ x.2.2.1.1 = y.2.2.1.1 ∧ x.2.2.1.2.1 = y.2.2.1.2.1) ∧ x.2.2.2.1.1 = y.2.2.2.1.1 ∧ x.2.2.2.1.2.1 = y.2.2.2.1.2.1) : x = y :=
  Prod.ext h.1.1.1.1 (Prod.ext h.1.1.1.2 (Prod.ext (Prod.ext h.1.2.1 (Prod.ext h.1.2.2 rfl)) (Prod.ext (Prod.ext h.2.1 (Prod.ext h.2.2 rfl)) (Prod.ext h.1.1.2 rfl))))
end Go.Proofs.Ytcffpndhodhncaa
end
section
/- Count: the plain law; tables of the law. -/
set_option linter.unusedSimpArgs false
set_option linter.unusedVariables false
namespace Go.Proofs.Ytcffpndhodhncaa
open Go.RowKit Go.Bo Go.Ab

abbrev rPr : RC (Int × Int) := rCat (rInt .i64) (rInt .i64)
theorem good_rPr : rPr.Good := good_rCat (good_rInt _) (good_rInt _)
/-- The counts behind messages. -/
def ntL (l : List (Int × Int)) : List Int := l.foldl (fun acc p => notL acc p.1 p.2) (List.replicate 160 0)
theorem ntL_take (l : List (Int × Int)) (j : Nat) (h : j < l.length) : ntL (l.take (j + 1)) = notL (ntL (l.take j)) l[j].1 l[j].2 := by
  unfold ntL; rw [List.take_succ_eq_append_getElem h, List.foldl_append]; rfl
theorem notL_len (l : List Int) (k c : Int) : (notL l k c).length = l.length := by
  unfold notL; split
  · split <;> simp [upL_len]
  · rfl
theorem upL_getD (l : List Int) (i j : Nat) (hi : i < l.length) : (upL l i).getD j 0 = l.getD j 0 + if i = j then 1 else 0 := by
  unfold upL
  by_cases h : i = j
  · subst h; simp [hi]
  · rw [if_neg h, List.getD_eq_getElem?_getD, List.getElem?_set_ne h, ← List.getD_eq_getElem?_getD]; omega
theorem tldB_in {k : Int} (h : tldB k = true) : 0 ≤ k ∧ k < 32 := by
  have := of_decide_eq_true h; omega
def hitK (j : Nat) (p : Int × Int) : Bool := p.1 == (j : Int)
def hitC (j : Nat) (p : Int × Int) : Bool := p.2 == (j : Int) && tldB p.1
theorem notL_kind (l : List Int) (p : Int × Int) (j : Nat) (hl : l.length = 160) (hj : j < 32) : (notL l p.1 p.2).getD j 0 = l.getD j 0 + if hitK j p then 1 else 0 := by
  obtain ⟨k, c⟩ := p
  simp only [hitK, beq_iff_eq]
  unfold notL
  by_cases hk : 0 ≤ k ∧ k < 32
  · rw [if_pos hk]
    have e1 : (k.toNat = j) ↔ k = (j : Int) := by omega
    split
    · rename_i hc
      rw [upL_getD _ _ _ (by rw [upL_len]; omega), upL_getD _ _ _ (by omega), if_neg (show ¬ 32 + c.toNat = j by omega)]
      simp only [e1]; omega
    · rw [upL_getD _ _ _ (by omega)]; simp only [e1]
  · rw [if_neg hk, if_neg (by omega)]; omega
theorem notL_code (l : List Int) (p : Int × Int) (j : Nat) (hl : l.length = 160) (hj : j < 128) : (notL l p.1 p.2).getD (32 + j) 0 = l.getD (32 + j) 0 + if hitC j p then 1 else 0 := by
  obtain ⟨k, c⟩ := p
  simp only [hitC, beq_iff_eq, Bool.and_eq_true]
  unfold notL
  by_cases hk : 0 ≤ k ∧ k < 32
  · rw [if_pos hk]
    split
    · rename_i hc
      rw [upL_getD _ _ _ (by rw [upL_len]; omega), upL_getD _ _ _ (by omega), if_neg (show ¬ k.toNat = 32 + j by omega)]
      have e1 : (32 + c.toNat = 32 + j) ↔ (c = (j : Int) ∧ tldB k = true) := ⟨fun h => ⟨by omega, hc.1⟩, fun h => by omega⟩
      simp only [e1]; omega
    · rename_i hc
      rw [upL_getD _ _ _ (by omega), if_neg (show ¬ k.toNat = 32 + j by omega), if_neg (show ¬ (c = (j : Int) ∧ tldB k = true) from fun h => hc ⟨h.2, by omega, by omega⟩)]
  · rw [if_neg hk, if_neg (fun h => hk (tldB_in h.2))]; omega
theorem rep_getD (n j : Nat) : (List.replicate n (0 : Int)).getD j 0 = 0 := by
  rw [List.getD_eq_getElem?_getD, List.getElem?_replicate]; split <;> rfl
theorem ntL_all (l : List (Int × Int)) : ∀ i, i ≤ l.length → (ntL (l.take i)).length = 160 ∧ (∀ j, j < 32 → (ntL (l.take i)).getD j 0 = ((l.take i).countP (hitK j) : Nat)) ∧ (∀ j, j < 128 → (ntL (l.take i)).getD (32 + j) 0 = ((l.take i).countP (hitC j) : Nat))
  | 0, _ => by
    rw [List.take_zero]
    exact ⟨List.length_replicate, fun j hj => rep_getD 160 j, fun j hj => rep_getD 160 (32 + j)⟩
  | i + 1, h => by
    obtain ⟨h1, h2, h3⟩ := ntL_all l i (by omega)
    rw [ntL_take l i (by omega)]
    refine ⟨by rw [notL_len, h1], fun j hj => ?_, fun j hj => ?_⟩
    · rw [notL_kind _ _ _ h1 hj, h2 j hj, List.take_succ_eq_append_getElem (by omega), List.countP_append, List.countP_singleton]
      split <;> simp
    · rw [notL_code _ _ _ h1 hj, h3 j hj, List.take_succ_eq_append_getElem (by omega), List.countP_append, List.countP_singleton]
      split <;> simp
theorem ntL_bound (l : List (Int × Int)) (i : Nat) (hi : i ≤ l.length) (hl : l.length ≤ 100) : ∀ x ∈ ntL (l.take i), 0 ≤ x ∧ x ≤ 100 := by
  obtain ⟨h1, h2, h3⟩ := ntL_all l i hi
  intro x hx
  obtain ⟨j, hj, rfl⟩ := List.mem_iff_getElem.1 hx
  have e : (ntL (l.take i))[j] = (ntL (l.take i)).getD j 0 := by simp [hj]
  rw [e]
  have c1 := fun f => List.countP_le_length (p := f) (l := l.take i)
  have c0 : (l.take i).length ≤ 100 := by rw [List.length_take]; omega
  by_cases h : j < 32
  · have := h2 j h; have := c1 (hitK j); omega
  · obtain ⟨m, rfl⟩ : ∃ m, j = 32 + m := ⟨j - 32, by omega⟩
    have := h3 m (by omega); have := c1 (hitC m); omega

/-! ### no line is there twice -/
def keyL (s : List UInt8) : List UInt8 := s.takeWhile fun c => c != 32
theorem dgt_key (n : Nat) (h : n < 1000) : ∀ c ∈ dgt n, c ≠ 32 := by
  have hd : ∀ d, d < 10 → UInt8.ofNat (48 + d) ≠ 32 := by
    intro d hd e
    have := congrArg UInt8.toNat e
    simp at this; omega
  intro c hc
  unfold dgt dg1 at hc
  split at hc
  · rw [List.mem_singleton] at hc; subst hc; exact hd _ (by omega)
  · split at hc
    · simp only [List.mem_append, List.mem_singleton] at hc
      rcases hc with rfl | rfl <;> exact hd _ (by omega)
    · simp only [List.mem_append, List.mem_singleton] at hc
      rcases hc with (rfl | rfl) | rfl <;> exact hd _ (by omega)
theorem keyL_lin (mark : List UInt8) (i : Nat) (n : Int) (hm : ∀ c ∈ mark, c ≠ 32) (hi : i < 1000) : keyL (lin mark i n) = mark ++ dgt i := by
  have hp : ∀ c ∈ mark ++ dgt i, (c != 32) = true := by
    intro c hc
    rcases List.mem_append.1 hc with hc | hc
    · simpa using hm c hc
    · simpa using dgt_key i hi c hc
  unfold keyL lin
  rw [List.append_assoc, List.takeWhile_append_of_pos hp]
  simp
theorem linL_keys (mark : List UInt8) (hm : ∀ c ∈ mark, c ≠ 32) : ∀ (l : List Int) (i : Nat), i + l.length ≤ 1000 → ((linL mark i l).map keyL).Sublist ((List.range' i l.length).map fun k => mark ++ dgt k)
  | [], i, _ => by simp [linL]
  | n :: l, i, h => by
    have ih := linL_keys mark hm l (i + 1) (by simp at h; omega)
    unfold linL
    rw [List.length_cons, List.range'_succ, List.map_cons]
    split
    · rw [List.map_cons, keyL_lin mark i n hm (by simp at h; omega)]; exact ih.cons_cons _
    · exact ih.cons _
def keysAll : List (List UInt8) := ((List.range' 0 32).map fun k => [107] ++ dgt k) ++ (List.range' 0 128).map fun k => [99] ++ dgt k
theorem keysAll_nodup : keysAll.Nodup := of_decide_eq_true (by kernel_rfl)
theorem wantL_nodup (N : List Int) (h : N.length = 160) : (wantL N).Nodup := by
  have k1 := linL_keys [107] (by simp) ((N.drop 0).take 32) 0 (by simp; omega)
  have k2 := linL_keys [99] (by simp) ((N.drop 32).take 128) 0 (by simp; omega)
  rw [show ((N.drop 0).take 32).length = 32 by simp; omega] at k1
  rw [show ((N.drop 32).take 128).length = 128 by simp; omega] at k2
  have := (k1.append k2).nodup keysAll_nodup
  rw [← List.map_append] at this
  exact List.Pairwise.of_map keyL (fun a b h e => h (e ▸ rfl)) this
theorem addV_nodup : ∀ (vs b : List (List UInt8)), (b ++ vs).Nodup → addV b vs = b ++ vs
  | [], b, _ => by simp [addV]
  | v :: vs, b, h => by
    have hv : v ∉ b := fun hm => (List.nodup_append.1 h).2.2 v hm v List.mem_cons_self rfl
    have : addV b (v :: vs) = addV (b ++ [v]) vs := by simp only [addV, List.foldl_cons, insV, if_neg hv]
    rw [this, addV_nodup vs (b ++ [v]) (by rw [List.append_assoc]; exact h), List.append_assoc]; rfl
theorem oneR_eq (n : List UInt8) (v : List (List UInt8)) : oneR n v = rows rAttr (oneA n v) := by
  unfold oneR oneA; split <;> rfl
theorem rput_one (n : List UInt8) (vs : List (List UInt8)) (h : vs.Nodup) : rputL (rcleanL []) n vs = oneA n vs := by
  have : rputL (rcleanL []) n vs = oneA n (addV [] vs) := by
    show rputL [] n vs = _
    unfold rputL baseV restA hitA putAt; simp
  rw [this, addV_nodup vs [] (by simpa using h)]; rfl

/-! ### tables -/
def noteT : List D → List Ob → Option (Bool × D × List Ob)
  | [.ptr 0 0, .agg [.x (.int .i64 0), .x (.int .i64 k), .x (.str []), .x (.str []), .x (.int .i64 0), .x (.int .i64 0), .x (.bool false), .x (.int .i64 0), .x (.str []), .x (.str []), .x (.str []), .x .nils, .x (.str []), .x .nils, .x .nils, .x (.str []), .x .nils, .x .nils, .x (.str []), .x (.bool false), .x (.str []), .x (.bool false), .x (.str []), .x (.str []), .x (.int .i64 0), .x (.int .i64 c), .x (.str []), .x (.str []), .x .nils]], [.box B] => (unI B).bind fun l => some (decide (l.length = 160 ∧ ∀ x ∈ l, 0 ≤ x ∧ x ≤ 1000000), .tup [], [cnB (notL l k c)])
  | _, _ => none
theorem noteT_ok : ∀ args os r os', noteT args os = some (true, r, os') → MCalls Try.prog 18 args os r os' := by
  intro args os r os' h
  unfold noteT at h
  split at h
  · rename_i k c B
    obtain ⟨l, h0, h⟩ := Option.bind_eq_some_iff.1 h
    simp only [Option.some.injEq, Prod.mk.injEq, decide_eq_true_eq] at h
    obtain ⟨⟨h1, h2⟩, rfl, rfl⟩ := h
    rw [unI_inv h0]
    exact note_c l k c h1 h2
  · cases h
def noteNG : List D → Option (Bool × D)
  | [.x .nilp, .agg [.x (.int .i64 0), .x (.int .i64 k), .x (.str []), .x (.str []), .x (.int .i64 0), .x (.int .i64 0), .x (.bool false), .x (.int .i64 0), .x (.str []), .x (.str []), .x (.str []), .x .nils, .x (.str []), .x .nils, .x .nils, .x (.str []), .x .nils, .x .nils, .x (.str []), .x (.bool false), .x (.str []), .x (.bool false), .x (.str []), .x (.str []), .x (.int .i64 0), .x (.int .i64 c), .x (.str []), .x (.str []), .x .nils]] => some (true, .tup [])
  | _ => none
theorem noteNG_ok : ∀ args r, noteNG args = some (true, r) → PCalls Try.prog 18 args r := by
  intro args r h
  unfold noteNG at h
  split at h
  · simp only [Option.some.injEq, Prod.mk.injEq, true_and] at h
    subst h; exact noteN_c _ _
  · cases h
def ofR : List D → List Ob → Option (Bool × D)
  | [.ptr 0 0, .x (.int .i64 k)], [.box B] => (unI B).bind fun l => some (decide (l.length = 160), .x (.int .i64 (if 0 ≤ k ∧ k < 32 then l.getD k.toNat 0 else 0)))
  | _, _ => none
theorem ofR_ok : ∀ args os r, ofR args os = some (true, r) → r.clean = true ∧ ∃ X, MCalls Try.prog 19 args os r (os ++ X) := by
  intro args os r h
  unfold ofR at h
  split at h
  · rename_i k B
    obtain ⟨l, h0, h⟩ := Option.bind_eq_some_iff.1 h
    simp only [Option.some.injEq, Prod.mk.injEq, decide_eq_true_eq] at h
    obtain ⟨h1, rfl⟩ := h
    rw [unI_inv h0]
    exact ⟨rfl, [], by rw [List.append_nil]; exact of_c l k h1⟩
  · cases h
def codesR : List D → List Ob → Option (Bool × D)
  | [.ptr 0 0, .x (.int .i64 k)], [.box B] => (unI B).bind fun l => some (decide (l.length = 160), .x (.int .i64 (if 0 ≤ k ∧ k < 128 then l.getD (32 + k.toNat) 0 else 0)))
  | _, _ => none
theorem codesR_ok : ∀ args os r, codesR args os = some (true, r) → r.clean = true ∧ ∃ X, MCalls Try.prog 22 args os r (os ++ X) := by
  intro args os r h
  unfold codesR at h
  split at h
  · rename_i k B
    obtain ⟨l, h0, h⟩ := Option.bind_eq_some_iff.1 h
    simp only [Option.some.injEq, Prod.mk.injEq, decide_eq_true_eq] at h
    obtain ⟨h1, rfl⟩ := h
    rw [unI_inv h0]
    exact ⟨rfl, [], by rw [List.append_nil]; exact codes_c l k h1⟩
  · cases h
def ofNG : List D → Option (Bool × D)
  | [.x .nilp, .x (.int .i64 k)] => some (true, .x (.int .i64 0))
  | _ => none
theorem ofNG_ok : ∀ args r, ofNG args = some (true, r) → PCalls Try.prog 19 args r := by
  intro args r h
  unfold ofNG at h
  split at h
  · rename_i k
    simp only [Option.some.injEq, Prod.mk.injEq, Bool.and_eq_true, decide_eq_true_eq, true_and] at h
    obtain rfl := h
    exact ofN_c k
  · cases h
def codesNG : List D → Option (Bool × D)
  | [.x .nilp, .x (.int .i64 k)] => some (true, .x (.int .i64 0))
  | _ => none
theorem codesNG_ok : ∀ args r, codesNG args = some (true, r) → PCalls Try.prog 22 args r := by
  intro args r h
  unfold codesNG at h
  split at h
  · rename_i k
    simp only [Option.some.injEq, Prod.mk.injEq, Bool.and_eq_true, decide_eq_true_eq, true_and] at h
    obtain rfl := h
    exact codesN_c k
  · cases h
def entryNG : List D → Option (Bool × D)
  | [.x .nilp] => some (true, .agg [.x (.str []), .x .nils])
  | _ => none
theorem entryNG_ok : ∀ args r, entryNG args = some (true, r) → PCalls Try.prog 25 args r := by
  intro args r h
  unfold entryNG at h
  split at h
  · simp only [Option.some.injEq, Prod.mk.injEq, Bool.and_eq_true, decide_eq_true_eq, true_and] at h
    obtain rfl := h
    exact entryN_c
  · cases h
def newC51 : List D → List Ob → Option (Bool × D × List Ob)
  | [], [] => some (true, .ptr 0 0, [cnB (List.replicate 160 0)])
  | _, _ => none
theorem newC51_ok : ∀ args os r os', newC51 args os = some (true, r, os') → MCalls Try.prog 17 args os r os' := by
  intro args os r os' h
  unfold newC51 at h
  split at h
  · simp only [Option.some.injEq, Prod.mk.injEq, true_and] at h
    obtain ⟨rfl, rfl⟩ := h
    exact new51_c
  · cases h
def awake51G : List D → Option (Bool × D)
  | [] => some (true, .x (.bool true))
  | _ => none
theorem awake51G_ok : ∀ args r, awake51G args = some (true, r) → PCalls Try.prog 16 args r := by
  intro args r h
  unfold awake51G at h
  split at h
  · simp only [Option.some.injEq, Prod.mk.injEq, true_and] at h
    subst h; exact awake51
  · cases h
def tabCt9 : Tabs := addQ (addQ (addQ (addQ (addR (addQ (addR (addQ (addR (addQ (addT (addQ (addT (addQ (noTabs) 16 awake51G) 17 newC51) 18 noteNG) 18 noteT) 19 ofNG) 19 ofR) 22 codesNG) 22 codesR) 25 entryNG) 25 entryR) 21 done51G) 20 bdigG) 23 (viaNN rwithG)) 24 (viaNN equalG)
theorem tabCt9_ok : SsOk Try.prog tabCt9 := addQ_ok (addQ_ok (addQ_ok (addQ_ok (addR_ok (addQ_ok (addR_ok (addQ_ok (addR_ok (addQ_ok (addT_ok (addQ_ok (addT_ok (addQ_ok (noTabs_ok) (G_enters G_ok (p := i16) rfl) awake51G_ok) (G_enters G_ok (p := i17) rfl) newC51_ok) (G_enters G_ok (p := i18) rfl) noteNG_ok) (G_enters G_ok (p := i18) rfl) noteT_ok) (G_enters G_ok (p := i19) rfl) ofNG_ok) (G_enters G_ok (p := i19) rfl) ofR_ok) (G_enters G_ok (p := i22) rfl) codesNG_ok) (G_enters G_ok (p := i22) rfl) codesR_ok) (G_enters G_ok (p := i25) rfl) entryNG_ok) (G_enters G_ok (p := i25) rfl) entryR_ok) (G_enters G_ok (p := i21) rfl) done51G_ok) (G_enters G_ok (p := i20) rfl) bdigG_ok) (G_enters G_ok (p := i23) rfl) (viaNN_ok rwithG_ok)) (G_enters G_ok (p := i24) rfl) (viaNN_ok equalG_ok)
theorem tabCt9_q16 (a : List D) : tabCt9.q 16 a = awake51G a := rfl
theorem tabCt9_q17 (a : List D) : tabCt9.q 17 a = none := rfl
theorem tabCt9_t17 (a : List D) (o : List Ob) : tabCt9.t 17 a o = liftT newC51 a o := rfl
theorem tabCt9_q18 (a : List D) : tabCt9.q 18 a = noteNG a := rfl
theorem tabCt9_t18 (a : List D) (o : List Ob) : tabCt9.t 18 a o = liftT noteT a o := rfl
theorem tabCt9_q19 (a : List D) : tabCt9.q 19 a = ofNG a := rfl
theorem tabCt9_t19 (a : List D) (o : List Ob) : tabCt9.t 19 a o = (readT ofR a o).map fun r => (r.1, r.2, o) := rfl
theorem tabCt9_r19 (a : List D) (o : List Ob) : tabCt9.r 19 a o = readT ofR a o := rfl
theorem tabCt9_q22 (a : List D) : tabCt9.q 22 a = codesNG a := rfl
theorem tabCt9_t22 (a : List D) (o : List Ob) : tabCt9.t 22 a o = (readT codesR a o).map fun r => (r.1, r.2, o) := rfl
theorem tabCt9_r22 (a : List D) (o : List Ob) : tabCt9.r 22 a o = readT codesR a o := rfl
theorem tabCt9_q25 (a : List D) : tabCt9.q 25 a = entryNG a := rfl
theorem tabCt9_t25 (a : List D) (o : List Ob) : tabCt9.t 25 a o = (readT entryR a o).map fun r => (r.1, r.2, o) := rfl
theorem tabCt9_r25 (a : List D) (o : List Ob) : tabCt9.r 25 a o = readT entryR a o := rfl
theorem tabCt9_q21 (a : List D) : tabCt9.q 21 a = done51G a := rfl
theorem tabCt9_q20 (a : List D) : tabCt9.q 20 a = bdigG a := rfl
theorem tabCt9_q23 (a : List D) : tabCt9.q 23 a = viaNN rwithG a := rfl
theorem tabCt9_q24 (a : List D) : tabCt9.q 24 a = viaNN equalG a := rfl
theorem tabCt9_r16 (a : List D) (o : List Ob) : tabCt9.r 16 a o = none := rfl
theorem tabCt9_r17 (a : List D) (o : List Ob) : tabCt9.r 17 a o = none := rfl
theorem tabCt9_r18 (a : List D) (o : List Ob) : tabCt9.r 18 a o = none := rfl
theorem tabCt9_r20 (a : List D) (o : List Ob) : tabCt9.r 20 a o = none := rfl
theorem tabCt9_r21 (a : List D) (o : List Ob) : tabCt9.r 21 a o = none := rfl
theorem tabCt9_r23 (a : List D) (o : List Ob) : tabCt9.r 23 a o = none := rfl
theorem tabCt9_r24 (a : List D) (o : List Ob) : tabCt9.r 24 a o = none := rfl
theorem tabCt9_k (f : FuncId) (a : List D) (o : List Ob) : tabCt9.k f a o = none := rfl
end Go.Proofs.Ytcffpndhodhncaa
end
section
/- Count: the law. -/
set_option linter.unusedSimpArgs false
set_option linter.unusedVariables false
namespace Go.Proofs.Ytcffpndhodhncaa
open Go.RowKit Go.Bo Go.Ab

theorem enc_rPr (p : Int × Int) : rPr.enc p = [.int .i64 p.1, .int .i64 p.2] := rfl
theorem cP_take (f : Int × Int → Bool) (l : List (Int × Int)) (j : Nat) (h : j < l.length) : (l.take (j + 1)).countP f = (l.take j).countP f + if f l[j] then 1 else 0 := by
  rw [List.take_succ_eq_append_getElem h, List.countP_append, List.countP_singleton]
set_option maxHeartbeats 2000000 in
theorem countNotes_c (l : List (Int × Int)) : PCalls Try.prog 5 [.x (.sl (rows rPr l))] (.x (.bool true)) := by
  by_cases hl : l.length ≤ 100
  · obtain ⟨hNl, hNk, hNc⟩ := ntL_all l l.length (Nat.le_refl _)
    have hNb := ntL_bound l l.length (Nat.le_refl _) hl
    have hloop := fun i hi => ntL_bound l i hi hl
    have hlen := fun i hi => (ntL_all l i hi).1
    have hstep := ntL_take l
    rw [List.take_length] at hNl hNk hNc hNb
    have hnd := wantL_nodup (ntL l) hNl
    have hbd : decide (∀ x ∈ ntL l, 0 ≤ x ∧ x < 1000) = true := decide_eq_true (fun x hx => by have := hNb x hx; omega)
    have hbd2 : decide ((wantL (ntL l)).Nodup) = true := decide_eq_true hnd
    have hw : (wantL (ntL l)).length ≤ 1000 := by
      have h1 := linL_len [107] (((ntL l).drop 0).take 32) 0
      have h2 := linL_len [99] (((ntL l).drop 32).take 128) 0
      unfold wantL; rw [List.length_append]
      simp only [List.length_take, List.length_drop] at h1 h2; omega
    refine FCalls.pure (fcallsG (fz := true) G_ok (p := i5) rfl _ (Nat.le_of_ble_eq_true rfl) _ (fun C0 E0 => ?_)) rfl
    dsimp only [i5, argsφ]
    have uu := And.intro @awake51G.eq_1 (And.intro @awake51G.eq_2 (And.intro @newC51.eq_1 (And.intro @newC51.eq_2 (And.intro @noteNG.eq_1 (And.intro @noteNG.eq_2 (And.intro @noteT.eq_1 (And.intro @noteT.eq_2 (And.intro @ofNG.eq_1 (And.intro @ofNG.eq_2 (And.intro @ofR.eq_1 (And.intro @ofR.eq_2 (And.intro @codesNG.eq_1 (And.intro @codesNG.eq_2 (And.intro @codesR.eq_1 (And.intro @codesR.eq_2 (And.intro @entryNG.eq_1 (And.intro @entryNG.eq_2 (And.intro @entryR.eq_1 (And.intro @entryR.eq_2 (And.intro @done51G.eq_1 (And.intro @done51G.eq_2 (And.intro @bdigG.eq_1 (And.intro @bdigG.eq_2 (And.intro @rwithG.eq_1 (And.intro @rwithG.eq_2 (And.intro @equalG.eq_1 (And.intro @equalG.eq_2 (And.intro @unI_map (And.intro @idsL_xI (And.intro @inL_xI (And.intro @renL_xI (And.intro @idsD.eq_1 (And.intro @idsD.eq_2 (And.intro @idsD.eq_3 (And.intro @idsD.eq_4 (And.intro @idsD.eq_5 (And.intro @idsD.eq_6 (And.intro @idsD.eq_7 (And.intro @idsD.eq_8 (And.intro @idsD.eq_9 (And.intro @idsD.eq_10 (And.intro @idsD.eq_11 (And.intro @idsD.eq_12 (And.intro @idsD.eq_13 (And.intro @idsD.eq_14 (And.intro @idsD.eq_15 (And.intro @idsD.eq_16 (And.intro @idsD.eq_17 (And.intro @D.inP.eq_1 (And.intro @D.inP.eq_2 (And.intro @D.inP.eq_3 (And.intro @D.inP.eq_4 (And.intro @D.inP.eq_5 (And.intro @D.inP.eq_6 (And.intro @D.inP.eq_7 (And.intro @D.inP.eq_8 (And.intro @D.inP.eq_9 (And.intro @D.inP.eq_10 (And.intro @D.inP.eq_11 (And.intro @D.inP.eq_12 (And.intro @D.inP.eq_13 (And.intro @D.inP.eq_14 (And.intro @D.inP.eq_15 (And.intro @D.inP.eq_16 (And.intro @D.inP.eq_17 (And.intro @D.ren.eq_1 (And.intro @D.ren.eq_2 (And.intro @D.ren.eq_3 (And.intro @D.ren.eq_4 (And.intro @D.ren.eq_5 (And.intro @D.ren.eq_6 (And.intro @D.ren.eq_7 (And.intro @D.ren.eq_8 (And.intro @D.ren.eq_9 (And.intro @D.ren.eq_10 (And.intro @D.ren.eq_11 (And.intro @D.ren.eq_12 (And.intro @D.ren.eq_13 (And.intro @D.ren.eq_14 (And.intro @D.ren.eq_15 (And.intro @D.ren.eq_16 (And.intro @D.ren.eq_17 (And.intro @un_A (And.intro @un_S (And.intro @enc_rPr (And.intro @List.length_map.{0, 0} (And.intro @tabCt9_r16 (And.intro @tabCt9_r17 (And.intro @tabCt9_r18 (And.intro @tabCt9_r19 (And.intro @tabCt9_r20 (And.intro @tabCt9_r21 (And.intro @tabCt9_r22 (And.intro @tabCt9_r23 (And.intro @tabCt9_r24 (And.intro @tabCt9_r25 (And.intro @tabCt9_k (And.intro @tabCt9_q16 (And.intro @tabCt9_q17 (And.intro @tabCt9_q18 (And.intro @tabCt9_q19 (And.intro @tabCt9_q20 (And.intro @tabCt9_q21 (And.intro @tabCt9_q22 (And.intro @tabCt9_q23 (And.intro @tabCt9_q24 (And.intro @tabCt9_q25 (And.intro @tabCt9_t17 (And.intro @tabCt9_t18 (And.intro @tabCt9_t19 (And.intro @tabCt9_t22 (@tabCt9_t25))))))))))))))))))))))))))))))))))))))))))))))))))))))))))))))))))))))))))))))))))))))))))))))))))))))))))))))))
    refine WI.seq ?_
    refine WI.regB tabCt9_ok [0] ?_
    refine oS ?_
    refine oN ?_
    refine thenQ_normal ?_
    refine WI.seq ?_
    refine WI.seq ?_
    refine WI.regB tabCt9_ok [0, 16] ?_
    refine oS ?_
    iterate 2 refine oG (hok := by first | with_reducible rfl | omega | (exact decide_eq_true (by omega)) | (exact decide_eq_true (by simp only [List.length_append, List.length_cons, List.length_nil]; omega)) | (simp only [decide_true, and_self]; done) | (simp; done) | (simp; omega) | rfl) ?_
    refine oN ?_
    refine thenQ_normal ?_
    refine WI.cond (b := _) rfl rfl (fun h0 => ?_) (fun h0 => ?_)
    · exfalso
      simp at h0; omega
    · try simp only [zB] at h0
      refine WI.skip ?_
      refine thenQ_normal ?_
      refine WI.seq ?_
      refine WI.regB tabCt9_ok [0, 3] ?_
      refine oC (hok := by first | with_reducible rfl | omega | (exact decide_eq_true (by omega)) | (exact decide_eq_true (by simp only [List.length_append, List.length_cons, List.length_nil]; omega)) | (simp only [decide_true, and_self]; done) | (simp; done) | (simp; omega) | rfl) ?_
      refine oS ?_
      refine oN ?_
      refine thenQ_normal ?_
      refine WI.seq ?_
      refine WI.seq ?_
      refine WI.regB tabCt9_ok [0, 3, 20] ?_
      refine oS ?_
      refine oG (hok := by first | with_reducible rfl | omega | (exact decide_eq_true (by omega)) | (exact decide_eq_true (by simp only [List.length_append, List.length_cons, List.length_nil]; omega)) | (simp only [decide_true, and_self]; done) | (simp; done) | (simp; omega) | rfl) ?_
      refine oN ?_
      refine thenQ_normal ?_
      refine WI.cond (b := _) rfl rfl (fun h1 => ?_) (fun h1 => ?_)
      · exfalso
        simp at h1
      · try simp only [zB] at h1
        refine WI.skip ?_
        refine thenQ_normal ?_
        refine WI.seq ?_
        refine WI.seq ?_
        refine WI.regB tabCt9_ok [0, 3, 4] ?_
        refine oS ?_
        refine oN ?_
        refine thenQ_normal ?_
        refine WI.block ?_
        refine WI.loop (fun φ os => ∃ (j : Nat), φ = [(0, .x (.sl (rows rPr l))), (3, .ptr 0 0), (4, .x (.int .i64 j))] ∧ os = [cnB (ntL (l.take j))] ∧ j ≤ l.length) (down l.length 4) ?_ (fun φ os hI => ?_)
        · exact ⟨0, rfl, rfl, by omega⟩
        · obtain ⟨j, rfl, rfl, hj⟩ := hI
          refine WI.seq ?_
          refine WI.seq ?_
          refine WI.regB tabCt9_ok [0, 3, 4, 24] ?_
          iterate 2 refine oS ?_
          iterate 2 refine oG (hok := by first | with_reducible rfl | omega | (exact decide_eq_true (by omega)) | (exact decide_eq_true (by simp only [List.length_append, List.length_cons, List.length_nil]; omega)) | (simp only [decide_true, and_self]; done) | (simp; done) | (simp; omega) | rfl) ?_
          refine oN ?_
          refine thenQ_normal ?_
          refine WI.cond (b := _) rfl rfl (fun h2 => ?_) (fun h2 => ?_)
          · try simp only [zB] at h2
            refine WI.skip ?_
            refine thenQ_normal ?_
            refine WI.seq ?_
            refine WI.block ?_
            have hj8 : j < l.length := by omega
            have hst := hstep j hj8
            have hok := decide_eq_true (show (ntL (l.take j)).length = 160 ∧ ∀ x ∈ ntL (l.take j), 0 ≤ x ∧ x ≤ 1000000 from ⟨hlen j hj, fun x hx => by have := hloop j hj x hx; omega⟩)
            have uu := And.intro uu hok
            refine WI.dregB tabCt9_ok [0, 3, 4] ?_
            iterate 3 refine dFS ?_
            iterate 3 refine dQG (hok := by first | with_reducible rfl | omega | (exact decide_eq_true (by omega)) | (exact decide_eq_true (by simp only [List.length_append, List.length_cons, List.length_nil]; omega)) | (simp only [decide_true, and_self]; done) | (simp; done) | (simp; omega) | rfl) ?_
            iterate 2 refine dFS ?_
            iterate 3 refine dQG (hok := by first | with_reducible rfl | omega | (exact decide_eq_true (by omega)) | (exact decide_eq_true (by simp only [List.length_append, List.length_cons, List.length_nil]; omega)) | (simp only [decide_true, and_self]; done) | (simp; done) | (simp; omega) | rfl) ?_
            iterate 2 refine dFG (hok := by first | with_reducible rfl | omega | (exact decide_eq_true (by omega)) | (exact decide_eq_true (by simp only [List.length_append, List.length_cons, List.length_nil]; omega)) | (simp only [decide_true, and_self]; done) | (simp; done) | (simp; omega) | rfl) ?_
            refine dAC (hok := by first | with_reducible rfl | omega | (exact decide_eq_true (by omega)) | (exact decide_eq_true (by simp only [List.length_append, List.length_cons, List.length_nil]; omega)) | (simp only [decide_true, and_self]; done) | (simp; done) | (simp; omega) | rfl) ?_
            refine dN ?_
            refine blockQ_normal ?_
            refine thenQ_normal ?_
            refine WI.regB tabCt9_ok [0, 3, 4] ?_
            refine oS ?_
            refine oG (hok := by first | with_reducible rfl | omega | (exact decide_eq_true (by omega)) | (exact decide_eq_true (by simp only [List.length_append, List.length_cons, List.length_nil]; omega)) | (simp only [decide_true, and_self]; done) | (simp; done) | (simp; omega) | rfl) ?_
            refine oS ?_
            refine oN ?_
            refine thenQ_normal ?_
            exact ⟨⟨j + 1, rfl, by rw [hst], by omega⟩, by simp [down, Ab.get, D.val, intOf?]; omega⟩
          · try simp only [zB] at h2
            refine WI.exit ?_
            refine thenQ_exit ?_
            refine thenQ_exit ?_
            refine blockQ_hit ?_
            refine thenQ_normal ?_
            refine WI.seq ?_
            have hvt : l.take j = l := List.take_of_length_le (by omega)
            rw [hvt]
            refine WI.regB tabCt9_ok [0, 3, 5] ?_
            refine oS ?_
            refine oN ?_
            refine thenQ_normal ?_
            refine WI.seq ?_
            refine WI.seq ?_
            refine WI.regB tabCt9_ok [0, 3, 5, 6] ?_
            refine oS ?_
            refine oN ?_
            refine thenQ_normal ?_
            refine WI.block ?_
            refine WI.ownA 5 9 1 ?_
            refine WI.loop (fun φ os => ∃ (k : Nat), φ = [(0, .x (.sl (rows rPr l))), (3, .ptr 0 0), (5, .ref 1 (linL [107] 0 ((ntL l).take k)).length 0 (linL [107] 0 ((ntL l).take k)).length), (6, .x (.int .i64 k))] ∧ os = [cnB (ntL l), .rows false 9 1 (rows rStr (linL [107] 0 ((ntL l).take k)))] ∧ k ≤ 32) (down 32 6) ?_ (fun φ os hI => ?_)
            · exact ⟨0, rfl, rfl, by omega⟩
            · obtain ⟨k, rfl, rfl, hk⟩ := hI
              refine WI.seq ?_
              refine WI.seq ?_
              refine WI.regB tabCt9_ok [0, 3, 5, 6, 42] ?_
              refine oS ?_
              refine oG (hok := by first | with_reducible rfl | omega | (exact decide_eq_true (by omega)) | (exact decide_eq_true (by simp only [List.length_append, List.length_cons, List.length_nil]; omega)) | (simp only [decide_true, and_self]; done) | (simp; done) | (simp; omega) | rfl) ?_
              refine oN ?_
              refine thenQ_normal ?_
              refine WI.cond (b := _) rfl rfl (fun h3 => ?_) (fun h3 => ?_)
              · try simp only [zB] at h3
                refine WI.skip ?_
                refine thenQ_normal ?_
                refine WI.seq ?_
                refine WI.block ?_
                refine WI.seq ?_
                have hk32 : k < 32 := by omega
                have hg : (ntL l).getD k 0 = (ntL l)[k] := by simp [show k < (ntL l).length by omega]
                rw [hNk k hk32] at hg
                have hsn := linL_snoc [107] ((ntL l).take k) 0 (ntL l)[k]
                rw [← List.take_succ_eq_append_getElem (by omega), ← hg, List.length_take, Nat.min_eq_left (by omega), Nat.zero_add] at hsn
                have hln := linL_len [107] ((ntL l).take k) 0
                rw [List.length_take] at hln
                have d1 := dgt_len k
                refine WI.regB tabCt9_ok [0, 3, 5, 6, 7] ?_
                refine oS ?_
                refine oN ?_
                refine thenQ_normal ?_
                refine WI.seq ?_
                refine WI.seq ?_
                refine WI.regB tabCt9_ok [0, 3, 5, 6, 7, 8] ?_
                refine oS ?_
                refine oN ?_
                refine thenQ_normal ?_
                refine WI.block ?_
                refine WI.loop (fun φ os => ∃ (i : Nat), φ = [(0, .x (.sl (rows rPr l))), (3, .ptr 0 0), (5, .ref 1 (linL [107] 0 ((ntL l).take k)).length 0 (linL [107] 0 ((ntL l).take k)).length), (6, .x (.int .i64 k)), (7, .x (.int .i64 ((l.take i).countP (hitK k) : Nat))), (8, .x (.int .i64 i))] ∧ os = [cnB (ntL l), .rows false 9 1 (rows rStr (linL [107] 0 ((ntL l).take k)))] ∧ i ≤ l.length) (down l.length 8) ?_ (fun φ os hI => ?_)
                · exact ⟨0, rfl, rfl, by omega⟩
                · obtain ⟨i, rfl, rfl, hi⟩ := hI
                  refine WI.seq ?_
                  refine WI.seq ?_
                  refine WI.regB tabCt9_ok [0, 3, 5, 6, 7, 8, 48] ?_
                  iterate 2 refine oS ?_
                  iterate 2 refine oG (hok := by first | with_reducible rfl | omega | (exact decide_eq_true (by omega)) | (exact decide_eq_true (by simp only [List.length_append, List.length_cons, List.length_nil]; omega)) | (simp only [decide_true, and_self]; done) | (simp; done) | (simp; omega) | rfl) ?_
                  refine oN ?_
                  refine thenQ_normal ?_
                  refine WI.cond (b := _) rfl rfl (fun h4 => ?_) (fun h4 => ?_)
                  · try simp only [zB] at h4
                    refine WI.skip ?_
                    refine thenQ_normal ?_
                    refine WI.seq ?_
                    refine WI.block ?_
                    refine WI.seq ?_
                    have hi16 : i < l.length := by omega
                    have hcs := cP_take (hitK k) l i hi16
                    have hle : (l.take i).countP (hitK k) ≤ 100 := by have := List.countP_le_length (p := hitK k) (l := l.take i); rw [List.length_take] at this; omega
                    refine WI.regB tabCt9_ok [0, 3, 5, 6, 7, 8, 57] ?_
                    iterate 2 refine oS ?_
                    iterate 3 refine oG (hok := by first | with_reducible rfl | omega | (exact decide_eq_true (by omega)) | (exact decide_eq_true (by simp only [List.length_append, List.length_cons, List.length_nil]; omega)) | (simp only [decide_true, and_self]; done) | (simp; done) | (simp; omega) | rfl) ?_
                    refine oS ?_
                    refine oG (hok := by first | with_reducible rfl | omega | (exact decide_eq_true (by omega)) | (exact decide_eq_true (by simp only [List.length_append, List.length_cons, List.length_nil]; omega)) | (simp only [decide_true, and_self]; done) | (simp; done) | (simp; omega) | rfl) ?_
                    refine oN ?_
                    refine thenQ_normal ?_
                    refine WI.cond (b := _) rfl rfl (fun h5 => ?_) (fun h5 => ?_)
                    · try simp only [zB] at h5
                      have hct : (l.take (i + 1)).countP (hitK k) = (l.take i).countP (hitK k) + 1 := by rw [hcs, if_pos (by simpa [hitK] using h5)]
                      refine WI.regB tabCt9_ok [0, 3, 5, 6, 7, 8] ?_
                      refine oS ?_
                      refine oG (hok := by first | with_reducible rfl | omega | (exact decide_eq_true (by omega)) | (exact decide_eq_true (by simp only [List.length_append, List.length_cons, List.length_nil]; omega)) | (simp only [decide_true, and_self]; done) | (simp; done) | (simp; omega) | rfl) ?_
                      refine oS ?_
                      refine oN ?_
                      refine blockQ_normal ?_
                      refine thenQ_normal ?_
                      refine WI.regB tabCt9_ok [0, 3, 5, 6, 7, 8] ?_
                      refine oS ?_
                      refine oG (hok := by first | with_reducible rfl | omega | (exact decide_eq_true (by omega)) | (exact decide_eq_true (by simp only [List.length_append, List.length_cons, List.length_nil]; omega)) | (simp only [decide_true, and_self]; done) | (simp; done) | (simp; omega) | rfl) ?_
                      refine oS ?_
                      refine oN ?_
                      refine thenQ_normal ?_
                      exact ⟨⟨i + 1, by rw [hct]; rfl, rfl, by omega⟩, by simp [down, Ab.get, D.val, intOf?]; omega⟩
                    · try simp only [zB] at h5
                      have hct : (l.take (i + 1)).countP (hitK k) = (l.take i).countP (hitK k) := by rw [hcs, if_neg (by simpa [hitK] using h5)]; rfl
                      refine WI.skip ?_
                      refine blockQ_normal ?_
                      refine thenQ_normal ?_
                      refine WI.regB tabCt9_ok [0, 3, 5, 6, 7, 8] ?_
                      refine oS ?_
                      refine oG (hok := by first | with_reducible rfl | omega | (exact decide_eq_true (by omega)) | (exact decide_eq_true (by simp only [List.length_append, List.length_cons, List.length_nil]; omega)) | (simp only [decide_true, and_self]; done) | (simp; done) | (simp; omega) | rfl) ?_
                      refine oS ?_
                      refine oN ?_
                      refine thenQ_normal ?_
                      exact ⟨⟨i + 1, by rw [hct]; rfl, rfl, by omega⟩, by simp [down, Ab.get, D.val, intOf?]; omega⟩
                  · try simp only [zB] at h4
                    refine WI.exit ?_
                    refine thenQ_exit ?_
                    refine thenQ_exit ?_
                    refine blockQ_hit ?_
                    refine thenQ_normal ?_
                    refine WI.seq ?_
                    refine WI.seq ?_
                    have hvt : l.take i = l := List.take_of_length_le (by omega)
                    rw [hvt]
                    have hle : l.countP (hitK k) ≤ 100 := by have := List.countP_le_length (p := hitK k) (l := l); omega
                    have d2 := dgt_len (l.countP (hitK k))
                    refine WI.regB tabCt9_ok [0, 3, 5, 6, 7, 64] ?_
                    iterate 2 refine oS ?_
                    refine oC (hok := by first | with_reducible rfl | omega | (exact decide_eq_true (by omega)) | (exact decide_eq_true (by simp only [List.length_append, List.length_cons, List.length_nil]; omega)) | (simp only [decide_true, and_self]; done) | (simp; done) | (simp; omega) | rfl) ?_
                    refine oS ?_
                    refine oG (hok := by first | with_reducible rfl | omega | (exact decide_eq_true (by omega)) | (exact decide_eq_true (by simp only [List.length_append, List.length_cons, List.length_nil]; omega)) | (simp only [decide_true, and_self]; done) | (simp; done) | (simp; omega) | rfl) ?_
                    refine oN ?_
                    refine thenQ_normal ?_
                    refine WI.cond (b := _) rfl rfl (fun h6 => ?_) (fun h6 => ?_)
                    · exfalso
                      have e6 := hNk k hk32
                      first | (rw [if_pos (by omega)] at h6; first | exact absurd e6 h6 | (simp at h6; omega)) | (simp [hk32] at h6; simp at e6; omega) | (trace_state; sorry)
                    · try simp only [zB] at h6
                      refine WI.skip ?_
                      refine thenQ_normal ?_
                      refine WI.seq ?_
                      refine WI.regB tabCt9_ok [0, 3, 5, 6, 7, 66] ?_
                      refine oS ?_
                      refine oG (hok := by first | with_reducible rfl | omega | (exact decide_eq_true (by omega)) | (exact decide_eq_true (by simp only [List.length_append, List.length_cons, List.length_nil]; omega)) | (simp only [decide_true, and_self]; done) | (simp; done) | (simp; omega) | rfl) ?_
                      refine oN ?_
                      refine thenQ_normal ?_
                      refine WI.cond (b := _) rfl rfl (fun h7 => ?_) (fun h7 => ?_)
                      · try simp only [zB] at h7
                        have hst : linL [107] 0 ((ntL l).take (k + 1)) = linL [107] 0 ((ntL l).take k) ++ [lin [107] k (l.countP (hitK k) : Nat)] := by rw [hsn, if_pos (by omega)]
                        refine WI.post ?_
                        refine WI.regB tabCt9_ok [0, 3, 5, 6] ?_
                        iterate 2 refine oS ?_
                        refine oC (hok := by first | with_reducible rfl | omega | (exact decide_eq_true (by omega)) | (exact decide_eq_true (by simp only [List.length_append, List.length_cons, List.length_nil]; omega)) | (simp only [decide_true, and_self]; done) | (simp; done) | (simp; omega) | rfl) ?_
                        iterate 2 refine oG (hok := by first | with_reducible rfl | omega | (exact decide_eq_true (by omega)) | (exact decide_eq_true (by simp only [List.length_append, List.length_cons, List.length_nil]; omega)) | (simp only [decide_true, and_self]; done) | (simp; done) | (simp; omega) | rfl) ?_
                        refine oS ?_
                        refine oC (hok := by first | with_reducible rfl | omega | (exact decide_eq_true (by omega)) | (exact decide_eq_true (by simp only [List.length_append, List.length_cons, List.length_nil]; omega)) | (simp only [decide_true, and_self]; done) | (simp; done) | (simp; omega) | rfl) ?_
                        iterate 3 refine oG (hok := by first | with_reducible rfl | omega | (exact decide_eq_true (by omega)) | (exact decide_eq_true (by simp only [List.length_append, List.length_cons, List.length_nil]; omega)) | (simp only [decide_true, and_self]; done) | (simp; done) | (simp; omega) | rfl) ?_
                        refine oS ?_
                        refine oP ?_
                        refine pPick [0, 1] ?_
                        refine pEnd ?_
                        refine blockQ_normal ?_
                        refine thenQ_normal ?_
                        refine WI.regB tabCt9_ok [0, 3, 5, 6] ?_
                        refine oS ?_
                        refine oG (hok := by first | with_reducible rfl | omega | (exact decide_eq_true (by omega)) | (exact decide_eq_true (by simp only [List.length_append, List.length_cons, List.length_nil]; omega)) | (simp only [decide_true, and_self]; done) | (simp; done) | (simp; omega) | rfl) ?_
                        refine oS ?_
                        refine oN ?_
                        refine thenQ_normal ?_
                        first | exact ⟨⟨k + 1, by first | (rw [hst]; done) | (rw [hst]; rfl) | (rw [hst, List.length_append]; rfl) | (rw [hst, List.length_append, List.length_append]; rfl), by first | (rw [hst]; done) | (rw [hst]; rfl) | (rw [hst, pk_xI, ← rows_str]; rfl) | (rw [hst, pk_xI]; rfl), by omega⟩, by simp [down, Ab.get, D.val, intOf?]; omega⟩ | (trace_state; sorry)
                      · try simp only [zB] at h7
                        have hst : linL [107] 0 ((ntL l).take (k + 1)) = linL [107] 0 ((ntL l).take k) := by rw [hsn, if_neg (by omega)]; simp
                        refine WI.skip ?_
                        refine blockQ_normal ?_
                        refine thenQ_normal ?_
                        refine WI.regB tabCt9_ok [0, 3, 5, 6] ?_
                        refine oS ?_
                        refine oG (hok := by first | with_reducible rfl | omega | (exact decide_eq_true (by omega)) | (exact decide_eq_true (by simp only [List.length_append, List.length_cons, List.length_nil]; omega)) | (simp only [decide_true, and_self]; done) | (simp; done) | (simp; omega) | rfl) ?_
                        refine oS ?_
                        refine oN ?_
                        refine thenQ_normal ?_
                        first | exact ⟨⟨k + 1, by first | (rw [hst]; done) | (rw [hst]; rfl) | (rw [hst, List.length_append]; rfl) | (rw [hst, List.length_append, List.length_append]; rfl), by first | (rw [hst]; done) | (rw [hst]; rfl) | (rw [hst, pk_xI, ← rows_str]; rfl) | (rw [hst, pk_xI]; rfl), by omega⟩, by simp [down, Ab.get, D.val, intOf?]; omega⟩ | (trace_state; sorry)
              · try simp only [zB] at h3
                refine WI.exit ?_
                refine thenQ_exit ?_
                refine thenQ_exit ?_
                refine blockQ_hit ?_
                refine thenQ_normal ?_
                refine WI.seq ?_
                refine WI.seq ?_
                obtain rfl : k = 32 := by omega
                refine WI.regB tabCt9_ok [0, 3, 5, 9] ?_
                refine oS ?_
                refine oN ?_
                refine thenQ_normal ?_
                refine WI.block ?_
                refine WI.loop (fun φ os => ∃ (k : Nat), φ = [(0, .x (.sl (rows rPr l))), (3, .ptr 0 0), (5, .ref 1 ((linL [107] 0 ((ntL l).take 32) ++ linL [99] 0 (((ntL l).drop 32).take k))).length 0 ((linL [107] 0 ((ntL l).take 32) ++ linL [99] 0 (((ntL l).drop 32).take k))).length), (9, .x (.int .i64 k))] ∧ os = [cnB (ntL l), .rows false 9 1 (rows rStr ((linL [107] 0 ((ntL l).take 32) ++ linL [99] 0 (((ntL l).drop 32).take k))))] ∧ k ≤ 128) (down 128 9) ?_ (fun φ os hI => ?_)
                · exact ⟨0, by rw [List.take_zero, linL, List.append_nil]; rfl, by rw [List.take_zero, linL, List.append_nil], by omega⟩
                · obtain ⟨k, rfl, rfl, hk⟩ := hI
                  refine WI.seq ?_
                  refine WI.seq ?_
                  refine WI.regB tabCt9_ok [0, 3, 5, 9, 78] ?_
                  refine oS ?_
                  refine oG (hok := by first | with_reducible rfl | omega | (exact decide_eq_true (by omega)) | (exact decide_eq_true (by simp only [List.length_append, List.length_cons, List.length_nil]; omega)) | (simp only [decide_true, and_self]; done) | (simp; done) | (simp; omega) | rfl) ?_
                  refine oN ?_
                  refine thenQ_normal ?_
                  refine WI.cond (b := _) rfl rfl (fun h8 => ?_) (fun h8 => ?_)
                  · try simp only [zB] at h8
                    refine WI.skip ?_
                    refine thenQ_normal ?_
                    refine WI.seq ?_
                    refine WI.block ?_
                    refine WI.seq ?_
                    have hk12 : k < 128 := by omega
                    have hdl : ((ntL l).drop 32).length = 128 := by rw [List.length_drop]; omega
                    have hg : (ntL l).getD (32 + k) 0 = ((ntL l).drop 32)[k] := by simp [show 32 + k < (ntL l).length by omega]
                    rw [hNc k hk12] at hg
                    have hsn := linL_snoc [99] (((ntL l).drop 32).take k) 0 ((ntL l).drop 32)[k]
                    rw [← List.take_succ_eq_append_getElem (by omega), ← hg, List.length_take, Nat.min_eq_left (by omega), Nat.zero_add] at hsn
                    have hln := linL_len [99] (((ntL l).drop 32).take k) 0
                    have hln2 := linL_len [107] ((ntL l).take 32) 0
                    rw [List.length_take] at hln hln2
                    have d1 := dgt_len k
                    refine WI.regB tabCt9_ok [0, 3, 5, 9, 10] ?_
                    refine oS ?_
                    refine oN ?_
                    refine thenQ_normal ?_
                    refine WI.seq ?_
                    refine WI.seq ?_
                    refine WI.regB tabCt9_ok [0, 3, 5, 9, 10, 11] ?_
                    refine oS ?_
                    refine oN ?_
                    refine thenQ_normal ?_
                    refine WI.block ?_
                    refine WI.loop (fun φ os => ∃ (i : Nat), φ = [(0, .x (.sl (rows rPr l))), (3, .ptr 0 0), (5, .ref 1 ((linL [107] 0 ((ntL l).take 32) ++ linL [99] 0 (((ntL l).drop 32).take k))).length 0 ((linL [107] 0 ((ntL l).take 32) ++ linL [99] 0 (((ntL l).drop 32).take k))).length), (9, .x (.int .i64 k)), (10, .x (.int .i64 ((l.take i).countP (hitC k) : Nat))), (11, .x (.int .i64 i))] ∧ os = [cnB (ntL l), .rows false 9 1 (rows rStr ((linL [107] 0 ((ntL l).take 32) ++ linL [99] 0 (((ntL l).drop 32).take k))))] ∧ i ≤ l.length) (down l.length 11) ?_ (fun φ os hI => ?_)
                    · exact ⟨0, rfl, rfl, by omega⟩
                    · obtain ⟨i, rfl, rfl, hi⟩ := hI
                      refine WI.seq ?_
                      refine WI.seq ?_
                      refine WI.regB tabCt9_ok [0, 3, 5, 9, 10, 11, 84] ?_
                      iterate 2 refine oS ?_
                      iterate 2 refine oG (hok := by first | with_reducible rfl | omega | (exact decide_eq_true (by omega)) | (exact decide_eq_true (by simp only [List.length_append, List.length_cons, List.length_nil]; omega)) | (simp only [decide_true, and_self]; done) | (simp; done) | (simp; omega) | rfl) ?_
                      refine oN ?_
                      refine thenQ_normal ?_
                      refine WI.cond (b := _) rfl rfl (fun h9 => ?_) (fun h9 => ?_)
                      · try simp only [zB] at h9
                        refine WI.skip ?_
                        refine thenQ_normal ?_
                        refine WI.seq ?_
                        refine WI.block ?_
                        refine WI.seq ?_
                        have hi16 : i < l.length := by omega
                        have hcs := cP_take (hitC k) l i hi16
                        have hle : (l.take i).countP (hitC k) ≤ 100 := by have := List.countP_le_length (p := hitC k) (l := l.take i); rw [List.length_take] at this; omega
                        refine WI.regB tabCt9_ok [0, 3, 5, 9, 10, 11, 101] ?_
                        iterate 2 refine oS ?_
                        iterate 3 refine oG (hok := by first | with_reducible rfl | omega | (exact decide_eq_true (by omega)) | (exact decide_eq_true (by simp only [List.length_append, List.length_cons, List.length_nil]; omega)) | (simp only [decide_true, and_self]; done) | (simp; done) | (simp; omega) | rfl) ?_
                        refine oS ?_
                        refine oG (hok := by first | with_reducible rfl | omega | (exact decide_eq_true (by omega)) | (exact decide_eq_true (by simp only [List.length_append, List.length_cons, List.length_nil]; omega)) | (simp only [decide_true, and_self]; done) | (simp; done) | (simp; omega) | rfl) ?_
                        refine oS ?_
                        iterate 5 refine oG (hok := by first | with_reducible rfl | omega | (exact decide_eq_true (by omega)) | (exact decide_eq_true (by simp only [List.length_append, List.length_cons, List.length_nil]; omega)) | (simp only [decide_true, and_self]; done) | (simp; done) | (simp; omega) | rfl) ?_
                        refine oC (hok := by first | with_reducible rfl | omega | (exact decide_eq_true (by omega)) | (exact decide_eq_true (by simp only [List.length_append, List.length_cons, List.length_nil]; omega)) | (simp only [decide_true, and_self]; done) | (simp; done) | (simp; omega) | rfl) ?_
                        refine oG (hok := by first | with_reducible rfl | omega | (exact decide_eq_true (by omega)) | (exact decide_eq_true (by simp only [List.length_append, List.length_cons, List.length_nil]; omega)) | (simp only [decide_true, and_self]; done) | (simp; done) | (simp; omega) | rfl) ?_
                        refine oN ?_
                        refine thenQ_normal ?_
                        refine WI.cond (b := _) rfl rfl (fun h10 => ?_) (fun h10 => ?_)
                        · try simp only [zB] at h10
                          have hct : (l.take (i + 1)).countP (hitC k) = (l.take i).countP (hitC k) + 1 := by rw [hcs, if_pos (by simpa [hitC] using h10)]
                          refine WI.regB tabCt9_ok [0, 3, 5, 9, 10, 11] ?_
                          refine oS ?_
                          refine oG (hok := by first | with_reducible rfl | omega | (exact decide_eq_true (by omega)) | (exact decide_eq_true (by simp only [List.length_append, List.length_cons, List.length_nil]; omega)) | (simp only [decide_true, and_self]; done) | (simp; done) | (simp; omega) | rfl) ?_
                          refine oS ?_
                          refine oN ?_
                          refine blockQ_normal ?_
                          refine thenQ_normal ?_
                          refine WI.regB tabCt9_ok [0, 3, 5, 9, 10, 11] ?_
                          refine oS ?_
                          refine oG (hok := by first | with_reducible rfl | omega | (exact decide_eq_true (by omega)) | (exact decide_eq_true (by simp only [List.length_append, List.length_cons, List.length_nil]; omega)) | (simp only [decide_true, and_self]; done) | (simp; done) | (simp; omega) | rfl) ?_
                          refine oS ?_
                          refine oN ?_
                          refine thenQ_normal ?_
                          exact ⟨⟨i + 1, by rw [hct]; rfl, rfl, by omega⟩, by simp [down, Ab.get, D.val, intOf?]; omega⟩
                        · try simp only [zB] at h10
                          have hct : (l.take (i + 1)).countP (hitC k) = (l.take i).countP (hitC k) := by rw [hcs, if_neg (by intro hh; simp only [hitC, Bool.and_eq_true, beq_iff_eq] at hh; simp [hh.1, hh.2] at h10)]; rfl
                          refine WI.skip ?_
                          refine blockQ_normal ?_
                          refine thenQ_normal ?_
                          refine WI.regB tabCt9_ok [0, 3, 5, 9, 10, 11] ?_
                          refine oS ?_
                          refine oG (hok := by first | with_reducible rfl | omega | (exact decide_eq_true (by omega)) | (exact decide_eq_true (by simp only [List.length_append, List.length_cons, List.length_nil]; omega)) | (simp only [decide_true, and_self]; done) | (simp; done) | (simp; omega) | rfl) ?_
                          refine oS ?_
                          refine oN ?_
                          refine thenQ_normal ?_
                          exact ⟨⟨i + 1, by rw [hct]; rfl, rfl, by omega⟩, by simp [down, Ab.get, D.val, intOf?]; omega⟩
                      · try simp only [zB] at h9
                        refine WI.exit ?_
                        refine thenQ_exit ?_
                        refine thenQ_exit ?_
                        refine blockQ_hit ?_
                        refine thenQ_normal ?_
                        refine WI.seq ?_
                        refine WI.seq ?_
                        have hvt : l.take i = l := List.take_of_length_le (by omega)
                        rw [hvt]
                        have hle : l.countP (hitC k) ≤ 100 := by have := List.countP_le_length (p := hitC k) (l := l); omega
                        have d2 := dgt_len (l.countP (hitC k))
                        refine WI.regB tabCt9_ok [0, 3, 5, 9, 10, 108] ?_
                        iterate 2 refine oS ?_
                        refine oC (hok := by first | with_reducible rfl | omega | (exact decide_eq_true (by omega)) | (exact decide_eq_true (by simp only [List.length_append, List.length_cons, List.length_nil]; omega)) | (simp only [decide_true, and_self]; done) | (simp; done) | (simp; omega) | rfl) ?_
                        refine oS ?_
                        refine oG (hok := by first | with_reducible rfl | omega | (exact decide_eq_true (by omega)) | (exact decide_eq_true (by simp only [List.length_append, List.length_cons, List.length_nil]; omega)) | (simp only [decide_true, and_self]; done) | (simp; done) | (simp; omega) | rfl) ?_
                        refine oN ?_
                        refine thenQ_normal ?_
                        refine WI.cond (b := _) rfl rfl (fun h11 => ?_) (fun h11 => ?_)
                        · exfalso
                          have e6 := hNc k hk12
                          first | (rw [if_pos (by omega)] at h11; first | exact absurd e6 h11 | (simp at h11; omega)) | (simp [hk12] at h11; simp at e6; omega) | (trace_state; sorry)
                        · try simp only [zB] at h11
                          refine WI.skip ?_
                          refine thenQ_normal ?_
                          refine WI.seq ?_
                          refine WI.regB tabCt9_ok [0, 3, 5, 9, 10, 110] ?_
                          refine oS ?_
                          refine oG (hok := by first | with_reducible rfl | omega | (exact decide_eq_true (by omega)) | (exact decide_eq_true (by simp only [List.length_append, List.length_cons, List.length_nil]; omega)) | (simp only [decide_true, and_self]; done) | (simp; done) | (simp; omega) | rfl) ?_
                          refine oN ?_
                          refine thenQ_normal ?_
                          refine WI.cond (b := _) rfl rfl (fun h12 => ?_) (fun h12 => ?_)
                          · try simp only [zB] at h12
                            have hst : linL [107] 0 ((ntL l).take 32) ++ linL [99] 0 (((ntL l).drop 32).take (k + 1)) = (linL [107] 0 ((ntL l).take 32) ++ linL [99] 0 (((ntL l).drop 32).take k)) ++ [lin [99] k (l.countP (hitC k) : Nat)] := by rw [hsn, if_pos (by omega), List.append_assoc]
                            refine WI.post ?_
                            refine WI.regB tabCt9_ok [0, 3, 5, 9] ?_
                            iterate 2 refine oS ?_
                            refine oC (hok := by first | with_reducible rfl | omega | (exact decide_eq_true (by omega)) | (exact decide_eq_true (by simp only [List.length_append, List.length_cons, List.length_nil]; omega)) | (simp only [decide_true, and_self]; done) | (simp; done) | (simp; omega) | rfl) ?_
                            iterate 2 refine oG (hok := by first | with_reducible rfl | omega | (exact decide_eq_true (by omega)) | (exact decide_eq_true (by simp only [List.length_append, List.length_cons, List.length_nil]; omega)) | (simp only [decide_true, and_self]; done) | (simp; done) | (simp; omega) | rfl) ?_
                            refine oS ?_
                            refine oC (hok := by first | with_reducible rfl | omega | (exact decide_eq_true (by omega)) | (exact decide_eq_true (by simp only [List.length_append, List.length_cons, List.length_nil]; omega)) | (simp only [decide_true, and_self]; done) | (simp; done) | (simp; omega) | rfl) ?_
                            iterate 3 refine oG (hok := by first | with_reducible rfl | omega | (exact decide_eq_true (by omega)) | (exact decide_eq_true (by simp only [List.length_append, List.length_cons, List.length_nil]; omega)) | (simp only [decide_true, and_self]; done) | (simp; done) | (simp; omega) | rfl) ?_
                            refine oS ?_
                            refine oP ?_
                            refine pPick [0, 1] ?_
                            refine pEnd ?_
                            refine blockQ_normal ?_
                            refine thenQ_normal ?_
                            refine WI.regB tabCt9_ok [0, 3, 5, 9] ?_
                            refine oS ?_
                            refine oG (hok := by first | with_reducible rfl | omega | (exact decide_eq_true (by omega)) | (exact decide_eq_true (by simp only [List.length_append, List.length_cons, List.length_nil]; omega)) | (simp only [decide_true, and_self]; done) | (simp; done) | (simp; omega) | rfl) ?_
                            refine oS ?_
                            refine oN ?_
                            refine thenQ_normal ?_
                            first | exact ⟨⟨k + 1, by first | (rw [hst]; done) | (rw [hst]; rfl) | (rw [hst, List.length_append]; rfl) | (rw [hst, List.length_append, List.length_append]; rfl), by first | (rw [hst]; done) | (rw [hst]; rfl) | (rw [hst, pk_xI, ← rows_str]; rfl) | (rw [hst, pk_xI]; rfl), by omega⟩, by simp [down, Ab.get, D.val, intOf?]; omega⟩ | (trace_state; sorry)
                          · try simp only [zB] at h12
                            have hst : linL [107] 0 ((ntL l).take 32) ++ linL [99] 0 (((ntL l).drop 32).take (k + 1)) = linL [107] 0 ((ntL l).take 32) ++ linL [99] 0 (((ntL l).drop 32).take k) := by rw [hsn, if_neg (by omega)]; simp
                            refine WI.skip ?_
                            refine blockQ_normal ?_
                            refine thenQ_normal ?_
                            refine WI.regB tabCt9_ok [0, 3, 5, 9] ?_
                            refine oS ?_
                            refine oG (hok := by first | with_reducible rfl | omega | (exact decide_eq_true (by omega)) | (exact decide_eq_true (by simp only [List.length_append, List.length_cons, List.length_nil]; omega)) | (simp only [decide_true, and_self]; done) | (simp; done) | (simp; omega) | rfl) ?_
                            refine oS ?_
                            refine oN ?_
                            refine thenQ_normal ?_
                            first | exact ⟨⟨k + 1, by first | (rw [hst]; done) | (rw [hst]; rfl) | (rw [hst, List.length_append]; rfl) | (rw [hst, List.length_append, List.length_append]; rfl), by first | (rw [hst]; done) | (rw [hst]; rfl) | (rw [hst, pk_xI, ← rows_str]; rfl) | (rw [hst, pk_xI]; rfl), by omega⟩, by simp [down, Ab.get, D.val, intOf?]; omega⟩ | (trace_state; sorry)
                  · try simp only [zB] at h8
                    refine WI.exit ?_
                    refine thenQ_exit ?_
                    refine thenQ_exit ?_
                    refine blockQ_hit ?_
                    refine thenQ_normal ?_
                    refine WI.seq ?_
                    obtain rfl : k = 128 := by omega
                    have hW : linL [107] 0 ((ntL l).take 32) ++ linL [99] 0 (((ntL l).drop 32).take 128) = wantL (ntL l) := rfl
                    rw [hW]
                    have hput := rput_one (lowS [100, 101, 115, 99, 114, 105, 112, 116, 105, 111, 110]) (wantL (ntL l)) hnd
                    refine WI.freezeA [1] ?_
                    refine WI.pickA [0] ?_
                    rw [pk_xI, List.take_length]
                    have uu := And.intro uu (And.intro hput (And.intro hbd (And.intro hbd2 (And.intro hNl (@oneR_eq)))))
                    refine WI.regB tabCt9_ok [3, 12] ?_
                    refine oG (hok := by first | with_reducible rfl | omega | (exact decide_eq_true (by omega)) | (exact decide_eq_true (by simp only [List.length_append, List.length_cons, List.length_nil]; omega)) | (simp only [decide_true, and_self]; done) | (simp; done) | (simp; omega) | rfl) ?_
                    refine oS ?_
                    refine oC (hok := by first | with_reducible rfl | omega | (exact decide_eq_true (by omega)) | (exact decide_eq_true (by simp only [List.length_append, List.length_cons, List.length_nil]; omega)) | (simp only [decide_true, and_self]; done) | (simp; done) | (simp; omega) | rfl) ?_
                    iterate 2 refine oG (hok := by first | with_reducible rfl | omega | (exact decide_eq_true (by omega)) | (exact decide_eq_true (by simp only [List.length_append, List.length_cons, List.length_nil]; omega)) | (simp only [decide_true, and_self]; done) | (simp; done) | (simp; omega) | rfl) ?_
                    refine oN ?_
                    refine thenQ_normal ?_
                    refine WI.seq ?_
                    refine WI.regB tabCt9_ok [3, 12, 13] ?_
                    refine oS ?_
                    refine oN ?_
                    refine thenQ_normal ?_
                    refine WI.seq ?_
                    refine WI.regB tabCt9_ok [3, 12, 13] ?_
                    refine oS ?_
                    refine oG (hok := by first | with_reducible rfl | omega | (exact decide_eq_true (by omega)) | (exact decide_eq_true (by simp only [List.length_append, List.length_cons, List.length_nil]; omega)) | (simp only [decide_true, and_self]; done) | (simp; done) | (simp; omega) | rfl) ?_
                    refine oC (hok := by first | with_reducible rfl | omega | (exact decide_eq_true (by omega)) | (exact decide_eq_true (by simp only [List.length_append, List.length_cons, List.length_nil]; omega)) | (simp only [decide_true, and_self]; done) | (simp; done) | (simp; omega) | rfl) ?_
                    refine oN ?_
                    refine thenQ_normal ?_
                    refine WI.seq ?_
                    refine WI.dregB tabCt9_ok [2] ?_
                    refine dFS ?_
                    refine dQC (hok := by first | with_reducible rfl | omega | (exact decide_eq_true (by omega)) | (exact decide_eq_true (by simp only [List.length_append, List.length_cons, List.length_nil]; omega)) | (simp only [decide_true, and_self]; done) | (simp; done) | (simp; omega) | rfl) ?_
                    refine dQG (hok := by first | with_reducible rfl | omega | (exact decide_eq_true (by omega)) | (exact decide_eq_true (by simp only [List.length_append, List.length_cons, List.length_nil]; omega)) | (simp only [decide_true, and_self]; done) | (simp; done) | (simp; omega) | rfl) ?_
                    refine dAC (hok := by first | with_reducible rfl | omega | (exact decide_eq_true (by omega)) | (exact decide_eq_true (by simp only [List.length_append, List.length_cons, List.length_nil]; omega)) | (simp only [decide_true, and_self]; done) | (simp; done) | (simp; omega) | rfl) ?_
                    refine dFS ?_
                    refine dFG (hok := by first | with_reducible rfl | omega | (exact decide_eq_true (by omega)) | (exact decide_eq_true (by simp only [List.length_append, List.length_cons, List.length_nil]; omega)) | (simp only [decide_true, and_self]; done) | (simp; done) | (simp; omega) | rfl) ?_
                    refine dAC (hok := by first | with_reducible rfl | omega | (exact decide_eq_true (by omega)) | (exact decide_eq_true (by simp only [List.length_append, List.length_cons, List.length_nil]; omega)) | (simp only [decide_true, and_self]; done) | (simp; done) | (simp; omega) | rfl) ?_
                    refine dFG (hok := by first | with_reducible rfl | omega | (exact decide_eq_true (by omega)) | (exact decide_eq_true (by simp only [List.length_append, List.length_cons, List.length_nil]; omega)) | (simp only [decide_true, and_self]; done) | (simp; done) | (simp; omega) | rfl) ?_
                    refine dAC (hok := by first | with_reducible rfl | omega | (exact decide_eq_true (by omega)) | (exact decide_eq_true (by simp only [List.length_append, List.length_cons, List.length_nil]; omega)) | (simp only [decide_true, and_self]; done) | (simp; done) | (simp; omega) | rfl) ?_
                    iterate 3 refine dFG (hok := by first | with_reducible rfl | omega | (exact decide_eq_true (by omega)) | (exact decide_eq_true (by simp only [List.length_append, List.length_cons, List.length_nil]; omega)) | (simp only [decide_true, and_self]; done) | (simp; done) | (simp; omega) | rfl) ?_
                    refine dFS ?_
                    refine dFG (hok := by first | with_reducible rfl | omega | (exact decide_eq_true (by omega)) | (exact decide_eq_true (by simp only [List.length_append, List.length_cons, List.length_nil]; omega)) | (simp only [decide_true, and_self]; done) | (simp; done) | (simp; omega) | rfl) ?_
                    refine dAC (hok := by first | with_reducible rfl | omega | (exact decide_eq_true (by omega)) | (exact decide_eq_true (by simp only [List.length_append, List.length_cons, List.length_nil]; omega)) | (simp only [decide_true, and_self]; done) | (simp; done) | (simp; omega) | rfl) ?_
                    refine dFG (hok := by first | with_reducible rfl | omega | (exact decide_eq_true (by omega)) | (exact decide_eq_true (by simp only [List.length_append, List.length_cons, List.length_nil]; omega)) | (simp only [decide_true, and_self]; done) | (simp; done) | (simp; omega) | rfl) ?_
                    refine dAC (hok := by first | with_reducible rfl | omega | (exact decide_eq_true (by omega)) | (exact decide_eq_true (by simp only [List.length_append, List.length_cons, List.length_nil]; omega)) | (simp only [decide_true, and_self]; done) | (simp; done) | (simp; omega) | rfl) ?_
                    refine dFG (hok := by first | with_reducible rfl | omega | (exact decide_eq_true (by omega)) | (exact decide_eq_true (by simp only [List.length_append, List.length_cons, List.length_nil]; omega)) | (simp only [decide_true, and_self]; done) | (simp; done) | (simp; omega) | rfl) ?_
                    refine dFS ?_
                    refine dAC (hok := by first | with_reducible rfl | omega | (exact decide_eq_true (by omega)) | (exact decide_eq_true (by simp only [List.length_append, List.length_cons, List.length_nil]; omega)) | (simp only [decide_true, and_self]; done) | (simp; done) | (simp; omega) | rfl) ?_
                    refine dFG (hok := by first | with_reducible rfl | omega | (exact decide_eq_true (by omega)) | (exact decide_eq_true (by simp only [List.length_append, List.length_cons, List.length_nil]; omega)) | (simp only [decide_true, and_self]; done) | (simp; done) | (simp; omega) | rfl) ?_
                    refine dFS ?_
                    refine dN ?_
                    refine thenQ_normal ?_
                    refine WI.ret ?_
                    first | refine lfR ?_ | refine lfR2 ?_
                    first | rfl | exact ⟨rfl, rfl⟩ | trivial -- leaf 0
  · skip
    refine FCalls.pure (fcallsG (fz := true) G_ok (p := i5) rfl _ (Nat.le_of_ble_eq_true rfl) _ (fun C0 E0 => ?_)) rfl
    dsimp only [i5, argsφ]
    have uu := And.intro @awake51G.eq_1 (And.intro @awake51G.eq_2 (And.intro @tabCt9_r16 (And.intro @tabCt9_r17 (And.intro @tabCt9_r18 (And.intro @tabCt9_r19 (And.intro @tabCt9_r20 (And.intro @tabCt9_r21 (And.intro @tabCt9_r22 (And.intro @tabCt9_r23 (And.intro @tabCt9_r24 (And.intro @tabCt9_r25 (And.intro @tabCt9_k (And.intro @tabCt9_q16 (And.intro @tabCt9_q17 (And.intro @tabCt9_q18 (And.intro @tabCt9_q19 (And.intro @tabCt9_q20 (And.intro @tabCt9_q21 (And.intro @tabCt9_q22 (And.intro @tabCt9_q23 (And.intro @tabCt9_q24 (And.intro @tabCt9_q25 (And.intro @tabCt9_t17 (And.intro @tabCt9_t18 (And.intro @tabCt9_t19 (And.intro @tabCt9_t22 (And.intro @tabCt9_t25 (And.intro @bdigG.eq_1 (And.intro @bdigG.eq_2 (And.intro @codesNG.eq_1 (And.intro @codesNG.eq_2 (And.intro @codesR.eq_1 (And.intro @codesR.eq_2 (And.intro @done51G.eq_1 (And.intro @done51G.eq_2 (And.intro @entryNG.eq_1 (And.intro @entryNG.eq_2 (And.intro @entryR.eq_1 (And.intro @entryR.eq_2 (And.intro @equalG.eq_1 (And.intro @equalG.eq_2 (And.intro @newC51.eq_1 (And.intro @newC51.eq_2 (And.intro @noteNG.eq_1 (And.intro @noteNG.eq_2 (And.intro @noteT.eq_1 (And.intro @noteT.eq_2 (And.intro @ofNG.eq_1 (And.intro @ofNG.eq_2 (And.intro @ofR.eq_1 (And.intro @ofR.eq_2 (And.intro @rwithG.eq_1 (@rwithG.eq_2)))))))))))))))))))))))))))))))))))))))))))))))))))))
    refine WI.seq ?_
    refine WI.regB tabCt9_ok [0] ?_
    refine oS ?_
    refine oN ?_
    refine thenQ_normal ?_
    refine WI.seq ?_
    refine WI.seq ?_
    refine WI.regB tabCt9_ok [0, 16] ?_
    refine oS ?_
    iterate 2 refine oG ?_
    refine oN ?_
    refine thenQ_normal ?_
    refine WI.cond (b := _) rfl rfl (fun h0 => ?_) (fun h0 => ?_)
    · try simp only [zB] at h0
      refine WI.seq ?_
      refine WI.regB tabCt9_ok [2] ?_
      refine oC ?_
      refine oS ?_
      refine oN ?_
      refine thenQ_normal ?_
      refine WI.ret ?_
      refine thenQ_ret ?_
      first | refine lfR ?_ | refine lfR2 ?_
      first | rfl | exact ⟨rfl, rfl⟩ | trivial -- leaf 0
    · exfalso
      simp at h0; omega
end Go.Proofs.Ytcffpndhodhncaa
end
