/- MA1: Fi1, Flt, Fi2, Fi3, Fi4, Fi5. -/
import Derived.Test.YtmlpbojoekmfaaaLA4
import Derived.Test.YtmlpbojoekmfaaaIc
section
/- Filter: awake. -/
set_option linter.unusedSimpArgs false
set_option linter.unusedVariables false
namespace Go.Proofs.Ytmlpbojoekmfaaa
open Go.RowKit Go.Bo Go.Ab

theorem texts0_c (h t : List UInt8) : MCalls Try.prog 32 [.agg [.x (.str h), .x .nils, .x (.str t)]] [] (.ref 0 2 0 2) [.rows false 9 1 [[.str h], [.str t]]] := by
  refine FCalls.mcalls (fcallsG (fz := false) G_ok (p := i32) rfl _ (Nat.le_of_ble_eq_true rfl) _ (fun C0 E0 => ?_))
  dsimp only [i32, argsφ]
  have uu := trivial
  refine WI.seq ?_
  refine WI.regB noTabs_ok [1] ?_
  refine oG ?_
  refine oS ?_
  refine oN ?_
  refine thenQ_normal ?_
  refine WI.seq ?_
  refine WI.regB noTabs_ok [2] ?_
  refine oS ?_
  refine oG ?_
  refine oS ?_
  iterate 2 refine oG ?_
  refine oS ?_
  iterate 2 refine oG ?_
  refine oS ?_
  refine oN ?_
  refine thenQ_normal ?_
  refine WI.pickA [1] ?_
  refine WI.ret ?_
  first | refine lfR ?_ | refine lfR2 ?_
  first | rfl | exact ⟨rfl, rfl⟩ | trivial -- leaf 0
def textsK : List D → List Ob → Option (Bool × D × Ob)
  | [.agg [.x (.str h), .x .nils, .x (.str t)]], [] => some (true, .ref 0 2 0 2, .rows false 9 1 [[.str h], [.str t]])
  | _, _ => none
theorem textsK_ok : ∀ args os r ob, textsK args os = some (true, r, ob) → (∃ fz e sz rs, ob = .rows fz e sz rs) ∧ MCalls Try.prog 32 args os r (os ++ [ob]) := by
  intro args os r ob h
  unfold textsK at h
  split at h
  · simp only [Option.some.injEq, Prod.mk.injEq, true_and] at h
    obtain ⟨rfl, rfl⟩ := h
    exact ⟨⟨_, _, _, _, rfl⟩, texts0_c _ _⟩
  · cases h
def tabFi1 : Tabs := addK (noTabs) 32 textsK
theorem tabFi1_ok : SsOk Try.prog tabFi1 := addK_ok (noTabs_ok) (G_enters G_ok (p := i32) rfl) textsK_ok
theorem tabFi1_q32 (a : List D) : tabFi1.q 32 a = none := rfl
theorem tabFi1_t32 (a : List D) (o : List Ob) : tabFi1.t 32 a o = liftT (fun args os => (textsK args os).map fun q => (q.1, q.2.1, os ++ [q.2.2])) a o := rfl
theorem tabFi1_k32 (a : List D) (o : List Ob) : tabFi1.k 32 a o = newT textsK a o := rfl
theorem tabFi1_r (f : FuncId) (a : List D) (o : List Ob) : tabFi1.r f a o = none := rfl
theorem awake11_c : PCalls Try.prog 4 [] (.x (.bool true)) := ev_closedN G_ok 300 (p := i4) rfl tabFi1_ok [32] (by kernel_rfl) rfl
end Go.Proofs.Ytmlpbojoekmfaaa
end
section
/- Filters as data. -/
set_option linter.unusedSimpArgs false
set_option linter.unusedVariables false
namespace Go.Proofs.Ytmlpbojoekmfaaa
open Go.RowKit Go.Bo Go.Ab

abbrev Txt := List UInt8
inductive Flt where
  | mk (k : Int) (a v h : Txt) (m : List Txt) (t : Txt) (l : List Flt)
mutual
def encF : Flt → List X
  | .mk k a v h m t l => [.int .i64 k, .str a, .str v, .str h, .sl (rows rStr m), .str t, .sl (encFL l)]
def encFL : List Flt → List (List X)
  | [] => []
  | f :: l => encF f :: encFL l
end
mutual
def decF : List X → Option Flt
  | [.int .i64 k, .str a, .str v, .str h, .sl m, .str t, .sl l] => (unrows rStr m).bind fun m' => (decFL l).map fun l' => .mk k a v h m' t l'
  | _ => none
def decFL : List (List X) → Option (List Flt)
  | [] => some []
  | r :: l => (decF r).bind fun f => (decFL l).map fun l' => f :: l'
end
def rFlt : RC Flt := ⟨7, encF, decF⟩
theorem encFL_eq : ∀ l : List Flt, encFL l = rows rFlt l
  | [] => rfl
  | f :: l => by rw [encFL, encFL_eq l]; rfl
mutual
theorem dec_encF : ∀ f : Flt, decF (encF f) = some f
  | .mk k a v h m t l => by
    rw [encF, decF, unrows_rows good_rStr, Option.bind_some, dec_encFL l]; rfl
theorem dec_encFL : ∀ l : List Flt, decFL (encFL l) = some l
  | [] => by rw [encFL, decFL]
  | f :: l => by rw [encFL, decFL, dec_encF f, Option.bind_some, dec_encFL l]; rfl
end
mutual
theorem enc_decF : ∀ (r : List X) (f : Flt), decF r = some f → encF f = r
  | [.int .i64 k, .str a, .str v, .str h, .sl m, .str t, .sl l], f, e => by
    rw [decF] at e
    obtain ⟨m', h1, e⟩ := Option.bind_eq_some_iff.1 e
    obtain ⟨l', h2, rfl⟩ := Option.map_eq_some_iff.1 e
    rw [encF, enc_decFL l l' h2, rows_unrows good_rStr h1]
  | r, f, e => by
    unfold decF at e
    split at e
    · obtain ⟨m', h1, e⟩ := Option.bind_eq_some_iff.1 e
      obtain ⟨l', h2, rfl⟩ := Option.map_eq_some_iff.1 e
      rw [encF, enc_decFL _ l' h2, rows_unrows good_rStr h1]
    · cases e
theorem enc_decFL : ∀ (r : List (List X)) (l : List Flt), decFL r = some l → encFL l = r
  | [], l, e => by rw [decFL] at e; cases e; rw [encFL]
  | r :: rs, l, e => by
    rw [decFL] at e
    obtain ⟨f, h1, e⟩ := Option.bind_eq_some_iff.1 e
    obtain ⟨l', h2, rfl⟩ := Option.map_eq_some_iff.1 e
    rw [encFL, enc_decF r f h1, enc_decFL rs l' h2]
end
theorem encF_len : ∀ f : Flt, (encF f).length = 7
  | .mk k a v h m t l => by rw [encF]; rfl
theorem good_rFlt : rFlt.Good := ⟨encF_len, dec_encF, enc_decF⟩
theorem enc_rFlt (k : Int) (a v h : Txt) (m : List Txt) (t : Txt) (l : List Flt) : rFlt.enc (.mk k a v h m t l) = [.int .i64 k, .str a, .str v, .str h, .sl (rows rStr m), .str t, .sl (rows rFlt l)] := by
  show encF _ = _; rw [encF, encFL_eq]
abbrev rFltC : RC (Int × (Txt × (Txt × ((Txt × (List Txt × (Txt × Unit))) × (List Flt × Unit))))) := rCat (rInt .i64) (rCat rStr (rCat rStr (rCat (rCat rStr (rCat (rSl rStr) (rCat rStr rEnd))) (rCat (rSl rFlt) rEnd))))
theorem encC_rFlt (x : Int × (Txt × (Txt × ((Txt × (List Txt × (Txt × Unit))) × (List Flt × Unit))))) : rFltC.enc x = rFlt.enc (.mk x.1 x.2.1 x.2.2.1 x.2.2.2.1.1 x.2.2.2.1.2.1 x.2.2.2.1.2.2.1 x.2.2.2.2.1) := by
  rw [enc_rFlt]; rfl
theorem opens_fltAt : ∀ fuel, OpensAt Try.prog fuel 29 rFlt := by
  intro fuel
  induction fuel using Nat.strongRecOn with
  | ind fuel ih =>
    intro H enc w cs x h
    have hs : OpensAt Try.prog fuel 29 rFltC := opens_structAt Try.underlying29 (by kernel_rfl) (fun n hn =>
      .cons rfl (by kernel_rfl) ((opens_int Try.underlying3 (by kernel_rfl)).at' n)
      (.cons rfl (by kernel_rfl) ((opens_str Try.underlying9 (by kernel_rfl)).at' n)
      (.cons rfl (by kernel_rfl) ((opens_str Try.underlying9 (by kernel_rfl)).at' n)
      (.cons rfl (by kernel_rfl) ((opens_struct Try.underlying27 (by kernel_rfl) (.cons rfl (opens_str Try.underlying9 (by kernel_rfl)) (.cons rfl (opens_sl good_rStr Try.underlying25 (by kernel_rfl) (opens_str Try.underlying9 (by kernel_rfl)) (by decide)) (.cons rfl (opens_str Try.underlying9 (by kernel_rfl)) (.nil _))))).at' n)
      (.cons rfl (by kernel_rfl) (opens_slAt good_rFlt Try.underlying22 (by kernel_rfl) (fun m hm => ih m (by omega)) (by decide)) (.nil _))))))
    obtain ⟨y, h1, h2⟩ := hs enc w cs x h
    rw [encC_rFlt] at h1 h2
    exact ⟨_, h1, h2⟩
theorem opens_flt : Opens Try.prog 29 rFlt := ⟨by kernel_rfl, fun enc w fuel cs x h => opens_fltAt fuel enc w cs x h⟩
theorem rows_rec (f : Flt) (l : List Flt) : rows rFlt (f :: l) = rFlt.enc f :: rows rFlt l := rfl
/-- A filter as an argument. -/
def fltD : Flt → D
  | .mk k a v h m t l => .agg [.x (.int .i64 k), .x (.str a), .x (.str v), .x (.str h), .x (.sl (rows rStr m)), .x (.str t), .x (.sl (rows rFlt l))]
theorem fltD_enc (f : Flt) : (rFlt.enc f).map D.x = match fltD f with
    | .agg ds => ds
    | _ => [] := by
  cases f; rw [enc_rFlt]; rfl
end Go.Proofs.Ytmlpbojoekmfaaa
end
section
/- Filter: how many, how long, how deep; the same. -/
set_option linter.unusedSimpArgs false
set_option linter.unusedVariables false
namespace Go.Proofs.Ytmlpbojoekmfaaa
open Go.RowKit Go.Bo Go.Ab

mutual
def szF : Flt → Nat
  | .mk _ _ _ _ _ _ l => 1 + szFL l
def szFL : List Flt → Nat
  | [] => 0
  | f :: l => szF f + szFL l
end
theorem szFL_get : ∀ (l : List Flt) (i : Nat) (h : i < l.length), szF l[i] ≤ szFL l
  | f :: l, 0, _ => by simp only [List.getElem_cons_zero, szFL]; omega
  | f :: l, i + 1, h => by
    have := szFL_get l i (by simpa using h)
    simp only [List.getElem_cons_succ, szFL]; omega
theorem un_F (l : List Flt) : unrows rFlt (rows rFlt l) = some l := unrows_rows good_rFlt l
theorem un_T (l : List Txt) : unrows rStr (rows rStr l) = some l := unrows_rows good_rStr l
/-! ### how many -/
mutual
def cntF : Flt → Int → Int
  | .mk _ _ _ _ _ _ l, most => cntFL l most 1
def cntFL : List Flt → Int → Int → Int
  | [], _, n => n
  | x :: l, most, n => if n < most then cntFL l most (n + cntF x (most - n)) else n
end
mutual
theorem cntF_b : ∀ (f : Flt) (m : Int), 1 ≤ cntF f m ∧ cntF f m ≤ max 1 m
  | .mk _ _ _ _ _ _ l, m => by rw [cntF]; exact cntFL_b l m 1 (by omega) (by omega)
theorem cntFL_b : ∀ (l : List Flt) (m n : Int), 1 ≤ n → n ≤ max 1 m → 1 ≤ cntFL l m n ∧ cntFL l m n ≤ max 1 m
  | [], m, n, h1, h2 => by rw [cntFL]; omega
  | x :: l, m, n, h1, h2 => by
    rw [cntFL]
    split
    · have := cntF_b x (m - n)
      exact cntFL_b l m _ (by omega) (by omega)
    · omega
end
def cntmG (N : Nat) : List D → Option (Bool × D)
  | [.agg [.x (.int .i64 k), .x (.str a), .x (.str v), .x (.str hd), .x (.sl M), .x (.str t), .x (.sl L)], .x (.int .i64 m)] => (unrows rStr M).bind fun mm => (unrows rFlt L).bind fun l => some (decide (szF (.mk k a v hd mm t l) ≤ N ∧ m ≤ 1000 ∧ -1000 ≤ m), .x (.int .i64 (cntF (.mk k a v hd mm t l) m)))
  | _ => none
theorem cntmG_ok (N : Nat) (ih : ∀ (f : Flt) (m : Int), szF f ≤ N ∧ m ≤ 1000 ∧ -1000 ≤ m → PCalls Try.prog 16 [fltD f, .x (.int .i64 m)] (.x (.int .i64 (cntF f m)))) : ∀ args r, cntmG N args = some (true, r) → PCalls Try.prog 16 args r := by
  intro args r h
  unfold cntmG at h
  split at h
  · rename_i k a v hd M t L m
    obtain ⟨mm, hr0, h⟩ := Option.bind_eq_some_iff.1 h
    obtain ⟨l, hr1, h⟩ := Option.bind_eq_some_iff.1 h
    simp only [Option.some.injEq, Prod.mk.injEq, Bool.and_eq_true, decide_eq_true_eq, true_and] at h
    obtain ⟨h1, rfl⟩ := h
    rw [← rows_unrows good_rStr hr0]
    rw [← rows_unrows good_rFlt hr1]
    exact ih (.mk k a v hd mm t l) m h1
  · cases h
def tabFi2 (g : List D → Option (Bool × D)) : Tabs := addQ (noTabs) 16 g
theorem tabFi2_ok (g : List D → Option (Bool × D)) (hg : ∀ args r, g args = some (true, r) → PCalls Try.prog 16 args r) : SsOk Try.prog (tabFi2 g) := addQ_ok (noTabs_ok) (G_enters G_ok (p := i16) rfl) hg
theorem tabFi2_q16 (g : List D → Option (Bool × D)) (a : List D) : (tabFi2 g).q 16 a = g a := rfl
theorem tabFi2_r (g : List D → Option (Bool × D)) (f : FuncId) (a : List D) (o : List Ob) : (tabFi2 g).r f a o = none := rfl
theorem tabFi2_k (g : List D → Option (Bool × D)) (f : FuncId) (a : List D) (o : List Ob) : (tabFi2 g).k f a o = none := rfl
theorem count_c : ∀ (N : Nat) (f : Flt) (m : Int), szF f ≤ N ∧ m ≤ 1000 ∧ -1000 ≤ m → PCalls Try.prog 16 [fltD f, .x (.int .i64 m)] (.x (.int .i64 (cntF f m)))
  | 0, .mk k a v h mm t l, m, hs => by have := hs.1; simp only [szF] at this; omega
  | N + 1, .mk k a v h mm t l, m, hs => by
    have ih := count_c N
    have hsz : szFL l ≤ N := by have := hs.1; simp only [szF] at this; omega
    have hm := hs.2
    clear hs
    rw [show cntF (.mk k a v h mm t l) m = cntFL l m 1 by rw [cntF]]
    refine PCalls.wfA (fun hw => ?_)
    have hl : l.length ≤ maxLen := by have := (hw 0 6 _ rfl).1; rwa [rows_len] at this
    clear hw
    simp only [maxLen] at hl
    dsimp only [fltD]
    have hbx := fun x : Flt => cntF_b x
    refine FCalls.pure (fcallsG (fz := true) G_ok (p := i16) rfl _ (Nat.le_of_ble_eq_true rfl) _ (fun C0 E0 => ?_)) rfl
    dsimp only [i16, argsφ]
    have uu := And.intro @cntmG.eq_1 (And.intro @cntmG.eq_2 (And.intro @un_F (And.intro @un_T (And.intro @enc_rFlt (And.intro @tabFi2_r (And.intro @tabFi2_k (@tabFi2_q16)))))))
    refine WI.seq ?_
    refine WI.regB (tabFi2_ok (cntmG N) (cntmG_ok N ih)) [1, 2] ?_
    refine oG ?_
    refine oS ?_
    refine oN ?_
    refine thenQ_normal ?_
    refine WI.seq ?_
    refine WI.regB (tabFi2_ok (cntmG N) (cntmG_ok N ih)) [1, 2, 5] ?_
    refine oS ?_
    refine oN ?_
    refine thenQ_normal ?_
    refine WI.seq ?_
    refine WI.seq ?_
    refine WI.regB (tabFi2_ok (cntmG N) (cntmG_ok N ih)) [1, 2, 5, 6] ?_
    refine oS ?_
    refine oN ?_
    refine thenQ_normal ?_
    refine WI.block ?_
    refine WI.loop (fun φ os => ∃ (j : Nat) (n : Int), φ = [(1, .x (.int .i64 m)), (2, .ptr 0 0), (5, .x (.int .i64 n)), (6, .x (.int .i64 j))] ∧ os = [.box [.x (.int .i64 k), .x (.str a), .x (.str v), .x (.str h), .x (.sl (rows rStr mm)), .x (.str t), .x (.sl (rows rFlt l))]] ∧ j ≤ l.length ∧ 1 ≤ n ∧ n ≤ max 1 m ∧ cntFL l m 1 = cntFL (l.drop j) m n) (down l.length 6) ?_ (fun φ os hI => ?_)
    · exact ⟨0, 1, rfl, rfl, by omega, by omega, by omega, rfl⟩
    · obtain ⟨j, n, rfl, rfl, hj, hn1, hn2, hd⟩ := hI
      refine WI.seq ?_
      refine WI.seq ?_
      by_cases hj4 : j < l.length
      · have hdt := decide_eq_true (show (j : Int) < (l.length : Int) by omega)
        have uu := And.intro uu hdt
        refine WI.regB (tabFi2_ok (cntmG N) (cntmG_ok N ih)) [1, 2, 5, 6, 16] ?_
        iterate 2 refine oS ?_
        iterate 3 refine oG ?_
        refine oS ?_
        iterate 4 refine oG ?_
        refine oN ?_
        refine thenQ_normal ?_
        refine WI.cond (b := _) rfl rfl (fun h0 => ?_) (fun h0 => ?_)
        · try simp only [zB] at h0
          refine WI.skip ?_
          refine thenQ_normal ?_
          refine WI.seq ?_
          refine WI.block ?_
          have hnm : n < m := by simpa using h0
          rcases hx : l[j] with ⟨k1, a1, v1, h1, m1, t1, l1⟩
          have hs1 : szF l[j] ≤ N := Nat.le_trans (szFL_get l j hj4) hsz
          rw [hx] at hs1
          have hb1 := cntF_b (.mk k1 a1 v1 h1 m1 t1 l1) (m - n)
          have uu := And.intro uu hx
          refine WI.regB (tabFi2_ok (cntmG N) (cntmG_ok N ih)) [1, 2, 5, 6] ?_
          iterate 2 refine oS ?_
          refine oG ?_
          refine oS ?_
          iterate 2 refine oG ?_
          iterate 2 refine oS ?_
          refine oG ?_
          refine oC ?_
          refine oG ?_
          refine oS ?_
          refine oN ?_
          refine blockQ_normal ?_
          refine thenQ_normal ?_
          refine WI.regB (tabFi2_ok (cntmG N) (cntmG_ok N ih)) [1, 2, 5, 6] ?_
          refine oS ?_
          refine oG ?_
          refine oS ?_
          refine oN ?_
          refine thenQ_normal ?_
          exact ⟨⟨j + 1, n + cntF (.mk k1 a1 v1 h1 m1 t1 l1) (m - n), by first | rfl | simp, rfl, by omega, by omega, by omega, by rw [hd, List.drop_eq_getElem_cons hj4, cntFL, if_pos hnm, hx]⟩, by simp [down, Ab.get, D.val, intOf?]; omega⟩
        · try simp only [zB] at h0
          refine WI.exit ?_
          refine thenQ_exit ?_
          refine thenQ_exit ?_
          refine blockQ_hit ?_
          refine thenQ_normal ?_
          refine WI.seq ?_
          refine WI.regB (tabFi2_ok (cntmG N) (cntmG_ok N ih)) [4] ?_
          iterate 2 refine oS ?_
          refine oN ?_
          refine thenQ_normal ?_
          refine WI.ret ?_
          first | refine lfR ?_ | refine lfR2 ?_
          rw [hd, List.drop_eq_getElem_cons hj4, cntFL, if_neg (by simpa using h0)] -- leaf 0
      · have hdt := decide_eq_false (show ¬ (j : Int) < (l.length : Int) by omega)
        have uu := And.intro uu hdt
        refine WI.regB (tabFi2_ok (cntmG N) (cntmG_ok N ih)) [1, 2, 5, 6, 16] ?_
        iterate 2 refine oS ?_
        iterate 3 refine oG ?_
        refine oS ?_
        iterate 4 refine oG ?_
        refine oN ?_
        refine thenQ_normal ?_
        refine WI.cond (b := _) rfl rfl (fun h0 => ?_) (fun h0 => ?_)
        · exfalso
          simp at h0
        · try simp only [zB] at h0
          refine WI.exit ?_
          refine thenQ_exit ?_
          refine thenQ_exit ?_
          refine blockQ_hit ?_
          refine thenQ_normal ?_
          refine WI.seq ?_
          refine WI.regB (tabFi2_ok (cntmG N) (cntmG_ok N ih)) [4] ?_
          iterate 2 refine oS ?_
          refine oN ?_
          refine thenQ_normal ?_
          refine WI.ret ?_
          first | refine lfR ?_ | refine lfR2 ?_
          rw [hd, List.drop_of_length_le (by omega), cntFL] -- leaf 1
end Go.Proofs.Ytmlpbojoekmfaaa
end
section
/- Filter: long, depth, the same. -/
set_option linter.unusedSimpArgs false
set_option linter.unusedVariables false
namespace Go.Proofs.Ytmlpbojoekmfaaa
open Go.RowKit Go.Bo Go.Ab

def lngP (a v h t : Txt) (m : List Txt) : Prop := ((((((a.length : Int) > 80 ∨ ((v.length : Int) > 300 ∧ (v.length : Int) ≤ 1024)) ∨ (v.length : Int) > 1100) ∨ (h.length : Int) > 200) ∨ (t.length : Int) > 200) ∨ (m.length : Int) > 20)
instance (a v h t : Txt) (m : List Txt) : Decidable (lngP a v h t m) := by unfold lngP; infer_instance
mutual
def lngF : Flt → Bool
  | .mk _ a v h m t l => if lngP a v h t m then false else if ∃ s ∈ m, s.length > 100 then false else lngFL l
def lngFL : List Flt → Bool
  | [] => true
  | x :: l => if lngF x = true then lngFL l else false
end
def lngmG (N : Nat) : List D → Option (Bool × D)
  | [.agg [.x (.int .i64 k), .x (.str a), .x (.str v), .x (.str hd), .x (.sl M), .x (.str t), .x (.sl L)]] => (unrows rStr M).bind fun mm => (unrows rFlt L).bind fun l => some (decide (szF (.mk k a v hd mm t l) ≤ N), .x (.bool (lngF (.mk k a v hd mm t l))))
  | _ => none
theorem lngmG_ok (N : Nat) (ih : ∀ (f : Flt), szF f ≤ N → PCalls Try.prog 17 [fltD f] (.x (.bool (lngF f)))) : ∀ args r, lngmG N args = some (true, r) → PCalls Try.prog 17 args r := by
  intro args r h
  unfold lngmG at h
  split at h
  · rename_i k a v hd M t L
    obtain ⟨mm, hr0, h⟩ := Option.bind_eq_some_iff.1 h
    obtain ⟨l, hr1, h⟩ := Option.bind_eq_some_iff.1 h
    simp only [Option.some.injEq, Prod.mk.injEq, Bool.and_eq_true, decide_eq_true_eq, true_and] at h
    obtain ⟨h1, rfl⟩ := h
    rw [← rows_unrows good_rStr hr0]
    rw [← rows_unrows good_rFlt hr1]
    exact ih (.mk k a v hd mm t l) h1
  · cases h
def tabFi3 (g : List D → Option (Bool × D)) : Tabs := addQ (noTabs) 17 g
theorem tabFi3_ok (g : List D → Option (Bool × D)) (hg : ∀ args r, g args = some (true, r) → PCalls Try.prog 17 args r) : SsOk Try.prog (tabFi3 g) := addQ_ok (noTabs_ok) (G_enters G_ok (p := i17) rfl) hg
theorem tabFi3_q17 (g : List D → Option (Bool × D)) (a : List D) : (tabFi3 g).q 17 a = g a := rfl
theorem tabFi3_r (g : List D → Option (Bool × D)) (f : FuncId) (a : List D) (o : List Ob) : (tabFi3 g).r f a o = none := rfl
theorem tabFi3_k (g : List D → Option (Bool × D)) (f : FuncId) (a : List D) (o : List Ob) : (tabFi3 g).k f a o = none := rfl
theorem long_c : ∀ (N : Nat) (f : Flt), szF f ≤ N → PCalls Try.prog 17 [fltD f] (.x (.bool (lngF f)))
  | 0, .mk k a v h mm t l, hs => by simp only [szF] at hs; omega
  | N + 1, .mk k a v h mm t l, hs => by
    have ih := long_c N
    have hsz : szFL l ≤ N := by simp only [szF] at hs; omega
    clear hs
    refine PCalls.wfA (fun hw => ?_)
    have hl : l.length ≤ maxLen := by have := (hw 0 6 _ rfl).1; rwa [rows_len] at this
    clear hw
    simp only [maxLen] at hl
    dsimp only [fltD]
    rw [lngF]
    refine FCalls.pure (fcallsG (fz := true) G_ok (p := i17) rfl _ (Nat.le_of_ble_eq_true rfl) _ (fun C0 E0 => ?_)) rfl
    dsimp only [i17, argsφ]
    have uu := And.intro @lngmG.eq_1 (And.intro @lngmG.eq_2 (And.intro @un_F (And.intro @un_T (And.intro @enc_rFlt (And.intro @tabFi3_r (And.intro @tabFi3_k (@tabFi3_q17)))))))
    refine WI.seq ?_
    refine WI.regB (tabFi3_ok (lngmG N) (lngmG_ok N ih)) [1] ?_
    refine oG ?_
    refine oS ?_
    refine oN ?_
    refine thenQ_normal ?_
    refine WI.seq ?_
    refine WI.seq ?_
    refine WI.regB (tabFi3_ok (lngmG N) (lngmG_ok N ih)) [1, 47] ?_
    refine oS ?_
    iterate 3 refine oG ?_
    refine oS ?_
    iterate 11 refine oG ?_
    refine oS ?_
    iterate 5 refine oG ?_
    refine oS ?_
    iterate 6 refine oG ?_
    refine oS ?_
    iterate 6 refine oG ?_
    refine oS ?_
    iterate 6 refine oG ?_
    refine oN ?_
    refine thenQ_normal ?_
    refine WI.cond (b := _) rfl rfl (fun h0 => ?_) (fun h0 => ?_)
    · try simp only [zB] at h0
      refine WI.seq ?_
      refine WI.regB (tabFi3_ok (lngmG N) (lngmG_ok N ih)) [2] ?_
      refine oS ?_
      refine oN ?_
      refine thenQ_normal ?_
      refine WI.ret ?_
      refine thenQ_ret ?_
      first | refine lfR ?_ | refine lfR2 ?_
      rw [if_pos (by unfold lngP; omega)] -- leaf 0
    · try simp only [zB] at h0
      have hp : ¬ lngP a v h t mm := by unfold lngP; omega
      have hm20 : mm.length ≤ 20 := by unfold lngP at hp; omega
      refine WI.skip ?_
      refine thenQ_normal ?_
      refine WI.seq ?_
      refine WI.seq ?_
      refine WI.regB (tabFi3_ok (lngmG N) (lngmG_ok N ih)) [1, 3] ?_
      refine oS ?_
      refine oN ?_
      refine thenQ_normal ?_
      refine WI.block ?_
      refine WI.loop (fun φ os => ∃ (j : Nat), φ = [(1, .ptr 0 0), (3, .x (.int .i64 j))] ∧ os = [.box [.x (.int .i64 k), .x (.str a), .x (.str v), .x (.str h), .x (.sl (rows rStr mm)), .x (.str t), .x (.sl (rows rFlt l))]] ∧ j ≤ mm.length ∧ ∀ s ∈ mm.take j, ¬ s.length > 100) (down mm.length 3) ?_ (fun φ os hI => ?_)
      · exact ⟨0, rfl, rfl, by omega, by simp⟩
      · obtain ⟨j, rfl, rfl, hj, hall⟩ := hI
        refine WI.seq ?_
        refine WI.seq ?_
        refine WI.regB (tabFi3_ok (lngmG N) (lngmG_ok N ih)) [1, 3, 53] ?_
        iterate 3 refine oS ?_
        iterate 3 refine oG ?_
        refine oN ?_
        refine thenQ_normal ?_
        refine WI.cond (b := _) rfl rfl (fun h1 => ?_) (fun h1 => ?_)
        · try simp only [zB] at h1
          refine WI.skip ?_
          refine thenQ_normal ?_
          refine WI.seq ?_
          refine WI.block ?_
          refine WI.seq ?_
          refine WI.regB (tabFi3_ok (lngmG N) (lngmG_ok N ih)) [1, 3, 63] ?_
          iterate 2 refine oS ?_
          refine oG ?_
          refine oS ?_
          iterate 4 refine oG ?_
          refine oN ?_
          refine thenQ_normal ?_
          refine WI.cond (b := _) rfl rfl (fun h2 => ?_) (fun h2 => ?_)
          · try simp only [zB] at h2
            refine WI.seq ?_
            refine WI.regB (tabFi3_ok (lngmG N) (lngmG_ok N ih)) [2] ?_
            refine oS ?_
            refine oN ?_
            refine thenQ_normal ?_
            refine WI.ret ?_
            refine blockQ_ret ?_
            refine thenQ_ret ?_
            refine thenQ_ret ?_
            refine blockQ_ret ?_
            refine thenQ_ret ?_
            first | refine lfR ?_ | refine lfR2 ?_
            rw [if_neg hp, if_pos ⟨mm[j], List.getElem_mem _, by omega⟩] -- leaf 1
          · try simp only [zB] at h2
            refine WI.skip ?_
            refine blockQ_normal ?_
            refine thenQ_normal ?_
            refine WI.regB (tabFi3_ok (lngmG N) (lngmG_ok N ih)) [1, 3] ?_
            refine oS ?_
            refine oG ?_
            refine oS ?_
            refine oN ?_
            refine thenQ_normal ?_
            exact ⟨⟨j + 1, by first | rfl | simp, rfl, by omega, by rw [List.take_succ_eq_append_getElem (by omega)]; simp only [List.mem_append, List.mem_singleton]; rintro s (hs | rfl); exact hall s hs; first | omega | (simp at h2; omega)⟩, by simp [down, Ab.get, D.val, intOf?]; omega⟩
        · try simp only [zB] at h1
          refine WI.exit ?_
          refine thenQ_exit ?_
          refine thenQ_exit ?_
          refine blockQ_hit ?_
          refine thenQ_normal ?_
          refine WI.seq ?_
          refine WI.seq ?_
          have hnl : ¬ ∃ s ∈ mm, s.length > 100 := by rw [List.take_of_length_le (by omega)] at hall; rintro ⟨s, h1, h2⟩; exact hall s h1 h2
          rw [if_neg hp, if_neg hnl]
          refine WI.regB (tabFi3_ok (lngmG N) (lngmG_ok N ih)) [1, 4] ?_
          refine oS ?_
          refine oN ?_
          refine thenQ_normal ?_
          refine WI.block ?_
          refine WI.loop (fun φ os => ∃ (j : Nat), φ = [(1, .ptr 0 0), (4, .x (.int .i64 j))] ∧ os = [.box [.x (.int .i64 k), .x (.str a), .x (.str v), .x (.str h), .x (.sl (rows rStr mm)), .x (.str t), .x (.sl (rows rFlt l))]] ∧ j ≤ l.length ∧ lngFL l = lngFL (l.drop j)) (down l.length 4) ?_ (fun φ os hI => ?_)
          · exact ⟨0, rfl, rfl, by omega, rfl⟩
          · obtain ⟨j, rfl, rfl, hj, hd⟩ := hI
            refine WI.seq ?_
            refine WI.seq ?_
            refine WI.regB (tabFi3_ok (lngmG N) (lngmG_ok N ih)) [1, 4, 68] ?_
            iterate 2 refine oS ?_
            iterate 3 refine oG ?_
            refine oN ?_
            refine thenQ_normal ?_
            refine WI.cond (b := _) rfl rfl (fun h3 => ?_) (fun h3 => ?_)
            · try simp only [zB] at h3
              refine WI.skip ?_
              refine thenQ_normal ?_
              refine WI.seq ?_
              refine WI.block ?_
              refine WI.seq ?_
              have hj4 : j < l.length := by omega
              rcases hx : l[j] with ⟨k1, a1, v1, h1', m1, t1, l1⟩
              have hs1 : szF l[j] ≤ N := Nat.le_trans (szFL_get l j hj4) hsz
              rw [hx] at hs1
              have uu := And.intro uu hx
              refine WI.regB (tabFi3_ok (lngmG N) (lngmG_ok N ih)) [1, 4, 77] ?_
              refine oS ?_
              refine oG ?_
              refine oS ?_
              iterate 2 refine oG ?_
              refine oC ?_
              refine oG ?_
              refine oN ?_
              refine thenQ_normal ?_
              refine WI.cond (b := _) rfl rfl (fun h4 => ?_) (fun h4 => ?_)
              · try simp only [zB] at h4
                refine WI.seq ?_
                refine WI.regB (tabFi3_ok (lngmG N) (lngmG_ok N ih)) [2] ?_
                refine oS ?_
                refine oN ?_
                refine thenQ_normal ?_
                refine WI.ret ?_
                refine blockQ_ret ?_
                refine thenQ_ret ?_
                refine thenQ_ret ?_
                refine blockQ_ret ?_
                refine thenQ_ret ?_
                first | refine lfR ?_ | refine lfR2 ?_
                rw [hd, List.drop_eq_getElem_cons hj4, lngFL, if_neg (by rw [hx]; simpa using h4)] -- leaf 2
              · try simp only [zB] at h4
                refine WI.skip ?_
                refine blockQ_normal ?_
                refine thenQ_normal ?_
                refine WI.regB (tabFi3_ok (lngmG N) (lngmG_ok N ih)) [1, 4] ?_
                refine oS ?_
                refine oG ?_
                refine oS ?_
                refine oN ?_
                refine thenQ_normal ?_
                exact ⟨⟨j + 1, by first | rfl | simp, rfl, by omega, by rw [hd, List.drop_eq_getElem_cons (by omega), lngFL, if_pos (by rw [hx]; simpa using h4)]⟩, by simp [down, Ab.get, D.val, intOf?]; omega⟩
            · try simp only [zB] at h3
              refine WI.exit ?_
              refine thenQ_exit ?_
              refine thenQ_exit ?_
              refine blockQ_hit ?_
              refine thenQ_normal ?_
              refine WI.seq ?_
              refine WI.regB (tabFi3_ok (lngmG N) (lngmG_ok N ih)) [2] ?_
              refine oS ?_
              refine oN ?_
              refine thenQ_normal ?_
              refine WI.ret ?_
              first | refine lfR ?_ | refine lfR2 ?_
              rw [hd, List.drop_of_length_le (by omega), lngFL] -- leaf 3
/-! ### how deep -/
mutual
def depF : Flt → Nat → Nat
  | .mk _ _ _ _ _ _ l, 0 => 1
  | .mk _ _ _ _ _ _ l, m + 1 => depFL l m + 1
def depFL : List Flt → Nat → Nat
  | [], _ => 0
  | x :: l, m => max (depF x m) (depFL l m)
end
theorem mx_eq (a b : Nat) : (if (a : Int) > (b : Int) then (a : Int) else (b : Int)) = ((max b a : Nat) : Int) := by split <;> omega
theorem depFL_snoc : ∀ (l : List Flt) (x : Flt) (m : Nat), depFL (l ++ [x]) m = max (depFL l m) (depF x m)
  | [], x, m => by simp [depFL]
  | y :: l, x, m => by
    have := depFL_snoc l x m
    simp only [List.cons_append, depFL, this]; omega
mutual
theorem depF_b : ∀ (f : Flt) (m : Nat), 1 ≤ depF f m ∧ depF f m ≤ m + 1
  | .mk _ _ _ _ _ _ l, 0 => by simp [depF]
  | .mk _ _ _ _ _ _ l, m + 1 => by
    have := depFL_b l m
    rw [depF]; omega
theorem depFL_b : ∀ (l : List Flt) (m : Nat), depFL l m ≤ m + 1
  | [], m => by simp [depFL]
  | x :: l, m => by
    have h1 := depF_b x m
    have h2 := depFL_b l m
    rw [depFL]; omega
end
mutual
/-- One level less does not matter where it is not so deep. -/
theorem depF_less : ∀ (f : Flt) (m : Nat), depF f (m + 1) ≤ m + 1 → depF f m = depF f (m + 1)
  | .mk k a v h mm t l, 0, hh => by
    rw [depF] at hh
    rw [depF, depF]; omega
  | .mk k a v h mm t l, m + 1, hh => by
    rw [depF] at hh
    rw [depF, depF, depFL_less l m (by omega)]
theorem depFL_less : ∀ (l : List Flt) (m : Nat), depFL l (m + 1) ≤ m + 1 → depFL l m = depFL l (m + 1)
  | [], m, _ => by rw [depFL, depFL]
  | x :: l, m, hh => by
    rw [depFL] at hh
    rw [depFL, depFL, depF_less x m (by omega), depFL_less l m (by omega)]
end
def depmG (N : Nat) : List D → Option (Bool × D)
  | [.agg [.x (.int .i64 k), .x (.str a), .x (.str v), .x (.str hd), .x (.sl M), .x (.str t), .x (.sl L)], .x (.int .i64 m)] => (unrows rStr M).bind fun mm => (unrows rFlt L).bind fun l => some (decide (szF (.mk k a v hd mm t l) ≤ N ∧ 0 ≤ m ∧ m ≤ 64), .x (.int .i64 (depF (.mk k a v hd mm t l) m.toNat : Nat)))
  | _ => none
theorem depmG_ok (N : Nat) (ih : ∀ (f : Flt) (m : Int), szF f ≤ N ∧ 0 ≤ m ∧ m ≤ 64 → PCalls Try.prog 18 [fltD f, .x (.int .i64 m)] (.x (.int .i64 (depF f m.toNat : Nat)))) : ∀ args r, depmG N args = some (true, r) → PCalls Try.prog 18 args r := by
  intro args r h
  unfold depmG at h
  split at h
  · rename_i k a v hd M t L m
    obtain ⟨mm, hr0, h⟩ := Option.bind_eq_some_iff.1 h
    obtain ⟨l, hr1, h⟩ := Option.bind_eq_some_iff.1 h
    simp only [Option.some.injEq, Prod.mk.injEq, Bool.and_eq_true, decide_eq_true_eq, true_and] at h
    obtain ⟨h1, rfl⟩ := h
    rw [← rows_unrows good_rStr hr0]
    rw [← rows_unrows good_rFlt hr1]
    exact ih (.mk k a v hd mm t l) m h1
  · cases h
def tabFi4 (g : List D → Option (Bool × D)) : Tabs := addQ (noTabs) 18 g
theorem tabFi4_ok (g : List D → Option (Bool × D)) (hg : ∀ args r, g args = some (true, r) → PCalls Try.prog 18 args r) : SsOk Try.prog (tabFi4 g) := addQ_ok (noTabs_ok) (G_enters G_ok (p := i18) rfl) hg
theorem tabFi4_q18 (g : List D → Option (Bool × D)) (a : List D) : (tabFi4 g).q 18 a = g a := rfl
theorem tabFi4_r (g : List D → Option (Bool × D)) (f : FuncId) (a : List D) (o : List Ob) : (tabFi4 g).r f a o = none := rfl
theorem tabFi4_k (g : List D → Option (Bool × D)) (f : FuncId) (a : List D) (o : List Ob) : (tabFi4 g).k f a o = none := rfl
theorem depth_c : ∀ (N : Nat) (f : Flt) (m : Int), szF f ≤ N ∧ 0 ≤ m ∧ m ≤ 64 → PCalls Try.prog 18 [fltD f, .x (.int .i64 m)] (.x (.int .i64 (depF f m.toNat : Nat)))
  | 0, .mk k a v h mm t l, m, hs => by have := hs.1; simp only [szF] at this; omega
  | N + 1, .mk k a v h mm t l, m, hs => by
    have ih := depth_c N
    have hsz : szFL l ≤ N := by have := hs.1; simp only [szF] at this; omega
    have hm := hs.2
    clear hs
    refine PCalls.wfA (fun hw => ?_)
    have hl : l.length ≤ maxLen := by have := (hw 0 6 _ rfl).1; rwa [rows_len] at this
    clear hw
    simp only [maxLen] at hl
    dsimp only [fltD]
    obtain ⟨q, rfl⟩ : ∃ q : Nat, m = q := ⟨m.toNat, by omega⟩
    rw [Int.toNat_natCast]
    rcases q with _ | q
    · rw [depF]
      refine FCalls.pure (fcallsG (fz := true) G_ok (p := i18) rfl _ (Nat.le_of_ble_eq_true rfl) _ (fun C0 E0 => ?_)) rfl
      dsimp only [i18, argsφ]
      have uu := trivial
      refine WI.seq ?_
      refine WI.regB noTabs_ok [1, 2] ?_
      refine oG ?_
      refine oS ?_
      refine oN ?_
      refine thenQ_normal ?_
      refine WI.seq ?_
      refine WI.regB noTabs_ok [1, 2, 5] ?_
      refine oS ?_
      refine oN ?_
      refine thenQ_normal ?_
      refine WI.seq ?_
      refine WI.seq ?_
      refine WI.regB noTabs_ok [1, 2, 5, 9] ?_
      refine oS ?_
      refine oG ?_
      refine oN ?_
      refine thenQ_normal ?_
      refine WI.cond (b := _) rfl rfl (fun h0 => ?_) (fun h0 => ?_)
      · exfalso
        simp at h0
      · try simp only [zB] at h0
        refine WI.skip ?_
        refine thenQ_normal ?_
        refine WI.seq ?_
        refine WI.regB noTabs_ok [4] ?_
        refine oS ?_
        refine oG ?_
        refine oS ?_
        refine oN ?_
        refine thenQ_normal ?_
        refine WI.ret ?_
        first | refine lfR ?_ | refine lfR2 ?_
        first | rfl | exact ⟨rfl, rfl⟩ | trivial -- leaf 0
    · rw [depF]
      have hdb := fun x => depF_b x q
      have e1 : ((q + 1 : Nat) : Int) - 1 = (q : Int) := by omega
      have hfb := depFL_b l q
      refine FCalls.pure (fcallsG (fz := true) G_ok (p := i18) rfl _ (Nat.le_of_ble_eq_true rfl) _ (fun C0 E0 => ?_)) rfl
      dsimp only [i18, argsφ]
      have uu := And.intro @depmG.eq_1 (And.intro @depmG.eq_2 (And.intro @un_F (And.intro @un_T (And.intro @enc_rFlt (And.intro @e1 (And.intro @tabFi4_r (And.intro @tabFi4_k (@tabFi4_q18))))))))
      refine WI.seq ?_
      refine WI.regB (tabFi4_ok (depmG N) (depmG_ok N ih)) [1, 2] ?_
      refine oG ?_
      refine oS ?_
      refine oN ?_
      refine thenQ_normal ?_
      refine WI.seq ?_
      refine WI.regB (tabFi4_ok (depmG N) (depmG_ok N ih)) [1, 2, 5] ?_
      refine oS ?_
      refine oN ?_
      refine thenQ_normal ?_
      refine WI.seq ?_
      refine WI.seq ?_
      refine WI.regB (tabFi4_ok (depmG N) (depmG_ok N ih)) [1, 2, 5, 9] ?_
      refine oS ?_
      refine oG ?_
      refine oN ?_
      refine thenQ_normal ?_
      refine WI.cond (b := _) rfl rfl (fun h0 => ?_) (fun h0 => ?_)
      · try simp only [zB] at h0
        refine WI.seq ?_
        refine WI.regB (tabFi4_ok (depmG N) (depmG_ok N ih)) [1, 5, 11, 12, 13] ?_
        refine oS ?_
        iterate 2 refine oG ?_
        refine oS ?_
        refine oN ?_
        refine thenQ_normal ?_
        refine WI.block ?_
        refine WI.loop (fun φ os => ∃ (j : Nat), φ = [(1, .x (.int .i64 (q + 1 : Nat))), (5, .x (.int .i64 (depFL (l.take j) q : Nat))), (11, .x (.sl (rows rFlt l))), (12, .x (.int .i64 l.length)), (13, .x (.int .i64 j))] ∧ os = [.box [.x (.int .i64 k), .x (.str a), .x (.str v), .x (.str h), .x (.sl (rows rStr mm)), .x (.str t), .x (.sl (rows rFlt l))]] ∧ j ≤ l.length) (down l.length 13) ?_ (fun φ os hI => ?_)
        · exact ⟨0, rfl, rfl, by omega⟩
        · obtain ⟨j, rfl, rfl, hj⟩ := hI
          refine WI.seq ?_
          refine WI.regB (tabFi4_ok (depmG N) (depmG_ok N ih)) [1, 5, 11, 12, 13, 14] ?_
          refine oG ?_
          refine oN ?_
          refine thenQ_normal ?_
          refine WI.seq ?_
          refine WI.cond (b := _) rfl rfl (fun h1 => ?_) (fun h1 => ?_)
          · try simp only [zB] at h1
            refine WI.skip ?_
            refine thenQ_normal ?_
            refine WI.seq ?_
            refine WI.block ?_
            refine WI.seq ?_
            have hj4 : j < l.length := by omega
            have hst := depFL_snoc (l.take j) l[j] q
            rw [← List.take_succ_eq_append_getElem hj4] at hst
            rcases hx : l[j] with ⟨k1, a1, v1, h1, m1, t1, l1⟩
            have hs1 : szF l[j] ≤ N := Nat.le_trans (szFL_get l j hj4) hsz
            rw [hx] at hs1 hst
            have uu := And.intro uu hx
            refine WI.regB (tabFi4_ok (depmG N) (depmG_ok N ih)) [1, 5, 7, 11, 12, 13] ?_
            iterate 4 refine oG ?_
            refine oN ?_
            refine thenQ_normal ?_
            refine WI.post ?_
            refine WI.regB (tabFi4_ok (depmG N) (depmG_ok N ih)) [1, 5, 11, 12, 13] ?_
            refine oS ?_
            refine oG ?_
            refine oS ?_
            refine oG ?_
            refine oC ?_
            refine oG ?_
            refine oS ?_
            refine oP ?_
            refine pPick [0] ?_
            refine pEnd ?_
            refine blockQ_normal ?_
            refine thenQ_normal ?_
            refine WI.regB (tabFi4_ok (depmG N) (depmG_ok N ih)) [1, 5, 11, 12, 13] ?_
            refine oG ?_
            refine oS ?_
            refine oN ?_
            refine thenQ_normal ?_
            exact ⟨⟨j + 1, by rw [hst]; first | rfl | (rw [mx_eq]; rfl), rfl, by omega⟩, by simp [down, Ab.get, D.val, intOf?]; omega⟩
          · try simp only [zB] at h1
            refine WI.exit ?_
            refine thenQ_exit ?_
            refine thenQ_exit ?_
            refine blockQ_hit ?_
            refine thenQ_normal ?_
            refine WI.seq ?_
            refine WI.regB (tabFi4_ok (depmG N) (depmG_ok N ih)) [4] ?_
            refine oS ?_
            refine oG ?_
            refine oS ?_
            refine oN ?_
            refine thenQ_normal ?_
            refine WI.ret ?_
            first | refine lfR ?_ | refine lfR2 ?_
            rw [List.take_of_length_le (by omega), IntWalk.i64_in _ (by omega)]; rfl -- leaf 0
      · exfalso
        first | omega | (simp at h0 <;> omega)
end Go.Proofs.Ytmlpbojoekmfaaa
end
section
/- Filter: the same; put together; the law. -/
set_option linter.unusedSimpArgs false
set_option linter.unusedVariables false
namespace Go.Proofs.Ytmlpbojoekmfaaa
open Go.RowKit Go.Bo Go.Ab

theorem parts_c (h : Txt) (m : List Txt) (t : Txt) : PCalls Try.prog 26 [.agg [.x (.str h), .x (.sl (rows rStr m)), .x (.str t)], .agg [.x (.str h), .x (.sl (rows rStr m)), .x (.str t)]] (.x (.bool true)) := by
  refine PCalls.wfA (fun hw => ?_)
  have hl : m.length ≤ maxLen := by have := (hw 0 1 _ rfl).1; rwa [rows_len] at this
  clear hw
  simp only [maxLen] at hl
  refine FCalls.pure (fcallsG (fz := true) G_ok (p := i26) rfl _ (Nat.le_of_ble_eq_true rfl) _ (fun C0 E0 => ?_)) rfl
  dsimp only [i26, argsφ]
  have uu := trivial
  refine WI.seq ?_
  refine WI.regB noTabs_ok [2, 3] ?_
  iterate 2 refine oG ?_
  refine oS ?_
  refine oN ?_
  refine thenQ_normal ?_
  refine WI.seq ?_
  refine WI.seq ?_
  refine WI.regB noTabs_ok [2, 3, 26] ?_
  refine oS ?_
  refine oG ?_
  refine oS ?_
  iterate 2 refine oG ?_
  refine oS ?_
  iterate 6 refine oG ?_
  refine oS ?_
  iterate 8 refine oG ?_
  refine oN ?_
  refine thenQ_normal ?_
  refine WI.cond (b := _) rfl rfl (fun h0 => ?_) (fun h0 => ?_)
  · exfalso
    simp at h0
  · try simp only [zB] at h0
    refine WI.skip ?_
    refine thenQ_normal ?_
    refine WI.seq ?_
    refine WI.seq ?_
    refine WI.regB noTabs_ok [2, 3, 5] ?_
    refine oS ?_
    refine oN ?_
    refine thenQ_normal ?_
    refine WI.block ?_
    refine WI.loop (fun φ os => ∃ (j : Nat), φ = [(2, .ptr 0 0), (3, .ptr 1 0), (5, .x (.int .i64 j))] ∧ os = [.box [.x (.str h), .x (.sl (rows rStr m)), .x (.str t)], .box [.x (.str h), .x (.sl (rows rStr m)), .x (.str t)]] ∧ j ≤ m.length) (down m.length 5) ?_ (fun φ os hI => ?_)
    · exact ⟨0, rfl, rfl, by omega⟩
    · obtain ⟨j, rfl, rfl, hj⟩ := hI
      refine WI.seq ?_
      refine WI.seq ?_
      refine WI.regB noTabs_ok [2, 3, 5, 31] ?_
      iterate 2 refine oS ?_
      iterate 3 refine oG ?_
      refine oN ?_
      refine thenQ_normal ?_
      refine WI.cond (b := _) rfl rfl (fun h1 => ?_) (fun h1 => ?_)
      · try simp only [zB] at h1
        refine WI.skip ?_
        refine thenQ_normal ?_
        refine WI.seq ?_
        refine WI.block ?_
        refine WI.seq ?_
        refine WI.dregB noTabs_ok [2, 3, 5, 44] ?_
        refine dFS ?_
        refine dQG ?_
        refine dFS ?_
        iterate 2 refine dQG ?_
        refine dFS ?_
        refine dQG ?_
        refine dFS ?_
        iterate 2 refine dQG ?_
        refine dFG ?_
        refine dN ?_
        refine thenQ_normal ?_
        refine WI.cond (b := _) rfl rfl (fun h2 => ?_) (fun h2 => ?_)
        · exfalso
          simp at h2
        · try simp only [zB] at h2
          refine WI.skip ?_
          refine blockQ_normal ?_
          refine thenQ_normal ?_
          refine WI.regB noTabs_ok [2, 3, 5] ?_
          refine oS ?_
          refine oG ?_
          refine oS ?_
          refine oN ?_
          refine thenQ_normal ?_
          exact ⟨⟨j + 1, by first | rfl | simp, rfl, by omega⟩, by simp [down, Ab.get, D.val, intOf?]; omega⟩
      · try simp only [zB] at h1
        refine WI.exit ?_
        refine thenQ_exit ?_
        refine thenQ_exit ?_
        refine blockQ_hit ?_
        refine thenQ_normal ?_
        refine WI.seq ?_
        refine WI.regB noTabs_ok [4] ?_
        refine oS ?_
        refine oN ?_
        refine thenQ_normal ?_
        refine WI.ret ?_
        first | refine lfR ?_ | refine lfR2 ?_
        first | rfl | exact ⟨rfl, rfl⟩ | trivial -- leaf 0
def partsG : List D → Option (Bool × D)
  | [.agg [.x (.str h0), .x (.sl M0), .x (.str t0)], .agg [.x (.str h1), .x (.sl M1), .x (.str t1)]] => (unrows rStr M0).bind fun m0 => (unrows rStr M1).bind fun m1 => some (decide (h1 = h0 ∧ m1 = m0 ∧ t1 = t0), .x (.bool true))
  | _ => none
theorem partsG_ok : ∀ args r, partsG args = some (true, r) → PCalls Try.prog 26 args r := by
  intro args r h
  unfold partsG at h
  split at h
  · rename_i h0 M0 t0 h1 M1 t1
    obtain ⟨m0, hr0, h⟩ := Option.bind_eq_some_iff.1 h
    obtain ⟨m1, hr1, h⟩ := Option.bind_eq_some_iff.1 h
    simp only [Option.some.injEq, Prod.mk.injEq, Bool.and_eq_true, decide_eq_true_eq, true_and] at h
    obtain ⟨h1, rfl⟩ := h
    rw [← rows_unrows good_rStr hr0]
    rw [← rows_unrows good_rStr hr1]
    exact (by obtain ⟨rfl, rfl, rfl⟩ := h1; exact parts_c _ _ _)
  · cases h
/-! ### whether two filters are the same -/
mutual
def eqF : Flt → Flt → Bool
  | .mk k a v h m t l, .mk k' a' v' h' m' t' l' => decide (k = k' ∧ a = a' ∧ v = v' ∧ h = h' ∧ m = m' ∧ t = t') && eqFL l l'
def eqFL : List Flt → List Flt → Bool
  | [], [] => true
  | x :: l, y :: m => eqF x y && eqFL l m
  | _, _ => false
end
mutual
theorem eqF_refl : ∀ f : Flt, eqF f f = true
  | .mk k a v h m t l => by rw [eqF, eqFL_refl l]; simp
theorem eqFL_refl : ∀ l : List Flt, eqFL l l = true
  | [] => by rw [eqFL]
  | x :: l => by rw [eqFL, eqF_refl x, eqFL_refl l]; rfl
end
mutual
theorem eqF_eq : ∀ f g : Flt, eqF f g = true → f = g
  | .mk k a v h m t l, .mk k' a' v' h' m' t' l', e => by
    rw [eqF, Bool.and_eq_true, decide_eq_true_eq] at e
    obtain ⟨⟨rfl, rfl, rfl, rfl, rfl, rfl⟩, e⟩ := e
    rw [eqFL_eq l l' e]
theorem eqFL_eq : ∀ l m : List Flt, eqFL l m = true → l = m
  | [], [], _ => rfl
  | x :: l, y :: m, e => by
    rw [eqFL, Bool.and_eq_true] at e
    rw [eqF_eq x y e.1, eqFL_eq l m e.2]
  | [], _ :: _, e => by rw [eqFL] at e; cases e; all_goals (intros; simp_all)
  | _ :: _, [], e => by rw [eqFL] at e; cases e; all_goals (intros; simp_all)
end
def samemG (N : Nat) : List D → Option (Bool × D)
  | [.agg [.x (.int .i64 k), .x (.str a), .x (.str v), .x (.str hd), .x (.sl M), .x (.str t), .x (.sl L)], .agg [.x (.int .i64 k'), .x (.str a'), .x (.str v'), .x (.str hd'), .x (.sl M'), .x (.str t'), .x (.sl L')], .x (.int .i64 m)] => (unrows rStr M).bind fun mm => (unrows rFlt L).bind fun l => (unrows rStr M').bind fun mm' => (unrows rFlt L').bind fun l' => some (decide (szF (.mk k a v hd mm t l) ≤ N ∧ -1 ≤ m ∧ m ≤ 64) && (decide (eqF (.mk k a v hd mm t l) (.mk k' a' v' hd' mm' t' l') = true)), .x (.bool true))
  | _ => none
theorem samemG_ok (N : Nat) (ih : ∀ (f : Flt) (m : Int), szF f ≤ N ∧ -1 ≤ m ∧ m ≤ 64 → PCalls Try.prog 20 [fltD f, fltD f, .x (.int .i64 m)] (.x (.bool true))) : ∀ args r, samemG N args = some (true, r) → PCalls Try.prog 20 args r := by
  intro args r h
  unfold samemG at h
  split at h
  · rename_i k a v hd M t L k' a' v' hd' M' t' L' m
    obtain ⟨mm, hr0, h⟩ := Option.bind_eq_some_iff.1 h
    obtain ⟨l, hr1, h⟩ := Option.bind_eq_some_iff.1 h
    obtain ⟨mm', hr2, h⟩ := Option.bind_eq_some_iff.1 h
    obtain ⟨l', hr3, h⟩ := Option.bind_eq_some_iff.1 h
    simp only [Option.some.injEq, Prod.mk.injEq, Bool.and_eq_true, decide_eq_true_eq, true_and] at h
    obtain ⟨⟨h1, h2⟩, rfl⟩ := h
    rw [← rows_unrows good_rStr hr0]
    rw [← rows_unrows good_rFlt hr1]
    rw [← rows_unrows good_rStr hr2]
    rw [← rows_unrows good_rFlt hr3]
    exact (by have e := eqF_eq _ _ h2; cases e; exact ih (.mk k a v hd mm t l) m h1)
  · cases h
def tabFi5 (g : List D → Option (Bool × D)) : Tabs := addQ (addQ (noTabs) 26 partsG) 20 g
theorem tabFi5_ok (g : List D → Option (Bool × D)) (hg : ∀ args r, g args = some (true, r) → PCalls Try.prog 20 args r) : SsOk Try.prog (tabFi5 g) := addQ_ok (addQ_ok (noTabs_ok) (G_enters G_ok (p := i26) rfl) partsG_ok) (G_enters G_ok (p := i20) rfl) hg
theorem tabFi5_q26 (g : List D → Option (Bool × D)) (a : List D) : (tabFi5 g).q 26 a = partsG a := rfl
theorem tabFi5_q20 (g : List D → Option (Bool × D)) (a : List D) : (tabFi5 g).q 20 a = g a := rfl
theorem tabFi5_r (g : List D → Option (Bool × D)) (f : FuncId) (a : List D) (o : List Ob) : (tabFi5 g).r f a o = none := rfl
theorem tabFi5_k (g : List D → Option (Bool × D)) (f : FuncId) (a : List D) (o : List Ob) : (tabFi5 g).k f a o = none := rfl
theorem same_c : ∀ (N : Nat) (f : Flt) (m : Int), szF f ≤ N ∧ -1 ≤ m ∧ m ≤ 64 → PCalls Try.prog 20 [fltD f, fltD f, .x (.int .i64 m)] (.x (.bool true))
  | 0, .mk k a v h mm t l, m, hs => by have := hs.1; simp only [szF] at this; omega
  | N + 1, .mk k a v h mm t l, m, hs => by
    have ih := same_c N
    have hsz : szFL l ≤ N := by have := hs.1; simp only [szF] at this; omega
    have hm := hs.2
    clear hs
    refine PCalls.wfA (fun hw => ?_)
    have hl : l.length ≤ maxLen := by have := (hw 0 6 _ rfl).1; rwa [rows_len] at this
    clear hw
    simp only [maxLen] at hl
    dsimp only [fltD]
    refine FCalls.pure (fcallsG (fz := true) G_ok (p := i20) rfl _ (Nat.le_of_ble_eq_true rfl) _ (fun C0 E0 => ?_)) rfl
    dsimp only [i20, argsφ]
    have uu := And.intro @samemG.eq_1 (And.intro @samemG.eq_2 (And.intro @partsG.eq_1 (And.intro @partsG.eq_2 (And.intro @un_F (And.intro @un_T (And.intro @enc_rFlt (And.intro @eqF_refl (And.intro @tabFi5_r (And.intro @tabFi5_k (And.intro @tabFi5_q20 (@tabFi5_q26)))))))))))
    refine WI.seq ?_
    refine WI.regB (tabFi5_ok (samemG N) (samemG_ok N ih)) [2, 3, 4] ?_
    iterate 2 refine oG (hok := by first | with_reducible rfl | omega | (exact decide_eq_true ⟨rfl, rfl, rfl⟩) | (exact decide_eq_true ⟨hs1, by omega, by omega⟩) | (rw [Bool.and_eq_true]; exact ⟨decide_eq_true ⟨hs1, by omega, by omega⟩, decide_eq_true (eqF_refl _)⟩) | (simp; done) | (simp; done) | (simp; omega) | rfl) ?_
    refine oS ?_
    refine oN ?_
    refine thenQ_normal ?_
    refine WI.seq ?_
    refine WI.seq ?_
    refine WI.regB (tabFi5_ok (samemG N) (samemG_ok N ih)) [2, 3, 4, 43] ?_
    refine oS ?_
    refine oG (hok := by first | with_reducible rfl | omega | (exact decide_eq_true ⟨rfl, rfl, rfl⟩) | (exact decide_eq_true ⟨hs1, by omega, by omega⟩) | (rw [Bool.and_eq_true]; exact ⟨decide_eq_true ⟨hs1, by omega, by omega⟩, decide_eq_true (eqF_refl _)⟩) | (simp; done) | (simp; done) | (simp; omega) | rfl) ?_
    refine oS ?_
    iterate 2 refine oG (hok := by first | with_reducible rfl | omega | (exact decide_eq_true ⟨rfl, rfl, rfl⟩) | (exact decide_eq_true ⟨hs1, by omega, by omega⟩) | (rw [Bool.and_eq_true]; exact ⟨decide_eq_true ⟨hs1, by omega, by omega⟩, decide_eq_true (eqF_refl _)⟩) | (simp; done) | (simp; done) | (simp; omega) | rfl) ?_
    refine oS ?_
    iterate 6 refine oG (hok := by first | with_reducible rfl | omega | (exact decide_eq_true ⟨rfl, rfl, rfl⟩) | (exact decide_eq_true ⟨hs1, by omega, by omega⟩) | (rw [Bool.and_eq_true]; exact ⟨decide_eq_true ⟨hs1, by omega, by omega⟩, decide_eq_true (eqF_refl _)⟩) | (simp; done) | (simp; done) | (simp; omega) | rfl) ?_
    refine oS ?_
    iterate 6 refine oG (hok := by first | with_reducible rfl | omega | (exact decide_eq_true ⟨rfl, rfl, rfl⟩) | (exact decide_eq_true ⟨hs1, by omega, by omega⟩) | (rw [Bool.and_eq_true]; exact ⟨decide_eq_true ⟨hs1, by omega, by omega⟩, decide_eq_true (eqF_refl _)⟩) | (simp; done) | (simp; done) | (simp; omega) | rfl) ?_
    refine oS ?_
    iterate 4 refine oG (hok := by first | with_reducible rfl | omega | (exact decide_eq_true ⟨rfl, rfl, rfl⟩) | (exact decide_eq_true ⟨hs1, by omega, by omega⟩) | (rw [Bool.and_eq_true]; exact ⟨decide_eq_true ⟨hs1, by omega, by omega⟩, decide_eq_true (eqF_refl _)⟩) | (simp; done) | (simp; done) | (simp; omega) | rfl) ?_
    refine oC (hok := by first | with_reducible rfl | omega | (exact decide_eq_true ⟨rfl, rfl, rfl⟩) | (exact decide_eq_true ⟨hs1, by omega, by omega⟩) | (rw [Bool.and_eq_true]; exact ⟨decide_eq_true ⟨hs1, by omega, by omega⟩, decide_eq_true (eqF_refl _)⟩) | (simp; done) | (simp; done) | (simp; omega) | rfl) ?_
    iterate 2 refine oG (hok := by first | with_reducible rfl | omega | (exact decide_eq_true ⟨rfl, rfl, rfl⟩) | (exact decide_eq_true ⟨hs1, by omega, by omega⟩) | (rw [Bool.and_eq_true]; exact ⟨decide_eq_true ⟨hs1, by omega, by omega⟩, decide_eq_true (eqF_refl _)⟩) | (simp; done) | (simp; done) | (simp; omega) | rfl) ?_
    refine oS ?_
    iterate 8 refine oG (hok := by first | with_reducible rfl | omega | (exact decide_eq_true ⟨rfl, rfl, rfl⟩) | (exact decide_eq_true ⟨hs1, by omega, by omega⟩) | (rw [Bool.and_eq_true]; exact ⟨decide_eq_true ⟨hs1, by omega, by omega⟩, decide_eq_true (eqF_refl _)⟩) | (simp; done) | (simp; done) | (simp; omega) | rfl) ?_
    refine oN ?_
    refine thenQ_normal ?_
    refine WI.cond (b := _) rfl rfl (fun h0 => ?_) (fun h0 => ?_)
    · exfalso
      simp at h0
    · try simp only [zB] at h0
      refine WI.skip ?_
      refine thenQ_normal ?_
      refine WI.seq ?_
      refine WI.seq ?_
      refine WI.regB (tabFi5_ok (samemG N) (samemG_ok N ih)) [2, 3, 4, 7] ?_
      refine oS ?_
      refine oN ?_
      refine thenQ_normal ?_
      refine WI.block ?_
      refine WI.loop (fun φ os => ∃ (j : Nat), φ = [(2, .x (.int .i64 m)), (3, .ptr 0 0), (4, .ptr 1 0), (7, .x (.int .i64 j))] ∧ os = [.box [.x (.int .i64 k), .x (.str a), .x (.str v), .x (.str h), .x (.sl (rows rStr mm)), .x (.str t), .x (.sl (rows rFlt l))], .box [.x (.int .i64 k), .x (.str a), .x (.str v), .x (.str h), .x (.sl (rows rStr mm)), .x (.str t), .x (.sl (rows rFlt l))]] ∧ j ≤ l.length) (down l.length 7) ?_ (fun φ os hI => ?_)
      · exact ⟨0, rfl, rfl, by omega⟩
      · obtain ⟨j, rfl, rfl, hj⟩ := hI
        refine WI.seq ?_
        refine WI.seq ?_
        refine WI.regB (tabFi5_ok (samemG N) (samemG_ok N ih)) [2, 3, 4, 7, 52] ?_
        iterate 2 refine oS ?_
        iterate 3 refine oG (hok := by first | with_reducible rfl | omega | (exact decide_eq_true ⟨rfl, rfl, rfl⟩) | (exact decide_eq_true ⟨hs1, by omega, by omega⟩) | (rw [Bool.and_eq_true]; exact ⟨decide_eq_true ⟨hs1, by omega, by omega⟩, decide_eq_true (eqF_refl _)⟩) | (simp; done) | (simp; done) | (simp; omega) | rfl) ?_
        refine oS ?_
        iterate 3 refine oG (hok := by first | with_reducible rfl | omega | (exact decide_eq_true ⟨rfl, rfl, rfl⟩) | (exact decide_eq_true ⟨hs1, by omega, by omega⟩) | (rw [Bool.and_eq_true]; exact ⟨decide_eq_true ⟨hs1, by omega, by omega⟩, decide_eq_true (eqF_refl _)⟩) | (simp; done) | (simp; done) | (simp; omega) | rfl) ?_
        refine oN ?_
        refine thenQ_normal ?_
        refine WI.cond (b := _) rfl rfl (fun h1 => ?_) (fun h1 => ?_)
        · try simp only [zB] at h1
          refine WI.skip ?_
          refine thenQ_normal ?_
          refine WI.seq ?_
          refine WI.block ?_
          refine WI.seq ?_
          have hj4 : j < l.length := by omega
          have hm0 : 0 < m := by omega
          rcases hx : l[j] with ⟨k1, a1, v1, h1', m1, t1, l1⟩
          have hs1 : szF l[j] ≤ N := Nat.le_trans (szFL_get l j hj4) hsz
          rw [hx] at hs1
          have uu := And.intro uu hx
          refine WI.dregB (tabFi5_ok (samemG N) (samemG_ok N ih)) [2, 3, 4, 7, 68] ?_
          refine dFS ?_
          refine dQG (hok := by first | with_reducible rfl | omega | (exact decide_eq_true ⟨rfl, rfl, rfl⟩) | (exact decide_eq_true ⟨hs1, by omega, by omega⟩) | (rw [Bool.and_eq_true]; exact ⟨decide_eq_true ⟨hs1, by omega, by omega⟩, decide_eq_true (eqF_refl _)⟩) | (simp; done) | (simp; done) | (simp; omega) | rfl) ?_
          refine dFS ?_
          iterate 2 refine dQG (hok := by first | with_reducible rfl | omega | (exact decide_eq_true ⟨rfl, rfl, rfl⟩) | (exact decide_eq_true ⟨hs1, by omega, by omega⟩) | (rw [Bool.and_eq_true]; exact ⟨decide_eq_true ⟨hs1, by omega, by omega⟩, decide_eq_true (eqF_refl _)⟩) | (simp; done) | (simp; done) | (simp; omega) | rfl) ?_
          refine dFS ?_
          refine dQG (hok := by first | with_reducible rfl | omega | (exact decide_eq_true ⟨rfl, rfl, rfl⟩) | (exact decide_eq_true ⟨hs1, by omega, by omega⟩) | (rw [Bool.and_eq_true]; exact ⟨decide_eq_true ⟨hs1, by omega, by omega⟩, decide_eq_true (eqF_refl _)⟩) | (simp; done) | (simp; done) | (simp; omega) | rfl) ?_
          refine dFS ?_
          iterate 2 refine dQG (hok := by first | with_reducible rfl | omega | (exact decide_eq_true ⟨rfl, rfl, rfl⟩) | (exact decide_eq_true ⟨hs1, by omega, by omega⟩) | (rw [Bool.and_eq_true]; exact ⟨decide_eq_true ⟨hs1, by omega, by omega⟩, decide_eq_true (eqF_refl _)⟩) | (simp; done) | (simp; done) | (simp; omega) | rfl) ?_
          refine dFS ?_
          refine dFG (hok := by first | with_reducible rfl | omega | (exact decide_eq_true ⟨rfl, rfl, rfl⟩) | (exact decide_eq_true ⟨hs1, by omega, by omega⟩) | (rw [Bool.and_eq_true]; exact ⟨decide_eq_true ⟨hs1, by omega, by omega⟩, decide_eq_true (eqF_refl _)⟩) | (simp; done) | (simp; done) | (simp; omega) | rfl) ?_
          refine dAC (hok := by first | with_reducible rfl | omega | (exact decide_eq_true ⟨rfl, rfl, rfl⟩) | (exact decide_eq_true ⟨hs1, by omega, by omega⟩) | (rw [Bool.and_eq_true]; exact ⟨decide_eq_true ⟨hs1, by omega, by omega⟩, decide_eq_true (eqF_refl _)⟩) | (simp; done) | (simp; done) | (simp; omega) | rfl) ?_
          refine dFG (hok := by first | with_reducible rfl | omega | (exact decide_eq_true ⟨rfl, rfl, rfl⟩) | (exact decide_eq_true ⟨hs1, by omega, by omega⟩) | (rw [Bool.and_eq_true]; exact ⟨decide_eq_true ⟨hs1, by omega, by omega⟩, decide_eq_true (eqF_refl _)⟩) | (simp; done) | (simp; done) | (simp; omega) | rfl) ?_
          refine dN ?_
          refine thenQ_normal ?_
          refine WI.cond (b := _) rfl rfl (fun h2 => ?_) (fun h2 => ?_)
          · exfalso
            simp at h2
          · try simp only [zB] at h2
            refine WI.skip ?_
            refine blockQ_normal ?_
            refine thenQ_normal ?_
            refine WI.regB (tabFi5_ok (samemG N) (samemG_ok N ih)) [2, 3, 4, 7] ?_
            refine oS ?_
            refine oG (hok := by first | with_reducible rfl | omega | (exact decide_eq_true ⟨rfl, rfl, rfl⟩) | (exact decide_eq_true ⟨hs1, by omega, by omega⟩) | (rw [Bool.and_eq_true]; exact ⟨decide_eq_true ⟨hs1, by omega, by omega⟩, decide_eq_true (eqF_refl _)⟩) | (simp; done) | (simp; done) | (simp; omega) | rfl) ?_
            refine oS ?_
            refine oN ?_
            refine thenQ_normal ?_
            exact ⟨⟨j + 1, by first | rfl | simp, rfl, by omega⟩, by simp [down, Ab.get, D.val, intOf?]; omega⟩
        · try simp only [zB] at h1
          refine WI.exit ?_
          refine thenQ_exit ?_
          refine thenQ_exit ?_
          refine blockQ_hit ?_
          refine thenQ_normal ?_
          refine WI.seq ?_
          refine WI.regB (tabFi5_ok (samemG N) (samemG_ok N ih)) [6] ?_
          refine oS ?_
          refine oN ?_
          refine thenQ_normal ?_
          refine WI.ret ?_
          first | refine lfR ?_ | refine lfR2 ?_
          first | rfl | exact ⟨rfl, rfl⟩ | trivial -- leaf 0
def same11G : List D → Option (Bool × D)
  | [.agg [.x (.int .i64 k), .x (.str a), .x (.str v), .x (.str hd), .x (.sl M), .x (.str t), .x (.sl L)], .agg [.x (.int .i64 k'), .x (.str a'), .x (.str v'), .x (.str hd'), .x (.sl M'), .x (.str t'), .x (.sl L')], .x (.int .i64 m)] => (unrows rStr M).bind fun mm => (unrows rFlt L).bind fun l => (unrows rStr M').bind fun mm' => (unrows rFlt L').bind fun l' => some (decide (-1 ≤ m ∧ m ≤ 64) && (decide (eqF (.mk k a v hd mm t l) (.mk k' a' v' hd' mm' t' l') = true)), .x (.bool true))
  | _ => none
theorem same11G_ok : ∀ args r, same11G args = some (true, r) → PCalls Try.prog 20 args r := by
  intro args r h
  unfold same11G at h
  split at h
  · rename_i k a v hd M t L k' a' v' hd' M' t' L' m
    obtain ⟨mm, hr0, h⟩ := Option.bind_eq_some_iff.1 h
    obtain ⟨l, hr1, h⟩ := Option.bind_eq_some_iff.1 h
    obtain ⟨mm', hr2, h⟩ := Option.bind_eq_some_iff.1 h
    obtain ⟨l', hr3, h⟩ := Option.bind_eq_some_iff.1 h
    simp only [Option.some.injEq, Prod.mk.injEq, Bool.and_eq_true, decide_eq_true_eq, true_and] at h
    obtain ⟨⟨h1, h2⟩, rfl⟩ := h
    rw [← rows_unrows good_rStr hr0]
    rw [← rows_unrows good_rFlt hr1]
    rw [← rows_unrows good_rStr hr2]
    rw [← rows_unrows good_rFlt hr3]
    exact (by have e := eqF_eq _ _ h2; cases e; exact same_c _ (.mk k a v hd mm t l) m ⟨Nat.le_refl _, h1⟩)
  · cases h
def tabFi6 : Tabs := addQ (noTabs) 20 same11G
theorem tabFi6_ok : SsOk Try.prog tabFi6 := addQ_ok (noTabs_ok) (G_enters G_ok (p := i20) rfl) same11G_ok
theorem tabFi6_q20 (a : List D) : tabFi6.q 20 a = same11G a := rfl
theorem tabFi6_r (f : FuncId) (a : List D) (o : List Ob) : tabFi6.r f a o = none := rfl
theorem tabFi6_k (f : FuncId) (a : List D) (o : List Ob) : tabFi6.k f a o = none := rfl
theorem Same_c (f : Flt) : PCalls Try.prog 10 [fltD f, fltD f] (.x (.bool true)) := by
  obtain ⟨k, a, v, h, mm, t, l⟩ := f
  dsimp only [fltD]
  refine FCalls.pure (fcallsG (fz := true) G_ok (p := i10) rfl _ (Nat.le_of_ble_eq_true rfl) _ (fun C0 E0 => ?_)) rfl
  dsimp only [i10, argsφ]
  have uu := And.intro @same11G.eq_1 (And.intro @same11G.eq_2 (And.intro @un_F (And.intro @un_T (And.intro @eqF_refl (And.intro @tabFi6_r (And.intro @tabFi6_k (@tabFi6_q20)))))))
  refine WI.seq ?_
  refine WI.regB tabFi6_ok [2, 3] ?_
  iterate 2 refine oG (hok := by first | with_reducible rfl | omega | (rw [Bool.and_eq_true]; exact ⟨rfl, decide_eq_true (eqF_refl _)⟩) | (simp; done) | (trace_state; sorry) | (simp; done) | (simp; omega) | rfl) ?_
  refine oS ?_
  refine oN ?_
  refine thenQ_normal ?_
  refine WI.seq ?_
  refine WI.regB tabFi6_ok [4] ?_
  iterate 2 refine oG (hok := by first | with_reducible rfl | omega | (rw [Bool.and_eq_true]; exact ⟨rfl, decide_eq_true (eqF_refl _)⟩) | (simp; done) | (trace_state; sorry) | (simp; done) | (simp; omega) | rfl) ?_
  refine oC (hok := by first | with_reducible rfl | omega | (rw [Bool.and_eq_true]; exact ⟨rfl, decide_eq_true (eqF_refl _)⟩) | (simp; done) | (trace_state; sorry) | (simp; done) | (simp; omega) | rfl) ?_
  refine oS ?_
  refine oN ?_
  refine thenQ_normal ?_
  refine WI.ret ?_
  first | refine lfR ?_ | refine lfR2 ?_
  first | rfl | exact ⟨rfl, rfl⟩ | trivial -- leaf 0
def Same11G : List D → Option (Bool × D)
  | [.agg [.x (.int .i64 k), .x (.str a), .x (.str v), .x (.str hd), .x (.sl M), .x (.str t), .x (.sl L)], .agg [.x (.int .i64 k'), .x (.str a'), .x (.str v'), .x (.str hd'), .x (.sl M'), .x (.str t'), .x (.sl L')]] => (unrows rStr M).bind fun mm => (unrows rFlt L).bind fun l => (unrows rStr M').bind fun mm' => (unrows rFlt L').bind fun l' => some (decide (eqF (.mk k a v hd mm t l) (.mk k' a' v' hd' mm' t' l') = true), .x (.bool true))
  | _ => none
theorem Same11G_ok : ∀ args r, Same11G args = some (true, r) → PCalls Try.prog 10 args r := by
  intro args r h
  unfold Same11G at h
  split at h
  · rename_i k a v hd M t L k' a' v' hd' M' t' L'
    obtain ⟨mm, hr0, h⟩ := Option.bind_eq_some_iff.1 h
    obtain ⟨l, hr1, h⟩ := Option.bind_eq_some_iff.1 h
    obtain ⟨mm', hr2, h⟩ := Option.bind_eq_some_iff.1 h
    obtain ⟨l', hr3, h⟩ := Option.bind_eq_some_iff.1 h
    simp only [Option.some.injEq, Prod.mk.injEq, Bool.and_eq_true, decide_eq_true_eq, true_and] at h
    obtain ⟨h1, rfl⟩ := h
    rw [← rows_unrows good_rStr hr0]
    rw [← rows_unrows good_rFlt hr1]
    rw [← rows_unrows good_rStr hr2]
    rw [← rows_unrows good_rFlt hr3]
    exact (by have e := eqF_eq _ _ h1; cases e; exact Same_c (.mk k a v hd mm t l))
  · cases h
/-! ### put together -/
theorem cloneF_c (l : List Flt) (hl : l.length ≤ 1000000) : PCalls Try.prog 19 [.x (.sl (rows rFlt l))] (.x (.sl (rows rFlt l))) := by
  have hall : ((rows rFlt l).all fun r => decide (r.length = 7)) = true := rows_all good_rFlt l 7 rfl
  refine FCalls.pure (fcallsG (fz := true) G_ok (p := i19) rfl _ (Nat.le_of_ble_eq_true rfl) _ (fun C0 E0 => ?_)) rfl
  dsimp only [i19, argsφ]
  have uu := hall
  refine WI.seq ?_
  refine WI.regB noTabs_ok [0] ?_
  refine oS ?_
  refine oN ?_
  refine thenQ_normal ?_
  refine WI.seq ?_
  refine WI.seq ?_
  refine WI.nilSplit 0 rfl (fun hn => ?_) ?_
  · simp only [put, Nat.reduceEqDiff, ↓reduceIte]
    refine WI.regB noTabs_ok [0, 4] ?_
    refine oS ?_
    refine oG (hok := by first | with_reducible rfl | omega | (exact decide_eq_true (by omega)) | (simp; done) | (simp; omega) | rfl) ?_
    refine oN ?_
    refine thenQ_normal ?_
    refine WI.cond (b := _) rfl rfl (fun h0 => ?_) (fun h0 => ?_)
    · try simp only [zB] at h0
      refine WI.seq ?_
      refine WI.regB noTabs_ok [2] ?_
      refine oS ?_
      refine oN ?_
      refine thenQ_normal ?_
      refine WI.nnA ?_
      refine WI.ret ?_
      refine thenQ_ret ?_
      first | refine lfR ?_ | refine lfR2 ?_
      first | rfl | rw [hn] -- leaf 0
    · exfalso
      simp at h0
  · simp only [put, Nat.reduceEqDiff, ↓reduceIte]
    refine WI.regB noTabs_ok [0, 4] ?_
    refine oS ?_
    refine oG (hok := by first | with_reducible rfl | omega | (exact decide_eq_true (by omega)) | (simp; done) | (simp; omega) | rfl) ?_
    refine oN ?_
    refine thenQ_normal ?_
    refine WI.cond (b := _) rfl rfl (fun h0 => ?_) (fun h0 => ?_)
    · exfalso
      simp at h0
    · try simp only [zB] at h0
      refine WI.skip ?_
      refine thenQ_normal ?_
      refine WI.seq ?_
      refine WI.unNz 0 rfl ?_
      simp only [put, Nat.reduceEqDiff, ↓reduceIte]
      refine WI.regB noTabs_ok [2] ?_
      refine oG (hok := by first | with_reducible rfl | omega | (exact decide_eq_true (by omega)) | (simp; done) | (simp; omega) | rfl) ?_
      refine oS ?_
      refine oG (hok := by first | with_reducible rfl | omega | (exact decide_eq_true (by omega)) | (simp; done) | (simp; omega) | rfl) ?_
      refine oS ?_
      refine oN ?_
      refine thenQ_normal ?_
      refine WI.nnA ?_
      refine WI.ret ?_
      first | refine lfR ?_ | refine lfR2 ?_
      first | rfl | rw [hn] -- leaf 1
def cloneFG : List D → Option (Bool × D)
  | [.x (.sl L)] => (unrows rFlt L).bind fun l => some (decide (l.length ≤ 1000000), .x (.sl (rows rFlt l)))
  | _ => none
theorem cloneFG_ok : ∀ args r, cloneFG args = some (true, r) → PCalls Try.prog 19 args r := by
  intro args r h
  unfold cloneFG at h
  split at h
  · rename_i L
    obtain ⟨l, hr0, h⟩ := Option.bind_eq_some_iff.1 h
    simp only [Option.some.injEq, Prod.mk.injEq, Bool.and_eq_true, decide_eq_true_eq, true_and] at h
    obtain ⟨h1, rfl⟩ := h
    rw [← rows_unrows good_rFlt hr0]
    exact cloneF_c l h1
  · cases h
def tabFi7 : Tabs := addQ (noTabs) 19 cloneFG
theorem tabFi7_ok : SsOk Try.prog tabFi7 := addQ_ok (noTabs_ok) (G_enters G_ok (p := i19) rfl) cloneFG_ok
theorem tabFi7_q19 (a : List D) : tabFi7.q 19 a = cloneFG a := rfl
theorem tabFi7_r (f : FuncId) (a : List D) (o : List Ob) : tabFi7.r f a o = none := rfl
theorem tabFi7_k (f : FuncId) (a : List D) (o : List Ob) : tabFi7.k f a o = none := rfl
abbrev mkD (k : Int) (l : List Flt) : D := .agg [.x (.int .i64 k), .x (.str []), .x (.str []), .x (.str []), .x .nils, .x (.str []), .x (.sl (rows rFlt l))]
theorem and_c (l : List Flt) (hl : l.length ≤ 1000000) : PCalls Try.prog 7 [.x (.sl (rows rFlt l))] (mkD 0 l) := by
  refine FCalls.pure (fcallsG (fz := true) G_ok (p := i7) rfl _ (Nat.le_of_ble_eq_true rfl) _ (fun C0 E0 => ?_)) rfl
  dsimp only [i7, argsφ]
  have uu := And.intro @cloneFG.eq_1 (And.intro @cloneFG.eq_2 (And.intro @un_F (And.intro @tabFi7_r (And.intro @tabFi7_k (@tabFi7_q19)))))
  refine WI.seq ?_
  refine WI.regB tabFi7_ok [0, 2] ?_
  refine oG ?_
  refine oN ?_
  refine thenQ_normal ?_
  refine WI.seq ?_
  refine WI.regB tabFi7_ok [2] ?_
  refine oS ?_
  refine oC ?_
  iterate 2 refine oG ?_
  refine oN ?_
  refine thenQ_normal ?_
  refine WI.ret ?_
  first | refine lfR ?_ | refine lfR2 ?_
  first | rfl | exact ⟨rfl, rfl⟩ | trivial -- leaf 0
theorem or_c (l : List Flt) (hl : l.length ≤ 1000000) : PCalls Try.prog 8 [.x (.sl (rows rFlt l))] (mkD 1 l) := by
  refine FCalls.pure (fcallsG (fz := true) G_ok (p := i8) rfl _ (Nat.le_of_ble_eq_true rfl) _ (fun C0 E0 => ?_)) rfl
  dsimp only [i8, argsφ]
  have uu := And.intro @cloneFG.eq_1 (And.intro @cloneFG.eq_2 (And.intro @un_F (And.intro @tabFi7_r (And.intro @tabFi7_k (@tabFi7_q19)))))
  refine WI.seq ?_
  refine WI.regB tabFi7_ok [0, 2] ?_
  refine oG ?_
  refine oN ?_
  refine thenQ_normal ?_
  refine WI.seq ?_
  refine WI.regB tabFi7_ok [2] ?_
  refine oS ?_
  refine oC ?_
  iterate 2 refine oG ?_
  refine oN ?_
  refine thenQ_normal ?_
  refine WI.ret ?_
  first | refine lfR ?_ | refine lfR2 ?_
  first | rfl | exact ⟨rfl, rfl⟩ | trivial -- leaf 0
theorem not_c (f : Flt) : PCalls Try.prog 9 [fltD f] (mkD 2 [f]) := by
  obtain ⟨k, a, v, h, mm, t, l⟩ := f
  dsimp only [fltD]
  have hr : rows rFlt [.mk k a v h mm t l] = [[.int .i64 k, .str a, .str v, .str h, .sl (rows rStr mm), .str t, .sl (rows rFlt l)]] := by
    show [rFlt.enc _] = _; rw [enc_rFlt]
  unfold mkD
  rw [hr]
  refine FCalls.pure (fcallsG (fz := true) G_ok (p := i9) rfl _ (Nat.le_of_ble_eq_true rfl) _ (fun C0 E0 => ?_)) rfl
  dsimp only [i9, argsφ]
  have uu := trivial
  refine WI.seq ?_
  refine WI.regB noTabs_ok [1, 2] ?_
  iterate 2 refine oG ?_
  refine oN ?_
  refine thenQ_normal ?_
  refine WI.seq ?_
  refine WI.regB noTabs_ok [2] ?_
  iterate 4 refine oG ?_
  refine oN ?_
  refine thenQ_normal ?_
  refine WI.ret ?_
  first | refine lfR ?_ | refine lfR2 ?_
  first | rfl | exact ⟨rfl, rfl⟩ | trivial -- leaf 0
def and11G : List D → Option (Bool × D)
  | [.x (.sl L)] => (unrows rFlt L).bind fun l => some (decide (l.length ≤ 1000000), mkD 0 l)
  | _ => none
theorem and11G_ok : ∀ args r, and11G args = some (true, r) → PCalls Try.prog 7 args r := by
  intro args r h
  unfold and11G at h
  split at h
  · rename_i L
    obtain ⟨l, hr0, h⟩ := Option.bind_eq_some_iff.1 h
    simp only [Option.some.injEq, Prod.mk.injEq, Bool.and_eq_true, decide_eq_true_eq, true_and] at h
    obtain ⟨h1, rfl⟩ := h
    rw [← rows_unrows good_rFlt hr0]
    exact and_c l h1
  · cases h
def or11G : List D → Option (Bool × D)
  | [.x (.sl L)] => (unrows rFlt L).bind fun l => some (decide (l.length ≤ 1000000), mkD 1 l)
  | _ => none
theorem or11G_ok : ∀ args r, or11G args = some (true, r) → PCalls Try.prog 8 args r := by
  intro args r h
  unfold or11G at h
  split at h
  · rename_i L
    obtain ⟨l, hr0, h⟩ := Option.bind_eq_some_iff.1 h
    simp only [Option.some.injEq, Prod.mk.injEq, Bool.and_eq_true, decide_eq_true_eq, true_and] at h
    obtain ⟨h1, rfl⟩ := h
    rw [← rows_unrows good_rFlt hr0]
    exact or_c l h1
  · cases h
def not11G : List D → Option (Bool × D)
  | [.agg [.x (.int .i64 k), .x (.str a), .x (.str v), .x (.str hd), .x (.sl M), .x (.str t), .x (.sl L)]] => (unrows rStr M).bind fun mm => (unrows rFlt L).bind fun l => some (true, mkD 2 [.mk k a v hd mm t l])
  | _ => none
theorem not11G_ok : ∀ args r, not11G args = some (true, r) → PCalls Try.prog 9 args r := by
  intro args r h
  unfold not11G at h
  split at h
  · rename_i k a v hd M t L
    obtain ⟨mm, hr0, h⟩ := Option.bind_eq_some_iff.1 h
    obtain ⟨l, hr1, h⟩ := Option.bind_eq_some_iff.1 h
    simp only [Option.some.injEq, Prod.mk.injEq, Bool.and_eq_true, decide_eq_true_eq, true_and] at h
    obtain rfl := h
    rw [← rows_unrows good_rStr hr0]
    rw [← rows_unrows good_rFlt hr1]
    exact not_c (.mk k a v hd mm t l)
  · cases h
def dep11G : List D → Option (Bool × D)
  | [.agg [.x (.int .i64 k), .x (.str a), .x (.str v), .x (.str hd), .x (.sl M), .x (.str t), .x (.sl L)], .x (.int .i64 m)] => (unrows rStr M).bind fun mm => (unrows rFlt L).bind fun l => some (decide (0 ≤ m ∧ m ≤ 64), .x (.int .i64 (depF (.mk k a v hd mm t l) m.toNat : Nat)))
  | _ => none
theorem dep11G_ok : ∀ args r, dep11G args = some (true, r) → PCalls Try.prog 18 args r := by
  intro args r h
  unfold dep11G at h
  split at h
  · rename_i k a v hd M t L m
    obtain ⟨mm, hr0, h⟩ := Option.bind_eq_some_iff.1 h
    obtain ⟨l, hr1, h⟩ := Option.bind_eq_some_iff.1 h
    simp only [Option.some.injEq, Prod.mk.injEq, Bool.and_eq_true, decide_eq_true_eq, true_and] at h
    obtain ⟨h1, rfl⟩ := h
    rw [← rows_unrows good_rStr hr0]
    rw [← rows_unrows good_rFlt hr1]
    exact depth_c _ (.mk k a v hd mm t l) m ⟨Nat.le_refl _, h1⟩
  · cases h
def tabFi8 : Tabs := addQ (noTabs) 18 dep11G
theorem tabFi8_ok : SsOk Try.prog tabFi8 := addQ_ok (noTabs_ok) (G_enters G_ok (p := i18) rfl) dep11G_ok
theorem tabFi8_q18 (a : List D) : tabFi8.q 18 a = dep11G a := rfl
theorem tabFi8_r (f : FuncId) (a : List D) (o : List Ob) : tabFi8.r f a o = none := rfl
theorem tabFi8_k (f : FuncId) (a : List D) (o : List Ob) : tabFi8.k f a o = none := rfl
theorem Depth_c (f : Flt) : PCalls Try.prog 6 [fltD f] (.x (.int .i64 (depF f 64 : Nat))) := by
  obtain ⟨k, a, v, h, mm, t, l⟩ := f
  dsimp only [fltD]
  refine FCalls.pure (fcallsG (fz := true) G_ok (p := i6) rfl _ (Nat.le_of_ble_eq_true rfl) _ (fun C0 E0 => ?_)) rfl
  dsimp only [i6, argsφ]
  have uu := And.intro @dep11G.eq_1 (And.intro @dep11G.eq_2 (And.intro @un_F (And.intro @un_T (And.intro @tabFi8_r (And.intro @tabFi8_k (@tabFi8_q18))))))
  refine WI.seq ?_
  refine WI.regB tabFi8_ok [1] ?_
  refine oG ?_
  refine oS ?_
  refine oN ?_
  refine thenQ_normal ?_
  refine WI.seq ?_
  refine WI.regB tabFi8_ok [2] ?_
  refine oG ?_
  refine oC ?_
  refine oS ?_
  refine oN ?_
  refine thenQ_normal ?_
  refine WI.ret ?_
  first | refine lfR ?_ | refine lfR2 ?_
  first | rfl | exact ⟨rfl, rfl⟩ | trivial -- leaf 0
def Dep11G : List D → Option (Bool × D)
  | [.agg [.x (.int .i64 k), .x (.str a), .x (.str v), .x (.str hd), .x (.sl M), .x (.str t), .x (.sl L)]] => (unrows rStr M).bind fun mm => (unrows rFlt L).bind fun l => some (true, .x (.int .i64 (depF (.mk k a v hd mm t l) 64 : Nat)))
  | _ => none
theorem Dep11G_ok : ∀ args r, Dep11G args = some (true, r) → PCalls Try.prog 6 args r := by
  intro args r h
  unfold Dep11G at h
  split at h
  · rename_i k a v hd M t L
    obtain ⟨mm, hr0, h⟩ := Option.bind_eq_some_iff.1 h
    obtain ⟨l, hr1, h⟩ := Option.bind_eq_some_iff.1 h
    simp only [Option.some.injEq, Prod.mk.injEq, Bool.and_eq_true, decide_eq_true_eq, true_and] at h
    obtain rfl := h
    rw [← rows_unrows good_rStr hr0]
    rw [← rows_unrows good_rFlt hr1]
    exact Depth_c (.mk k a v hd mm t l)
  · cases h
def cnt11G : List D → Option (Bool × D)
  | [.agg [.x (.int .i64 k), .x (.str a), .x (.str v), .x (.str hd), .x (.sl M), .x (.str t), .x (.sl L)], .x (.int .i64 m)] => (unrows rStr M).bind fun mm => (unrows rFlt L).bind fun l => some (decide (m ≤ 1000 ∧ -1000 ≤ m), .x (.int .i64 (cntF (.mk k a v hd mm t l) m)))
  | _ => none
theorem cnt11G_ok : ∀ args r, cnt11G args = some (true, r) → PCalls Try.prog 16 args r := by
  intro args r h
  unfold cnt11G at h
  split at h
  · rename_i k a v hd M t L m
    obtain ⟨mm, hr0, h⟩ := Option.bind_eq_some_iff.1 h
    obtain ⟨l, hr1, h⟩ := Option.bind_eq_some_iff.1 h
    simp only [Option.some.injEq, Prod.mk.injEq, Bool.and_eq_true, decide_eq_true_eq, true_and] at h
    obtain ⟨h1, rfl⟩ := h
    rw [← rows_unrows good_rStr hr0]
    rw [← rows_unrows good_rFlt hr1]
    exact count_c _ (.mk k a v hd mm t l) m ⟨Nat.le_refl _, h1⟩
  · cases h
def lng11G : List D → Option (Bool × D)
  | [.agg [.x (.int .i64 k), .x (.str a), .x (.str v), .x (.str hd), .x (.sl M), .x (.str t), .x (.sl L)]] => (unrows rStr M).bind fun mm => (unrows rFlt L).bind fun l => some (true, .x (.bool (lngF (.mk k a v hd mm t l))))
  | _ => none
theorem lng11G_ok : ∀ args r, lng11G args = some (true, r) → PCalls Try.prog 17 args r := by
  intro args r h
  unfold lng11G at h
  split at h
  · rename_i k a v hd M t L
    obtain ⟨mm, hr0, h⟩ := Option.bind_eq_some_iff.1 h
    obtain ⟨l, hr1, h⟩ := Option.bind_eq_some_iff.1 h
    simp only [Option.some.injEq, Prod.mk.injEq, Bool.and_eq_true, decide_eq_true_eq, true_and] at h
    obtain rfl := h
    rw [← rows_unrows good_rStr hr0]
    rw [← rows_unrows good_rFlt hr1]
    exact long_c _ (.mk k a v hd mm t l) (Nat.le_refl _)
  · cases h
def tabFi9 : Tabs := addQ (addQ (noTabs) 16 cnt11G) 17 lng11G
theorem tabFi9_ok : SsOk Try.prog tabFi9 := addQ_ok (addQ_ok (noTabs_ok) (G_enters G_ok (p := i16) rfl) cnt11G_ok) (G_enters G_ok (p := i17) rfl) lng11G_ok
theorem tabFi9_q16 (a : List D) : tabFi9.q 16 a = cnt11G a := rfl
theorem tabFi9_q17 (a : List D) : tabFi9.q 17 a = lng11G a := rfl
theorem tabFi9_r (f : FuncId) (a : List D) (o : List Ob) : tabFi9.r f a o = none := rfl
theorem tabFi9_k (f : FuncId) (a : List D) (o : List Ob) : tabFi9.k f a o = none := rfl
def fewF (f : Flt) : Bool := decide (cntF f 200 < 200) && lngF f
theorem Few_c (f : Flt) : PCalls Try.prog 5 [fltD f] (.x (.bool (fewF f))) := by
  obtain ⟨k, a, v, h, mm, t, l⟩ := f
  dsimp only [fltD]
  unfold fewF
  refine FCalls.pure (fcallsG (fz := true) G_ok (p := i5) rfl _ (Nat.le_of_ble_eq_true rfl) _ (fun C0 E0 => ?_)) rfl
  dsimp only [i5, argsφ]
  have uu := And.intro @cnt11G.eq_1 (And.intro @cnt11G.eq_2 (And.intro @lng11G.eq_1 (And.intro @lng11G.eq_2 (And.intro @un_F (And.intro @un_T (And.intro @tabFi9_r (And.intro @tabFi9_k (And.intro @tabFi9_q16 (@tabFi9_q17)))))))))
  refine WI.seq ?_
  refine WI.regB tabFi9_ok [1] ?_
  refine oG ?_
  refine oS ?_
  refine oN ?_
  refine thenQ_normal ?_
  refine WI.seq ?_
  refine WI.regB tabFi9_ok [2] ?_
  refine oG ?_
  refine oC ?_
  refine oG ?_
  refine oS ?_
  refine oG ?_
  refine oC ?_
  refine oG ?_
  refine oS ?_
  refine oN ?_
  refine thenQ_normal ?_
  refine WI.ret ?_
  first | refine lfR ?_ | refine lfR2 ?_
  first | rfl | exact ⟨rfl, rfl⟩ | trivial -- leaf 0
def Few11G : List D → Option (Bool × D)
  | [.agg [.x (.int .i64 k), .x (.str a), .x (.str v), .x (.str hd), .x (.sl M), .x (.str t), .x (.sl L)]] => (unrows rStr M).bind fun mm => (unrows rFlt L).bind fun l => some (true, .x (.bool (fewF (.mk k a v hd mm t l))))
  | _ => none
theorem Few11G_ok : ∀ args r, Few11G args = some (true, r) → PCalls Try.prog 5 args r := by
  intro args r h
  unfold Few11G at h
  split at h
  · rename_i k a v hd M t L
    obtain ⟨mm, hr0, h⟩ := Option.bind_eq_some_iff.1 h
    obtain ⟨l, hr1, h⟩ := Option.bind_eq_some_iff.1 h
    simp only [Option.some.injEq, Prod.mk.injEq, Bool.and_eq_true, decide_eq_true_eq, true_and] at h
    obtain rfl := h
    rw [← rows_unrows good_rStr hr0]
    rw [← rows_unrows good_rFlt hr1]
    exact Few_c (.mk k a v hd mm t l)
  · cases h
def awake11G : List D → Option (Bool × D)
  | [] => some (true, .x (.bool true))
  | _ => none
theorem awake11G_ok : ∀ args r, awake11G args = some (true, r) → PCalls Try.prog 4 args r := by
  intro args r h
  unfold awake11G at h
  split at h
  · simp only [Option.some.injEq, Prod.mk.injEq, true_and] at h
    subst h; exact awake11_c
  · cases h
def tabFi10 : Tabs := addQ (addQ (addQ (addQ (addQ (addQ (addQ (noTabs) 4 awake11G) 5 Few11G) 6 (viaNN Dep11G)) 7 and11G) 8 or11G) 9 not11G) 10 Same11G
theorem tabFi10_ok : SsOk Try.prog tabFi10 := addQ_ok (addQ_ok (addQ_ok (addQ_ok (addQ_ok (addQ_ok (addQ_ok (noTabs_ok) (G_enters G_ok (p := i4) rfl) awake11G_ok) (G_enters G_ok (p := i5) rfl) Few11G_ok) (G_enters G_ok (p := i6) rfl) (viaNN_ok Dep11G_ok)) (G_enters G_ok (p := i7) rfl) and11G_ok) (G_enters G_ok (p := i8) rfl) or11G_ok) (G_enters G_ok (p := i9) rfl) not11G_ok) (G_enters G_ok (p := i10) rfl) Same11G_ok
theorem tabFi10_q4 (a : List D) : tabFi10.q 4 a = awake11G a := rfl
theorem tabFi10_q5 (a : List D) : tabFi10.q 5 a = Few11G a := rfl
theorem tabFi10_q6 (a : List D) : tabFi10.q 6 a = viaNN Dep11G a := rfl
theorem tabFi10_q7 (a : List D) : tabFi10.q 7 a = and11G a := rfl
theorem tabFi10_q8 (a : List D) : tabFi10.q 8 a = or11G a := rfl
theorem tabFi10_q9 (a : List D) : tabFi10.q 9 a = not11G a := rfl
theorem tabFi10_q10 (a : List D) : tabFi10.q 10 a = Same11G a := rfl
theorem tabFi10_r (f : FuncId) (a : List D) (o : List Ob) : tabFi10.r f a o = none := rfl
theorem tabFi10_k (f : FuncId) (a : List D) (o : List Ob) : tabFi10.k f a o = none := rfl
end Go.Proofs.Ytmlpbojoekmfaaa
end
section
/- Filter: the law. -/
set_option linter.unusedSimpArgs false
set_option linter.unusedVariables false
namespace Go.Proofs.Ytmlpbojoekmfaaa
open Go.RowKit Go.Bo Go.Ab

theorem depAnd (l : List Flt) (d : Nat) (hd : d = depFL l 64) (h : d ≤ 64) : depF (.mk 0 [] [] [] [] [] l) 64 = d + 1 := by
  subst hd
  show depFL l 63 + 1 = _
  rw [depFL_less l 63 h]
set_option maxHeartbeats 2000000 in
theorem filterMakes_c (l : List Flt) : PCalls Try.prog 3 [.x (.sl (rows rFlt l))] (.x (.bool true)) := by
  have hdb := fun x : Flt => depF_b x 64
  have hfb := depFL_b l 64
  refine FCalls.pure (fcallsG (fz := true) G_ok (p := i3) rfl _ (Nat.le_of_ble_eq_true rfl) _ (fun C0 E0 => ?_)) rfl
  dsimp only [i3, argsφ]
  have uu := And.intro @awake11G.eq_1 (And.intro @awake11G.eq_2 (And.intro @Few11G.eq_1 (And.intro @Few11G.eq_2 (And.intro @Dep11G.eq_1 (And.intro @Dep11G.eq_2 (And.intro @and11G.eq_1 (And.intro @and11G.eq_2 (And.intro @or11G.eq_1 (And.intro @or11G.eq_2 (And.intro @not11G.eq_1 (And.intro @not11G.eq_2 (And.intro @Same11G.eq_1 (And.intro @Same11G.eq_2 (And.intro @un_F (And.intro @un_T (And.intro @enc_rFlt (And.intro @eqF_refl (And.intro @tabFi10_r (And.intro @tabFi10_k (And.intro @tabFi10_q10 (And.intro @tabFi10_q4 (And.intro @tabFi10_q5 (And.intro @tabFi10_q6 (And.intro @tabFi10_q7 (And.intro @tabFi10_q8 (@tabFi10_q9))))))))))))))))))))))))))
  refine WI.seq ?_
  refine WI.regB tabFi10_ok [0] ?_
  refine oS ?_
  refine oN ?_
  refine thenQ_normal ?_
  refine WI.seq ?_
  refine WI.seq ?_
  refine WI.regB tabFi10_ok [0, 11] ?_
  refine oS ?_
  iterate 2 refine oG ?_
  refine oN ?_
  refine thenQ_normal ?_
  refine WI.cond (b := _) rfl rfl (fun h0 => ?_) (fun h0 => ?_)
  · try simp only [zB] at h0
    refine WI.seq ?_
    refine WI.regB tabFi10_ok [2] ?_
    refine oC ?_
    refine oS ?_
    refine oN ?_
    refine thenQ_normal ?_
    refine WI.ret ?_
    refine thenQ_ret ?_
    first | refine lfR ?_ | refine lfR2 ?_
    first | rfl | (trace_state; sorry) -- leaf 0
  · try simp only [zB] at h0
    have hl8 : l.length ≤ 8 := by omega
    refine WI.skip ?_
    refine thenQ_normal ?_
    refine WI.seq ?_
    refine WI.regB tabFi10_ok [0, 3] ?_
    refine oS ?_
    refine oN ?_
    refine thenQ_normal ?_
    refine WI.seq ?_
    refine WI.seq ?_
    refine WI.regB tabFi10_ok [0, 3, 4] ?_
    refine oS ?_
    refine oN ?_
    refine thenQ_normal ?_
    refine WI.block ?_
    refine WI.loop (fun φ os => ∃ (j : Nat), φ = [(0, .x (.sl (rows rFlt l))), (3, .x (.int .i64 (depFL (l.take j) 64 : Nat))), (4, .x (.int .i64 j))] ∧ os = [] ∧ j ≤ l.length) (down l.length 4) ?_ (fun φ os hI => ?_)
    · exact ⟨0, rfl, rfl, by omega⟩
    · obtain ⟨j, rfl, rfl, hj⟩ := hI
      refine WI.seq ?_
      refine WI.seq ?_
      refine WI.regB tabFi10_ok [0, 3, 4, 16] ?_
      iterate 2 refine oS ?_
      iterate 2 refine oG ?_
      refine oN ?_
      refine thenQ_normal ?_
      refine WI.cond (b := _) rfl rfl (fun h1 => ?_) (fun h1 => ?_)
      · try simp only [zB] at h1
        refine WI.skip ?_
        refine thenQ_normal ?_
        refine WI.seq ?_
        refine WI.block ?_
        refine WI.seq ?_
        refine WI.seq ?_
        have hj4 : j < l.length := by omega
        have hst := depFL_snoc (l.take j) l[j] 64
        rw [← List.take_succ_eq_append_getElem hj4] at hst
        rcases hx : l[j] with ⟨k1, a1, v1, h1', m1, t1, l1⟩
        rw [hx] at hst
        have uu := And.intro uu hx
        refine WI.regB tabFi10_ok [0, 3, 4, 24] ?_
        iterate 2 refine oS ?_
        iterate 2 refine oG ?_
        refine oC ?_
        refine oG ?_
        refine oN ?_
        refine thenQ_normal ?_
        refine WI.cond (b := _) rfl rfl (fun h2 => ?_) (fun h2 => ?_)
        · try simp only [zB] at h2
          refine WI.seq ?_
          refine WI.regB tabFi10_ok [2] ?_
          refine oC ?_
          refine oS ?_
          refine oN ?_
          refine thenQ_normal ?_
          refine WI.ret ?_
          refine thenQ_ret ?_
          refine blockQ_ret ?_
          refine thenQ_ret ?_
          refine thenQ_ret ?_
          refine blockQ_ret ?_
          refine thenQ_ret ?_
          first | refine lfR ?_ | refine lfR2 ?_
          first | rfl | (trace_state; sorry) -- leaf 1
        · try simp only [zB] at h2
          refine WI.skip ?_
          refine thenQ_normal ?_
          refine WI.regB tabFi10_ok [0, 3, 4] ?_
          iterate 3 refine oS ?_
          iterate 2 refine oG ?_
          refine oC ?_
          refine oG ?_
          refine oS ?_
          refine oN ?_
          refine blockQ_normal ?_
          refine thenQ_normal ?_
          refine WI.regB tabFi10_ok [0, 3, 4] ?_
          refine oS ?_
          refine oG ?_
          refine oS ?_
          refine oN ?_
          refine thenQ_normal ?_
          exact ⟨⟨j + 1, by rw [hst]; first | rfl | (rw [mx_eq]; rfl) | (trace_state; sorry), rfl, by omega⟩, by simp [down, Ab.get, D.val, intOf?]; omega⟩
      · try simp only [zB] at h1
        refine WI.exit ?_
        refine thenQ_exit ?_
        refine thenQ_exit ?_
        refine blockQ_hit ?_
        refine thenQ_normal ?_
        refine WI.seq ?_
        rw [List.take_of_length_le (by omega)]
        refine WI.regB tabFi10_ok [0, 3, 5, 6] ?_
        refine oS ?_
        refine oC ?_
        refine oS ?_
        refine oC ?_
        iterate 4 refine oG ?_
        refine oN ?_
        refine thenQ_normal ?_
        refine WI.seq ?_
        refine WI.seq ?_
        refine WI.regB tabFi10_ok [0, 3, 5, 6, 60] ?_
        refine oS ?_
        iterate 2 refine oG ?_
        refine oS ?_
        iterate 4 refine oG ?_
        refine oS ?_
        iterate 7 refine oG ?_
        refine oS ?_
        iterate 7 refine oG ?_
        refine oN ?_
        refine thenQ_normal ?_
        refine WI.cond (b := _) rfl rfl (fun h3 => ?_) (fun h3 => ?_)
        · exfalso
          simp at h3
        · try simp only [zB] at h3
          refine WI.skip ?_
          refine thenQ_normal ?_
          refine WI.seq ?_
          refine WI.seq ?_
          refine WI.regB tabFi10_ok [0, 3, 5, 6, 7] ?_
          refine oS ?_
          refine oN ?_
          refine thenQ_normal ?_
          refine WI.block ?_
          refine WI.loop (fun φ os => ∃ (j : Nat), φ = [(0, .x (.sl (rows rFlt l))), (3, .x (.int .i64 (depFL l 64 : Nat))), (5, .ptr 0 0), (6, .ptr 1 0), (7, .x (.int .i64 j))] ∧ os = [.box [.x (.int .i64 0), .x (.str []), .x (.str []), .x (.str []), .x .nils, .x (.str []), .x (.sl (rows rFlt l))], .box [.x (.int .i64 1), .x (.str []), .x (.str []), .x (.str []), .x .nils, .x (.str []), .x (.sl (rows rFlt l))]] ∧ j ≤ l.length) (down l.length 7) ?_ (fun φ os hI => ?_)
          · exact ⟨0, rfl, rfl, by omega⟩
          · obtain ⟨j, rfl, rfl, hj⟩ := hI
            refine WI.seq ?_
            refine WI.seq ?_
            refine WI.regB tabFi10_ok [0, 3, 5, 6, 7, 64] ?_
            iterate 2 refine oS ?_
            iterate 2 refine oG ?_
            refine oN ?_
            refine thenQ_normal ?_
            refine WI.cond (b := _) rfl rfl (fun h4 => ?_) (fun h4 => ?_)
            · try simp only [zB] at h4
              refine WI.skip ?_
              refine thenQ_normal ?_
              refine WI.seq ?_
              refine WI.block ?_
              refine WI.seq ?_
              have hj4 : j < l.length := by omega
              rcases hx : l[j] with ⟨k1, a1, v1, h1', m1, t1, l1⟩
              have hr1 : (rows rFlt [Flt.mk k1 a1 v1 h1' m1 t1 l1])[0]? = some [.int .i64 k1, .str a1, .str v1, .str h1', .sl (rows rStr m1), .str t1, .sl (rows rFlt l1)] := by rw [← enc_rFlt]; rfl
              have hr2 : (rows rFlt [Flt.mk k1 a1 v1 h1' m1 t1 l1]).length = 1 := rfl
              have uu := And.intro uu (And.intro hx (And.intro hr1 hr2))
              refine WI.regB tabFi10_ok [0, 3, 5, 6, 7, 8] ?_
              iterate 2 refine oS ?_
              iterate 2 refine oG ?_
              refine oC ?_
              iterate 2 refine oG ?_
              refine oN ?_
              refine thenQ_normal ?_
              refine WI.seq ?_
              refine WI.post ?_
              refine WI.dregB tabFi10_ok [0, 3, 5, 6, 7, 118] ?_
              refine dFS ?_
              refine dQG ?_
              refine dFS ?_
              iterate 2 refine dQG ?_
              iterate 2 refine dFS ?_
              iterate 2 refine dQG ?_
              refine dQC ?_
              refine dFG ?_
              refine dFS ?_
              refine dFG ?_
              refine dQG ?_
              refine dFG ?_
              iterate 2 refine dQG ?_
              iterate 2 refine dFG ?_
              iterate 2 refine dQG ?_
              refine dQC ?_
              iterate 2 refine dFG ?_
              refine dFS ?_
              refine dFG ?_
              refine dQG ?_
              iterate 2 refine dFG ?_
              refine dFS ?_
              refine dFG ?_
              iterate 2 refine dQG ?_
              iterate 2 refine dFG ?_
              refine dFS ?_
              refine dFG ?_
              iterate 3 refine dQG ?_
              iterate 2 refine dFG ?_
              iterate 2 refine dQG ?_
              refine dAC ?_
              iterate 2 refine dFG ?_
              refine dP ?_
              refine pPick [0, 1] ?_
              refine pEnd ?_
              refine thenQ_normal ?_
              refine WI.cond (b := _) rfl rfl (fun h5 => ?_) (fun h5 => ?_)
              · exfalso
                simp at h5
              · try simp only [zB] at h5
                refine WI.skip ?_
                refine blockQ_normal ?_
                refine thenQ_normal ?_
                refine WI.regB tabFi10_ok [0, 3, 5, 6, 7] ?_
                refine oS ?_
                refine oG ?_
                refine oS ?_
                refine oN ?_
                refine thenQ_normal ?_
                exact ⟨⟨j + 1, rfl, rfl, by omega⟩, by simp [down, Ab.get, D.val, intOf?]; omega⟩
            · try simp only [zB] at h4
              refine WI.exit ?_
              refine thenQ_exit ?_
              refine thenQ_exit ?_
              refine blockQ_hit ?_
              refine thenQ_normal ?_
              refine WI.seq ?_
              by_cases hd64 : depFL l 64 ≤ 64
              · have hda := depAnd l _ rfl hd64
                have hgt := decide_eq_false (show ¬ ((depFL l 64 : Nat) : Int) > 64 by omega)
                have heq : ((depF (.mk 0 [] [] [] [] [] l) 64 : Nat) : Int) = (depFL l 64 : Nat) + 1 := by rw [hda]; rfl
                have uu := And.intro uu (And.intro hgt heq)
                refine WI.regB tabFi10_ok [2] ?_
                refine oS ?_
                refine oG ?_
                refine oS ?_
                refine oG ?_
                refine oC ?_
                iterate 4 refine oG ?_
                refine oS ?_
                refine oC ?_
                refine oG ?_
                refine oS ?_
                refine oN ?_
                refine thenQ_normal ?_
                refine WI.ret ?_
                first | refine lfR ?_ | refine lfR2 ?_
                first | rfl | (trace_state; sorry) -- leaf 2
              · have hgt := decide_eq_true (show ((depFL l 64 : Nat) : Int) > 64 by omega)
                have uu := And.intro uu hgt
                refine WI.regB tabFi10_ok [2] ?_
                refine oS ?_
                refine oG ?_
                refine oS ?_
                refine oG ?_
                refine oC ?_
                iterate 4 refine oG ?_
                refine oS ?_
                refine oC ?_
                refine oG ?_
                refine oS ?_
                refine oN ?_
                refine thenQ_normal ?_
                refine WI.ret ?_
                first | refine lfR ?_ | refine lfR2 ?_
                first | rfl | (trace_state; sorry) -- leaf 3
end Go.Proofs.Ytmlpbojoekmfaaa
end
