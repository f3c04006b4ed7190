/- MA2: CoP, CoN, Co1, Co2, Co3, Co4, Co5, Co6. -/
import Derived.Test.YtcffpndhodhncaaMA1
section
/- Controls as bytes: plain laws. -/
set_option linter.unusedSimpArgs false
set_option linter.unusedVariables false
namespace Go.Proofs.Ytcffpndhodhncaa
open Go.RowKit Go.Bo Go.Ab

theorem bool_tup {a : D} {x y : Bool} (h : x = y) : D.tup [a, .x (.bool x)] = D.tup [a, .x (.bool y)] := by rw [h]
theorem pt_def (t : Int) (b : List UInt8) : pt (t, b, ()) = (putB t b).1 := rfl
theorem gT_mk {t : Int} {b : List UInt8} (ht : tagB t = true) (hb : b.length ≤ 65536) : gT (t, b, ()) := by
  obtain ⟨n, rfl, hn⟩ := tagB_nat ht
  exact ⟨⟨by simp only; omega, by simp only; omega, hb⟩, ht⟩
theorem nbool_len (b : Bool) : (nbool b).length = 1 := by cases b <;> rfl
theorem nrb_nbool (b : Bool) : nrb (nbool b) = (b, 0) := by cases b <;> rfl
theorem nbool_nrb (s : List UInt8) (h : (nrb s).2 = 0) : nbool (nrb s).1 = s := by
  unfold nrb at h ⊢
  simp only at h ⊢
  split at h
  · cases h
  · split at h
    · rename_i h1; have := eq_of_beq h1; subst this; rfl
    · split at h
      · rename_i h1; have := eq_of_beq h1; subst this; rfl
      · cases h
/-- What is put in a row, of at most so many parts, no more than so long. -/
theorem row_ok (L : List Tlv) (n k : Nat) (hn : L.length ≤ n) (hk : ∀ x ∈ L, gT x ∧ x.2.1.length ≤ k) (h : n * (k + 6) ≤ 65536) : (putB 48 (L.map pt).flatten).2 = 0 ∧ (L.map pt).flatten.length ≤ n * (k + 6) := by
  have hf : (L.map pt).flatten.length ≤ n * (k + 6) := by
    clear h
    induction L generalizing n with
    | nil => simp
    | cons x r ih =>
      obtain ⟨n, rfl⟩ : ∃ m, n = m + 1 := ⟨n - 1, by simp at hn; omega⟩
      have h1 := ih n (by simpa using hn) (fun x hx => hk x (List.mem_cons_of_mem _ hx))
      obtain ⟨h2, h3⟩ := hk x List.mem_cons_self
      have h4 := pt_len h2
      rw [List.map_cons, List.flatten_cons, List.length_append, Nat.succ_mul]
      omega
  exact ⟨by rw [put_code _ _ (by omega)]; rfl, hf⟩
abbrev Pers := Int × Bool × Bool × Unit
abbrev rPers : RC Pers := rCat (rInt .i64) (rCat rBool (rCat rBool rEnd))
def persL (p : Pers) : List Tlv := [(2, (nput p.1).1, ()), (1, nbool p.2.1, ()), (1, nbool p.2.2.1, ())]
def rowB (l : List Tlv) : List UInt8 × Int := putB 48 (l.map pt).flatten
def putP (p : Pers) : List UInt8 × Int := if p.1 < 1 ∨ 15 < p.1 then ([], 2) else rowB (persL p)
def rdP (s : List UInt8) : Pers × Int :=
  match (prtB s [2, 1, 1]).1, (prtB s [2, 1, 1]).2 with
  | [a, b, c], 0 => if (nread a).2 = 0 ∧ (nrb b).2 = 0 ∧ (nrb c).2 = 0 ∧ 1 ≤ (nread a).1 ∧ (nread a).1 ≤ 15 then (((nread a).1, (nrb b).1, (nrb c).1, ()), 0) else ((0, false, false, ()), 5)
  | _, _ => ((0, false, false, ()), 5)
theorem persL_g (p : Pers) : ∀ x ∈ persL p, gT x ∧ x.2.1.length ≤ 4 := by
  intro x hx
  simp only [persL, List.mem_cons, List.not_mem_nil, or_false] at hx
  rcases hx with rfl | rfl | rfl
  · have := nput_len p.1; exact ⟨gT_mk rfl (by omega), this⟩
  · have := nbool_len p.2.1; exact ⟨gT_mk rfl (by omega), by simp only; omega⟩
  · have := nbool_len p.2.2.1; exact ⟨gT_mk rfl (by omega), by simp only; omega⟩
theorem prt3 {s : List UInt8} {t u v : Int} (h : (prtB s [t, u, v]).2 = 0) : ∃ a b c, prtB s [t, u, v] = ([a, b, c], 0) ∧ gT (t, a, ()) ∧ gT (u, b, ()) ∧ gT (v, c, ()) ∧ rowB [(t, a, ()), (u, b, ()), (v, c, ())] = (s, 0) := by
  obtain ⟨L, h1, h2, h3, h4, _⟩ := prtB_inv _ _ h
  match L, h1 with
  | [x, y, z], h1 =>
    simp only [List.map_cons, List.map_nil, List.cons.injEq, and_true] at h1
    obtain ⟨rfl, rfl, rfl⟩ := h1
    exact ⟨x.2.1, y.2.1, z.2.1, Prod.ext h2 h, h4 x (by simp), h4 y (by simp), h4 z (by simp), h3⟩
  | [], h1 => simp at h1
  | [_], h1 => simp at h1
  | [_, _], h1 => simp at h1
  | _ :: _ :: _ :: _ :: _, h1 => simp at h1
theorem prt2 {s : List UInt8} {t u : Int} (h : (prtB s [t, u]).2 = 0) : ∃ a b, prtB s [t, u] = ([a, b], 0) ∧ gT (t, a, ()) ∧ gT (u, b, ()) ∧ rowB [(t, a, ()), (u, b, ())] = (s, 0) := by
  obtain ⟨L, h1, h2, h3, h4, _⟩ := prtB_inv _ _ h
  match L, h1 with
  | [x, y], h1 =>
    simp only [List.map_cons, List.map_nil, List.cons.injEq, and_true] at h1
    obtain ⟨rfl, rfl⟩ := h1
    exact ⟨x.2.1, y.2.1, Prod.ext h2 h, h4 x (by simp), h4 y (by simp), h3⟩
  | [], h1 => simp at h1
  | [_], h1 => simp at h1
  | _ :: _ :: _ :: _, h1 => simp at h1
theorem putP_ok (p : Pers) (h : 1 ≤ p.1 ∧ p.1 ≤ 15) : putP p = ((putP p).1, 0) ∧ rowB (persL p) = putP p ∧ (putP p).1.length ≤ 100 := by
  obtain ⟨h1, h2⟩ := row_ok (persL p) 3 4 (by simp [persL]) (persL_g p) (by omega)
  have e : putP p = rowB (persL p) := by unfold putP; rw [if_neg (by omega)]
  have h0 : (putP p).2 = 0 := by rw [e]; exact h1
  refine ⟨Prod.ext rfl h0, e.symm, ?_⟩
  rw [e]
  have h3 := put_len 48 ((persL p).map pt).flatten h1
  have h4 := lenB_le ((persL p).map pt).flatten.length (by omega)
  unfold rowB
  omega
theorem rdP_put (p : Pers) (h : 1 ≤ p.1 ∧ p.1 ≤ 15) : rdP (putP p).1 = (p, 0) := by
  obtain ⟨h1, h2, _⟩ := putP_ok p h
  have h3 := prtB_put (persL p) (fun x hx => (persL_g p x hx).1) (by simp [persL]) (putP p).1 (h2.trans h1)
  unfold rdP
  rw [show ([2, 1, 1] : List Int) = (persL p).map (·.1) from rfl, h3]
  simp only [persL, List.map_cons, List.map_nil]
  rw [nread_put _ ⟨by omega, by omega⟩, nrb_nbool, nrb_nbool]
  simp only
  rw [if_pos ⟨trivial, trivial, trivial, h.1, h.2⟩]
theorem putP_rd (s : List UInt8) (h : (rdP s).2 = 0) : putP (rdP s).1 = (s, 0) ∧ 1 ≤ (rdP s).1.1 ∧ (rdP s).1.1 ≤ 15 := by
  by_cases hp : (prtB s [2, 1, 1]).2 = 0
  · obtain ⟨a, b, c, h1, h2, h3, h4, h5⟩ := prt3 hp
    unfold rdP at h ⊢
    rw [h1] at h ⊢
    simp only at h ⊢
    split at h
    · rename_i h6
      rw [if_pos h6]
      obtain ⟨k1, k2, k3, k4, k5⟩ := h6
      refine ⟨?_, k4, k5⟩
      unfold putP
      rw [if_neg (by simp only; omega)]
      unfold persL
      simp only
      rw [(nput_read a k1).2, nbool_nrb b k2, nbool_nrb c k3]
      exact h5
    · cases h
  · unfold rdP at h
    split at h
    · rename_i h1; exact absurd h1 hp
    · cases h
theorem rdP_prt (s : List UInt8) (h : (rdP s).2 = 0) : (prtB s [2, 1, 1]).2 = 0 := by
  unfold rdP at h
  split at h
  · rename_i h1; exact h1
  · cases h
theorem rdP_err (s : List UInt8) (h : ¬ (rdP s).2 = 0) : rdP s = ((0, false, false, ()), 5) := by
  unfold rdP at h ⊢
  split at h
  · split at h
    · exact absurd rfl h
    · rename_i h1; rw [if_neg h1]
  · rfl
end Go.Proofs.Ytcffpndhodhncaa
end
section
/- Notices as bytes: plain laws. -/
set_option linter.unusedSimpArgs false
set_option linter.unusedVariables false
namespace Go.Proofs.Ytcffpndhodhncaa
open Go.RowKit Go.Bo Go.Ab

def knownB (k : Int) : Prop := k = 1 ∨ k = 2 ∨ k = 4 ∨ k = 8
instance decKnown (k : Int) : Decidable (knownB k) := inferInstanceAs (Decidable (_ ∨ _ ∨ _ ∨ _))
abbrev Note := Int × List UInt8 × Int × Unit
abbrev rNote : RC Note := rCat (rInt .i64) (rCat rStr (rCat (rInt .i64) rEnd))
def noteL (n : Note) : List Tlv := (10, (nput n.1).1, ()) :: ((if n.2.1 = [] then [] else [(4, n.2.1, ())]) ++ [(2, (nput n.2.2.1).1, ())])
def okN (n : Note) : Prop := knownB n.1 ∧ n.2.1.length ≤ 4096 ∧ 0 ≤ n.2.2.1 ∧ n.2.2.1 ≤ 2147483647
instance decOkN (n : Note) : Decidable (okN n) := inferInstanceAs (Decidable (_ ∧ _ ∧ _ ∧ _))
def putN (n : Note) : List UInt8 × Int :=
  if ¬ knownB n.1 then ([], 1) else if 4096 < n.2.1.length then ([], 3) else if n.2.2.1 < 0 ∨ 2147483647 < n.2.2.1 then ([], 2) else rowB (noteL n)
theorem putN_ok {n : Note} (h : okN n) : putN n = rowB (noteL n) := by
  obtain ⟨h1, h2, h3, h4⟩ := h
  unfold putN
  rw [if_neg (fun k => k h1), if_neg (by omega), if_neg (by omega)]
theorem putN_no {n : Note} (h : ¬ okN n) : (putN n).2 ≠ 0 := by
  unfold putN
  by_cases h1 : knownB n.1
  · rw [if_neg (fun k => k h1)]
    by_cases h2 : 4096 < n.2.1.length
    · rw [if_pos h2]; decide
    · rw [if_neg h2]
      by_cases h3 : n.2.2.1 < 0 ∨ 2147483647 < n.2.2.1
      · rw [if_pos h3]; decide
      · exact absurd ⟨h1, by omega, by omega, by omega⟩ h
  · rw [if_pos h1]; decide
theorem noteL_g (n : Note) (h : n.2.1.length ≤ 4096) : ∀ x ∈ noteL n, gT x ∧ x.2.1.length ≤ 4096 := by
  intro x hx
  have h1 := nput_len n.1
  have h2 := nput_len n.2.2.1
  simp only [noteL, List.mem_cons, List.mem_append, List.not_mem_nil, or_false] at hx
  rcases hx with rfl | hx | rfl
  · exact ⟨gT_mk rfl (by omega), by simp only; omega⟩
  · split at hx
    · simp at hx
    · simp only [List.mem_singleton] at hx; subst hx; exact ⟨gT_mk rfl (by omega), h⟩
  · exact ⟨gT_mk rfl (by omega), by simp only; omega⟩
theorem noteL_len (n : Note) : (noteL n).length ≤ 3 := by
  unfold noteL
  split <;> simp
theorem putN_row {n : Note} (h : okN n) : putN n = ((putN n).1, 0) ∧ (putN n).1.length ≤ 20000 := by
  obtain ⟨h1, h2⟩ := row_ok (noteL n) 3 4096 (noteL_len n) (noteL_g n h.2.1) (by omega)
  rw [putN_ok h]
  refine ⟨Prod.ext rfl h1, ?_⟩
  have h3 := put_len 48 ((noteL n).map pt).flatten h1
  have h4 := lenB_le ((noteL n).map pt).flatten.length (by omega)
  unfold rowB
  omega
/-- What parts tell: a kind, an old name, a number. -/
def noteB (a b c : List UInt8) : Note × Bool := (((nread a).1, b, (nread c).1, ()), decide ((nread a).2 = 0 ∧ (nread c).2 = 0 ∧ knownB (nread a).1 ∧ 0 ≤ (nread c).1 ∧ b.length ≤ 4096))
def noN : Note := (0, [], 0, ())
def rdN (s : List UInt8) : Note × Int :=
  if (prtB s [10, 2]).2 = 0 then match (prtB s [10, 2]).1 with
    | [a, c] => if (noteB a [] c).2 = true then ((noteB a [] c).1, 0) else (noN, 5)
    | _ => (noN, 5)
  else if (prtB s [10, 4, 2]).2 = 0 then match (prtB s [10, 4, 2]).1 with
    | [a, b, c] => if b ≠ [] ∧ (noteB a b c).2 = true then ((noteB a b c).1, 0) else (noN, 5)
    | _ => (noN, 5)
  else (noN, 5)
theorem noteB_ok {a b c : List UInt8} (h : (noteB a b c).2 = true) : okN (noteB a b c).1 ∧ nput (noteB a b c).1.1 = (a, 0) ∧ nput (noteB a b c).1.2.2.1 = (c, 0) := by
  have h' := of_decide_eq_true h
  obtain ⟨h1, h2, h3, h4, h5⟩ := h'
  obtain ⟨k1, k2⟩ := nput_read a h1
  obtain ⟨k3, k4⟩ := nput_read c h2
  exact ⟨⟨h3, h5, h4, k3.2⟩, k2, k4⟩
theorem noteB_put {n : Note} (h : okN n) : noteB (nput n.1).1 n.2.1 (nput n.2.2.1).1 = (n, true) := by
  obtain ⟨h1, h2, h3, h4⟩ := h
  have k1 : inN n.1 := by unfold knownB at h1; unfold inN; omega
  have k2 : inN n.2.2.1 := by unfold inN; omega
  unfold noteB
  rw [nread_put _ k1, nread_put _ k2]
  simp only [Prod.mk.injEq, decide_eq_true_eq, true_and]
  exact ⟨h1, h3, h2⟩
theorem rdN_put (n : Note) (s : List UInt8) (h : putN n = (s, 0)) : rdN s = (n, 0) := by
  by_cases ho : okN n
  · rw [putN_ok ho] at h
    have hg := fun x hx => (noteL_g n ho.2.1 x hx).1
    have hl := noteL_len n
    have hp := prtB_put (noteL n) hg (by omega) s h
    have hb := noteB_put ho
    unfold rdN
    by_cases hn : n.2.1 = []
    · have e : noteL n = [(10, (nput n.1).1, ()), (2, (nput n.2.2.1).1, ())] := by unfold noteL; rw [if_pos hn]; rfl
      rw [e] at hp
      simp only [List.map_cons, List.map_nil] at hp
      rw [hp]
      simp only [if_true]
      rw [hn] at hb
      rw [hb]
      simp only [if_true]
    · have e : noteL n = [(10, (nput n.1).1, ()), (4, n.2.1, ()), (2, (nput n.2.2.1).1, ())] := by unfold noteL; rw [if_neg hn]; rfl
      rw [e] at hp
      simp only [List.map_cons, List.map_nil] at hp
      have hne : ¬ (prtB s [10, 2]).2 = 0 := by
        intro h0
        obtain ⟨L, l1, l2, l3, l4, _⟩ := prtB_inv _ _ h0
        have hq := prtB_put L l4 (by omega) s l3
        have r1 := read_put 48 (L.map pt).flatten [] (by rw [l3])
        have r2 := read_put 48 ((noteL n).map pt).flatten [] (by unfold rowB at h; rw [h])
        unfold rowB at h
        rw [List.append_nil, l3] at r1
        rw [List.append_nil, h] at r2
        have r3 := r1.symm.trans r2
        simp only [Prod.mk.injEq, true_and, and_true] at r3
        have a1 := allB_put L l4 (by omega)
        have a2 := allB_put (noteL n) hg (by omega)
        rw [r3, a2] at a1
        simp only [Prod.mk.injEq, and_true] at a1
        rw [← a1, e] at l1
        simp at l1
      rw [if_neg hne, hp]
      simp only [if_true]
      rw [hb, if_pos ⟨hn, rfl⟩]
  · have := putN_no ho
    rw [h] at this
    exact absurd rfl this
theorem putN_rd (s : List UInt8) (h : (rdN s).2 = 0) : okN (rdN s).1 ∧ putN (rdN s).1 = (s, 0) := by
  unfold rdN at h ⊢
  by_cases h2 : (prtB s [10, 2]).2 = 0
  · rw [if_pos h2] at h ⊢
    obtain ⟨a, c, k1, k2, k3, k4⟩ := prt2 h2
    rw [k1] at h ⊢
    simp only at h ⊢
    by_cases h3 : (noteB a [] c).2 = true
    · rw [if_pos h3]
      obtain ⟨q1, q2, q3⟩ := noteB_ok h3
      refine ⟨q1, ?_⟩
      rw [putN_ok q1]
      unfold noteL
      rw [q2, q3]
      exact k4
    · rw [if_neg h3] at h; cases h
  · rw [if_neg h2] at h ⊢
    by_cases h3 : (prtB s [10, 4, 2]).2 = 0
    · rw [if_pos h3] at h ⊢
      obtain ⟨a, b, c, k1, k2, k3, k4, k5⟩ := prt3 h3
      rw [k1] at h ⊢
      simp only at h ⊢
      by_cases h4 : b ≠ [] ∧ (noteB a b c).2 = true
      · rw [if_pos h4]
        obtain ⟨q1, q2, q3⟩ := noteB_ok h4.2
        refine ⟨q1, ?_⟩
        rw [putN_ok q1]
        unfold noteL
        rw [q2, q3, if_neg (show ¬ (noteB a b c).1.2.1 = [] from h4.1)]
        exact k5
      · rw [if_neg h4] at h; cases h
    · rw [if_neg h3] at h; cases h
theorem rdN_err (s : List UInt8) (h : ¬ (rdN s).2 = 0) : rdN s = (noN, 5) := by
  unfold rdN at h ⊢
  by_cases h2 : (prtB s [10, 2]).2 = 0
  · rw [if_pos h2] at h ⊢
    split
    · rename_i a c h3
      rw [h3] at h
      simp only at h
      by_cases h4 : (noteB a [] c).2 = true
      · rw [if_pos h4] at h; exact absurd rfl h
      · rw [if_neg h4]
    · rfl
  · rw [if_neg h2] at h ⊢
    by_cases h3 : (prtB s [10, 4, 2]).2 = 0
    · rw [if_pos h3] at h ⊢
      split
      · rename_i a b c h4
        rw [h4] at h
        simp only at h
        by_cases h5 : b ≠ [] ∧ (noteB a b c).2 = true
        · rw [if_pos h5] at h; exact absurd rfl h
        · rw [if_neg h5]
      · rfl
    · rw [if_neg h3]
/-- What the document's reading tries. -/
def candN (L : List Tlv) : Note := ((nread (L.headD (0, [], ())).2.1).1, if 2 < L.length then (L.getD 1 (0, [], ())).2.1 else [], (nread (L.getD (L.length - 1) (0, [], ())).2.1).1, ())
theorem candN_note {n : Note} (h : okN n) : candN (noteL n) = n ∧ 2 ≤ (noteL n).length := by
  obtain ⟨h1, h2, h3, h4⟩ := h
  have k1 : inN n.1 := by unfold knownB at h1; unfold inN; omega
  have k2 : inN n.2.2.1 := by unfold inN; omega
  unfold candN noteL
  by_cases hn : n.2.1 = []
  · rw [if_pos hn]
    simp only [List.nil_append, List.length_cons, List.length_nil, List.headD_cons, List.getD_cons_succ, List.getD_cons_zero]
    refine ⟨?_, by omega⟩
    simp only [Nat.zero_add, Nat.lt_irrefl, if_false, List.getD_cons_succ, List.getD_cons_zero, Nat.add_sub_cancel]
    rw [nread_put _ k1, nread_put _ k2]
    exact Prod.ext rfl (Prod.ext hn.symm rfl)
  · rw [if_neg hn]
    simp only [List.cons_append, List.nil_append, List.length_cons, List.length_nil, List.headD_cons, List.getD_cons_succ, List.getD_cons_zero]
    refine ⟨?_, by omega⟩
    simp only [Nat.zero_add, Nat.reduceAdd, Nat.reduceLT, Nat.reduceSub, if_true, List.getD_cons_succ, List.getD_cons_zero]
    rw [nread_put _ k1, nread_put _ k2]
end Go.Proofs.Ytcffpndhodhncaa
end
section
/- Controls: truths, rows, persistent searches. -/
set_option linter.unusedSimpArgs false
set_option linter.unusedVariables false
namespace Go.Proofs.Ytcffpndhodhncaa
open Go.RowKit Go.Bo Go.Ab

theorem nbool_c (b : Bool) : PCalls Try.prog 61 [.x (.bool b)] (.x (.str (nbool b))) := by
  refine FCalls.pure (fcallsG (fz := true) G_ok (p := i61) rfl _ (Nat.le_of_ble_eq_true rfl) _ (fun C0 E0 => ?_)) rfl
  dsimp only [i61, argsφ]
  have uu := trivial
  refine WI.seq ?_
  refine WI.regB noTabs_ok [0] ?_
  refine oS ?_
  refine oN ?_
  refine thenQ_normal ?_
  refine WI.seq ?_
  refine WI.seq ?_
  refine WI.regB noTabs_ok [3] ?_
  refine oS ?_
  refine oN ?_
  refine thenQ_normal ?_
  refine WI.cond (b := _) rfl rfl (fun h0 => ?_) (fun h0 => ?_)
  · try simp only [zB] at h0
    refine WI.seq ?_
    refine WI.regB noTabs_ok [2] ?_
    refine oS ?_
    refine oN ?_
    refine thenQ_normal ?_
    refine WI.ret ?_
    refine thenQ_ret ?_
    first | refine lfR ?_ | refine lfR2 ?_
    subst h0; rfl -- leaf 0
  · try simp only [zB] at h0
    refine WI.skip ?_
    refine thenQ_normal ?_
    refine WI.seq ?_
    refine WI.regB noTabs_ok [2] ?_
    refine oS ?_
    refine oN ?_
    refine thenQ_normal ?_
    refine WI.ret ?_
    first | refine lfR ?_ | refine lfR2 ?_
    subst h0; rfl -- leaf 1
theorem nrb_c (s : List UInt8) : PCalls Try.prog 67 [.x (.str s)] (.tup [.x (.bool (nrb s).1), .x (.int .i64 (nrb s).2)]) := by
  refine FCalls.pure (fcallsG (fz := true) G_ok (p := i67) rfl _ (Nat.le_of_ble_eq_true rfl) _ (fun C0 E0 => ?_)) rfl
  dsimp only [i67, argsφ]
  have uu := trivial
  refine WI.seq ?_
  refine WI.regB noTabs_ok [0] ?_
  iterate 2 refine oS ?_
  refine oN ?_
  refine thenQ_normal ?_
  refine WI.seq ?_
  refine WI.seq ?_
  refine WI.regB noTabs_ok [0, 4] ?_
  refine oS ?_
  refine oN ?_
  refine thenQ_normal ?_
  refine WI.block ?_
  refine WI.seq ?_
  refine WI.regB noTabs_ok [0, 4, 5] ?_
  refine oG ?_
  refine oS ?_
  refine oN ?_
  refine thenQ_normal ?_
  refine WI.cond (b := _) rfl rfl (fun h0 => ?_) (fun h0 => ?_)
  · try simp only [zB] at h0
    refine WI.seq ?_
    refine WI.regB noTabs_ok [2, 3] ?_
    iterate 2 refine oS ?_
    refine oN ?_
    refine thenQ_normal ?_
    refine WI.ret ?_
    refine blockQ_ret ?_
    refine thenQ_ret ?_
    first | refine lfR ?_ | refine lfR2 ?_
    subst h0; rfl -- leaf 0
  · try simp only [zB] at h0
    refine WI.seq ?_
    refine WI.seq ?_
    refine WI.regB noTabs_ok [0, 4, 7] ?_
    refine oG ?_
    refine oS ?_
    refine oN ?_
    refine thenQ_normal ?_
    refine WI.cond (b := _) rfl rfl (fun h1 => ?_) (fun h1 => ?_)
    · try simp only [zB] at h1
      refine WI.skip ?_
      refine thenQ_normal ?_
      refine WI.cond (b := _) rfl rfl (fun h2 => ?_) (fun h2 => ?_)
      · try simp only [zB] at h2
        refine WI.seq ?_
        refine WI.regB noTabs_ok [2, 3] ?_
        refine oS ?_
        refine oG ?_
        iterate 2 refine oS ?_
        refine oN ?_
        refine thenQ_normal ?_
        refine WI.ret ?_
        refine blockQ_ret ?_
        refine thenQ_ret ?_
        first | refine lfR ?_ | refine lfR2 ?_
        subst h1; rfl -- leaf 1
      · try simp only [zB] at h2
        refine WI.skip ?_
        refine blockQ_normal ?_
        refine thenQ_normal ?_
        refine WI.seq ?_
        refine WI.regB noTabs_ok [2, 3] ?_
        iterate 2 refine oS ?_
        refine oN ?_
        refine thenQ_normal ?_
        refine WI.ret ?_
        first | refine lfR ?_ | refine lfR2 ?_
        exact absurd h1 h2 -- leaf 2
    · try simp only [zB] at h1
      refine WI.regB noTabs_ok [0, 7] ?_
      refine oG ?_
      refine oS ?_
      refine oN ?_
      refine thenQ_normal ?_
      refine WI.cond (b := _) rfl rfl (fun h2 => ?_) (fun h2 => ?_)
      · try simp only [zB] at h2
        refine WI.seq ?_
        refine WI.regB noTabs_ok [2, 3] ?_
        refine oS ?_
        refine oG ?_
        iterate 2 refine oS ?_
        refine oN ?_
        refine thenQ_normal ?_
        refine WI.ret ?_
        refine blockQ_ret ?_
        refine thenQ_ret ?_
        first | refine lfR ?_ | refine lfR2 ?_
        subst h2; rfl -- leaf 3
      · try simp only [zB] at h2
        refine WI.skip ?_
        refine blockQ_normal ?_
        refine thenQ_normal ?_
        refine WI.seq ?_
        refine WI.regB noTabs_ok [2, 3] ?_
        iterate 2 refine oS ?_
        refine oN ?_
        refine thenQ_normal ?_
        refine WI.ret ?_
        first | refine lfR ?_ | refine lfR2 ?_
        simp [nrb, h0, h1, h2] -- leaf 4
theorem nboolR_c (b : Bool) : PCalls Try.prog 81 [.x (.bool b)] (.x (.str (nbool b))) := by
  refine FCalls.pure (fcallsG (fz := true) G_ok (p := i81) rfl _ (Nat.le_of_ble_eq_true rfl) _ (fun C0 E0 => ?_)) rfl
  dsimp only [i81, argsφ]
  have uu := trivial
  refine WI.seq ?_
  refine WI.regB noTabs_ok [0] ?_
  refine oS ?_
  refine oN ?_
  refine thenQ_normal ?_
  refine WI.seq ?_
  refine WI.seq ?_
  refine WI.regB noTabs_ok [3] ?_
  refine oS ?_
  refine oN ?_
  refine thenQ_normal ?_
  refine WI.cond (b := _) rfl rfl (fun h0 => ?_) (fun h0 => ?_)
  · try simp only [zB] at h0
    refine WI.seq ?_
    refine WI.regB noTabs_ok [2] ?_
    refine oS ?_
    refine oN ?_
    refine thenQ_normal ?_
    refine WI.ret ?_
    refine thenQ_ret ?_
    first | refine lfR ?_ | refine lfR2 ?_
    subst h0; rfl -- leaf 0
  · try simp only [zB] at h0
    refine WI.skip ?_
    refine thenQ_normal ?_
    refine WI.seq ?_
    refine WI.regB noTabs_ok [2] ?_
    refine oS ?_
    refine oN ?_
    refine thenQ_normal ?_
    refine WI.ret ?_
    first | refine lfR ?_ | refine lfR2 ?_
    subst h0; rfl -- leaf 1
def nboolG : List D → Option (Bool × D)
  | [.x (.bool b)] => some (true, .x (.str (nbool b)))
  | _ => none
theorem nboolG_ok : ∀ args r, nboolG args = some (true, r) → PCalls Try.prog 61 args r := by
  intro args r h
  unfold nboolG at h
  split at h
  · rename_i b
    simp only [Option.some.injEq, Prod.mk.injEq, Bool.and_eq_true, decide_eq_true_eq, true_and] at h
    obtain rfl := h
    exact nbool_c b
  · cases h
def nrbG : List D → Option (Bool × D)
  | [.x (.str s)] => some (true, .tup [.x (.bool (nrb s).1), .x (.int .i64 (nrb s).2)])
  | _ => none
theorem nrbG_ok : ∀ args r, nrbG args = some (true, r) → PCalls Try.prog 67 args r := by
  intro args r h
  unfold nrbG at h
  split at h
  · rename_i s
    simp only [Option.some.injEq, Prod.mk.injEq, Bool.and_eq_true, decide_eq_true_eq, true_and] at h
    obtain rfl := h
    exact nrb_c s
  · cases h
def nboolRG : List D → Option (Bool × D)
  | [.x (.bool b)] => some (true, .x (.str (nbool b)))
  | _ => none
theorem nboolRG_ok : ∀ args r, nboolRG args = some (true, r) → PCalls Try.prog 81 args r := by
  intro args r h
  unfold nboolRG at h
  split at h
  · rename_i b
    simp only [Option.some.injEq, Prod.mk.injEq, Bool.and_eq_true, decide_eq_true_eq, true_and] at h
    obtain rfl := h
    exact nboolR_c b
  · cases h
def tabCo1 : Tabs := addQ (addQ (addQ (addQ (noTabs) 69 nputG) 61 nboolG) 67 nrbG) 66 nreadG
theorem tabCo1_ok : SsOk Try.prog tabCo1 := addQ_ok (addQ_ok (addQ_ok (addQ_ok (noTabs_ok) (G_enters G_ok (p := i69) rfl) nputG_ok) (G_enters G_ok (p := i61) rfl) nboolG_ok) (G_enters G_ok (p := i67) rfl) nrbG_ok) (G_enters G_ok (p := i66) rfl) nreadG_ok
theorem tabCo1_q69 (a : List D) : tabCo1.q 69 a = nputG a := rfl
theorem tabCo1_q61 (a : List D) : tabCo1.q 61 a = nboolG a := rfl
theorem tabCo1_q67 (a : List D) : tabCo1.q 67 a = nrbG a := rfl
theorem tabCo1_q66 (a : List D) : tabCo1.q 66 a = nreadG a := rfl
theorem tabCo1_r (f : FuncId) (a : List D) (o : List Ob) : tabCo1.r f a o = none := rfl
theorem tabCo1_k (f : FuncId) (a : List D) (o : List Ob) : tabCo1.k f a o = none := rfl
theorem numbered_c (t n : Int) : PCalls Try.prog 60 [.x (.int .i64 t), .x (.int .i64 n)] (.agg [.x (.int .i64 t), .x (.str (nput n).1)]) := by
  refine FCalls.pure (fcallsG (fz := true) G_ok (p := i60) rfl _ (Nat.le_of_ble_eq_true rfl) _ (fun C0 E0 => ?_)) rfl
  dsimp only [i60, argsφ]
  have uu := And.intro @nputG.eq_1 (And.intro @nputG.eq_2 (And.intro @tabCo1_r (And.intro @tabCo1_k (And.intro @tabCo1_q61 (And.intro @tabCo1_q66 (And.intro @tabCo1_q67 (And.intro @tabCo1_q69 (And.intro @nboolG.eq_1 (And.intro @nboolG.eq_2 (And.intro @nrbG.eq_1 (And.intro @nrbG.eq_2 (And.intro @nreadG.eq_1 (@nreadG.eq_2)))))))))))))
  refine WI.seq ?_
  refine WI.regB tabCo1_ok [0, 1, 4] ?_
  refine oG ?_
  refine oN ?_
  refine thenQ_normal ?_
  refine WI.seq ?_
  refine WI.regB tabCo1_ok [0, 4, 5] ?_
  refine oS ?_
  refine oC ?_
  refine oS ?_
  iterate 2 refine oG ?_
  iterate 2 refine oS ?_
  refine oN ?_
  refine thenQ_normal ?_
  refine WI.seq ?_
  refine WI.regB tabCo1_ok [4] ?_
  iterate 2 refine oS ?_
  iterate 2 refine oG ?_
  refine oN ?_
  refine thenQ_normal ?_
  refine WI.ret ?_
  first | refine lfR ?_ | refine lfR2 ?_
  first | rfl | exact ⟨rfl, rfl⟩ | trivial -- leaf 0
def numberedG : List D → Option (Bool × D)
  | [.x (.int .i64 t), .x (.int .i64 n)] => some (true, .agg [.x (.int .i64 t), .x (.str (nput n).1)])
  | _ => none
theorem numberedG_ok : ∀ args r, numberedG args = some (true, r) → PCalls Try.prog 60 args r := by
  intro args r h
  unfold numberedG at h
  split at h
  · rename_i t n
    simp only [Option.some.injEq, Prod.mk.injEq, Bool.and_eq_true, decide_eq_true_eq, true_and] at h
    obtain rfl := h
    exact numbered_c t n
  · cases h
instance decG (x : Tlv) : Decidable (gT x) := inferInstanceAs (Decidable ((_ ∧ _ ∧ _) ∧ _))
def tabCo2 : Tabs := addT (addQ (addQ (noTabs) 71 putG) 41 (viaNN tseqG)) 41 (frzT (viaNN tseqG))
theorem tabCo2_ok : SsOk Try.prog tabCo2 := addT_ok (addQ_ok (addQ_ok (noTabs_ok) (G_enters G_ok (p := i71) rfl) putG_ok) (G_enters G_ok (p := i41) rfl) (viaNN_ok tseqG_ok)) (G_enters G_ok (p := i41) rfl) (frzT_ok (viaNN_ok tseqG_ok))
theorem tabCo2_q71 (a : List D) : tabCo2.q 71 a = putG a := rfl
theorem tabCo2_q41 (a : List D) : tabCo2.q 41 a = viaNN tseqG a := rfl
theorem tabCo2_t41 (a : List D) (o : List Ob) : tabCo2.t 41 a o = liftT (frzT (viaNN tseqG)) a o := rfl
theorem tabCo2_r (f : FuncId) (a : List D) (o : List Ob) : tabCo2.r f a o = none := rfl
theorem tabCo2_k (f : FuncId) (a : List D) (o : List Ob) : tabCo2.k f a o = none := rfl
theorem row_c (l : List Tlv) (h : (∀ x ∈ l, gT x) ∧ l.length ≤ 8) : PCalls Try.prog 59 [.x (.sl (rows rTlv l))] (.tup [.x (.str (rowB l).1), .x (.int .i64 (rowB l).2)]) := by
  refine FCalls.pure (fcallsG (fz := true) G_ok (p := i59) rfl _ (Nat.le_of_ble_eq_true rfl) _ (fun C0 E0 => ?_)) rfl
  dsimp only [i59, argsφ]
  have uu := And.intro @putG.eq_1 (And.intro @putG.eq_2 (And.intro @tseqG.eq_1 (And.intro @tseqG.eq_2 (And.intro @un_str (And.intro @tk_len (And.intro @tabCo2_r (And.intro @tabCo2_k (And.intro @tabCo2_q41 (And.intro @tabCo2_q71 (And.intro @tabCo2_t41 (@frzT.eq_1)))))))))))
  refine WI.seq ?_
  refine WI.regB tabCo2_ok [0] ?_
  iterate 2 refine oS ?_
  refine oN ?_
  refine thenQ_normal ?_
  refine WI.seq ?_
  refine WI.regB tabCo2_ok [0, 4] ?_
  refine oS ?_
  iterate 2 refine oG (hok := by first | with_reducible rfl | omega | (simp only [Bool.and_eq_true, decide_eq_true_eq]; omega) | (simp; done) | (simp; omega) | rfl) ?_
  refine oS ?_
  refine oN ?_
  refine thenQ_normal ?_
  refine WI.seq ?_
  refine WI.seq ?_
  refine WI.regB tabCo2_ok [4, 12, 13, 14] ?_
  refine oS ?_
  refine oG (hok := by first | with_reducible rfl | omega | (simp only [Bool.and_eq_true, decide_eq_true_eq]; omega) | (simp; done) | (simp; omega) | rfl) ?_
  refine oS ?_
  refine oN ?_
  refine thenQ_normal ?_
  refine WI.block ?_
  refine WI.loop (fun φ os => ∃ (ps : List (List UInt8)), φ = [(4, .ref 0 ps.length 0 ps.length), (12, .x (.sl (rows rTlv l))), (13, .x (.int .i64 l.length)), (14, .x (.int .i64 ps.length))] ∧ os = [.rows false 9 1 (rows rStr ps)] ∧ ps.length ≤ l.length ∧ ps = (l.take ps.length).map pt) (down l.length 14) ?_ (fun φ os hI => ?_)
  · exact ⟨[], rfl, rfl, by simp, rfl⟩
  · obtain ⟨ps, rfl, rfl, hj, hp⟩ := hI
    refine WI.seq ?_
    refine WI.regB tabCo2_ok [4, 12, 13, 14, 15] ?_
    refine oG (hok := by first | with_reducible rfl | omega | (simp only [Bool.and_eq_true, decide_eq_true_eq]; omega) | (simp; done) | (simp; omega) | rfl) ?_
    refine oN ?_
    refine thenQ_normal ?_
    refine WI.seq ?_
    refine WI.cond (b := _) rfl rfl (fun h0 => ?_) (fun h0 => ?_)
    · try simp only [zB] at h0
      refine WI.skip ?_
      refine thenQ_normal ?_
      refine WI.seq ?_
      refine WI.block ?_
      refine WI.seq ?_
      refine WI.regB tabCo2_ok [4, 6, 12, 13, 14] ?_
      iterate 4 refine oG (hok := by first | with_reducible rfl | omega | (simp only [Bool.and_eq_true, decide_eq_true_eq]; omega) | (simp; done) | (simp; omega) | rfl) ?_
      refine oN ?_
      refine thenQ_normal ?_
      refine WI.seq ?_
      have hj5 : ps.length < l.length := by simpa using h0
      have e5 := pt_ok (h.1 _ (List.getElem_mem hj5))
      refine WI.regB tabCo2_ok [4, 7, 8, 12, 13, 14] ?_
      refine oS ?_
      refine oG (hok := by first | with_reducible rfl | omega | (simp only [Bool.and_eq_true, decide_eq_true_eq]; omega) | (simp; done) | (simp; omega) | rfl) ?_
      refine oS ?_
      refine oG (hok := by first | with_reducible rfl | omega | (simp only [Bool.and_eq_true, decide_eq_true_eq]; omega) | (simp; done) | (simp; omega) | rfl) ?_
      refine oC (hok := by first | with_reducible rfl | omega | (simp only [Bool.and_eq_true, decide_eq_true_eq]; omega) | (simp; done) | (simp; omega) | rfl) ?_
      refine oS ?_
      iterate 2 refine oG (hok := by first | with_reducible rfl | omega | (simp only [Bool.and_eq_true, decide_eq_true_eq]; omega) | (simp; done) | (simp; omega) | rfl) ?_
      iterate 2 refine oS ?_
      refine oN ?_
      simp only [e5]
      refine thenQ_normal ?_
      refine WI.seq ?_
      refine WI.seq ?_
      refine WI.regB tabCo2_ok [4, 7, 8, 12, 13, 14, 27] ?_
      refine oS ?_
      refine oG (hok := by first | with_reducible rfl | omega | (simp only [Bool.and_eq_true, decide_eq_true_eq]; omega) | (simp; done) | (simp; omega) | rfl) ?_
      refine oN ?_
      refine thenQ_normal ?_
      refine WI.cond (b := _) rfl rfl (fun h1 => ?_) (fun h1 => ?_)
      · try simp only [zB] at h1
        refine WI.seq ?_
        refine WI.regB tabCo2_ok [2, 3] ?_
        iterate 3 refine oS ?_
        refine oN ?_
        refine thenQ_normal ?_
        refine WI.ret ?_
        refine thenQ_ret ?_
        refine blockQ_ret ?_
        refine thenQ_ret ?_
        refine thenQ_ret ?_
        refine blockQ_ret ?_
        refine thenQ_ret ?_
        first | refine lfR ?_ | refine lfR2 ?_
        first | rfl | exact ⟨rfl, rfl⟩ | trivial -- leaf 0
      · try simp only [zB] at h1
        refine WI.skip ?_
        refine thenQ_normal ?_
        refine WI.freezeA [0] ?_
        refine WI.pickA [] ?_
        refine WI.regB tabCo2_ok [4, 12, 13, 14] ?_
        iterate 2 refine oS ?_
        refine oG (hok := by first | with_reducible rfl | omega | (simp only [Bool.and_eq_true, decide_eq_true_eq]; omega) | (simp; done) | (simp; omega) | rfl) ?_
        refine oS ?_
        iterate 2 refine oG (hok := by first | with_reducible rfl | omega | (simp only [Bool.and_eq_true, decide_eq_true_eq]; omega) | (simp; done) | (simp; omega) | rfl) ?_
        refine oS ?_
        iterate 2 refine oG (hok := by first | with_reducible rfl | omega | (simp only [Bool.and_eq_true, decide_eq_true_eq]; omega) | (simp; done) | (simp; omega) | rfl) ?_
        refine oS ?_
        refine oN ?_
        refine blockQ_normal ?_
        refine thenQ_normal ?_
        refine WI.post ?_
        refine WI.regB tabCo2_ok [4, 12, 13, 14] ?_
        refine oG (hok := by first | with_reducible rfl | omega | (simp only [Bool.and_eq_true, decide_eq_true_eq]; omega) | (simp; done) | (simp; omega) | rfl) ?_
        refine oS ?_
        refine oP ?_
        refine pPick [1] ?_
        refine pEnd ?_
        refine thenQ_normal ?_
        exact ⟨⟨ps ++ [_], by simp, by rw [rows_str], by simp; omega, by rw [List.length_append, List.length_singleton, ← List.take_append_getElem hj5, List.map_append, ← hp]; rfl⟩, by simp [down, Ab.get, D.val, intOf?]; omega⟩
    · try simp only [zB] at h0
      refine WI.exit ?_
      refine thenQ_exit ?_
      refine thenQ_exit ?_
      refine blockQ_hit ?_
      refine thenQ_normal ?_
      refine WI.seq ?_
      have hps : ps = l.map pt := by rw [hp, List.take_of_length_le (by omega)]
      have hf := flat_bound (l.map pt) 65542 8 (by rw [List.length_map]; exact h.2) (fun s hs => by
        obtain ⟨x, hx, rfl⟩ := List.mem_map.1 hs
        have h1 := pt_len (h.1 x hx); have h2 := (h.1 x hx).1.2.2; omega)
      rw [← hps] at hf
      refine WI.regB tabCo2_ok [2, 3] ?_
      refine oS ?_
      refine oC (hok := by first | with_reducible rfl | omega | (simp only [Bool.and_eq_true, decide_eq_true_eq]; omega) | (simp; done) | (simp; omega) | rfl) ?_
      iterate 2 refine oG (hok := by first | with_reducible rfl | omega | (simp only [Bool.and_eq_true, decide_eq_true_eq]; omega) | (simp; done) | (simp; omega) | rfl) ?_
      iterate 2 refine oS ?_
      refine oN ?_
      refine thenQ_normal ?_
      refine WI.ret ?_
      first | refine lfR ?_ | refine lfR2 ?_
      rw [rowB, seqB, hps] -- leaf 1
def rowG : List D → Option (Bool × D)
  | [.x (.sl L)] => (unrows rTlv L).bind fun l => some (decide ((∀ x ∈ l, gT x) ∧ l.length ≤ 8), .tup [.x (.str (rowB l).1), .x (.int .i64 (rowB l).2)])
  | _ => none
theorem rowG_ok : ∀ args r, rowG args = some (true, r) → PCalls Try.prog 59 args r := by
  intro args r h
  unfold rowG at h
  split at h
  · rename_i L
    obtain ⟨l, hr0, h⟩ := Option.bind_eq_some_iff.1 h
    simp only [Option.some.injEq, Prod.mk.injEq, Bool.and_eq_true, decide_eq_true_eq, true_and] at h
    obtain ⟨h1, rfl⟩ := h
    rw [← rows_unrows good_rTlv hr0]
    exact row_c l h1
  · cases h
theorem un_tlv_cons (t : Int) (b : List UInt8) (r : List (List X)) (l : List Tlv) (h : unrows rTlv r = some l) : unrows rTlv ([.int .i64 t, .str b] :: r) = some ((t, b, ()) :: l) := by
  have := rows_unrows good_rTlv h
  rw [← this]
  exact unrows_rows good_rTlv ((t, b, ()) :: l)
theorem un_tlv1 (t : Int) (b : List UInt8) : unrows rTlv [[.int .i64 t, .str b]] = some [(t, b, ())] := rfl
theorem un_tlv2 (t : Int) (b : List UInt8) (t2 : Int) (b2 : List UInt8) : unrows rTlv [[.int .i64 t, .str b], [.int .i64 t2, .str b2]] = some [(t, b, ()), (t2, b2, ())] := rfl
theorem un_tlv3 (t : Int) (b : List UInt8) (t2 : Int) (b2 : List UInt8) (t3 : Int) (b3 : List UInt8) : unrows rTlv [[.int .i64 t, .str b], [.int .i64 t2, .str b2], [.int .i64 t3, .str b3]] = some [(t, b, ()), (t2, b2, ()), (t3, b3, ())] := rfl
def tabCo3 : Tabs := addT (addQ (addT (addQ (addQ (addQ (addQ (addQ (noTabs) 60 numberedG) 61 nboolG) 67 nrbG) 66 nreadG) 59 rowG) 59 (frzT rowG)) 65 (viaNN tpartsG)) 65 (frzT (viaNN tpartsG))
theorem tabCo3_ok : SsOk Try.prog tabCo3 := addT_ok (addQ_ok (addT_ok (addQ_ok (addQ_ok (addQ_ok (addQ_ok (addQ_ok (noTabs_ok) (G_enters G_ok (p := i60) rfl) numberedG_ok) (G_enters G_ok (p := i61) rfl) nboolG_ok) (G_enters G_ok (p := i67) rfl) nrbG_ok) (G_enters G_ok (p := i66) rfl) nreadG_ok) (G_enters G_ok (p := i59) rfl) rowG_ok) (G_enters G_ok (p := i59) rfl) (frzT_ok rowG_ok)) (G_enters G_ok (p := i65) rfl) (viaNN_ok tpartsG_ok)) (G_enters G_ok (p := i65) rfl) (frzT_ok (viaNN_ok tpartsG_ok))
theorem tabCo3_q60 (a : List D) : tabCo3.q 60 a = numberedG a := rfl
theorem tabCo3_q61 (a : List D) : tabCo3.q 61 a = nboolG a := rfl
theorem tabCo3_q67 (a : List D) : tabCo3.q 67 a = nrbG a := rfl
theorem tabCo3_q66 (a : List D) : tabCo3.q 66 a = nreadG a := rfl
theorem tabCo3_q59 (a : List D) : tabCo3.q 59 a = rowG a := rfl
theorem tabCo3_t59 (a : List D) (o : List Ob) : tabCo3.t 59 a o = liftT (frzT rowG) a o := rfl
theorem tabCo3_q65 (a : List D) : tabCo3.q 65 a = viaNN tpartsG a := rfl
theorem tabCo3_t65 (a : List D) (o : List Ob) : tabCo3.t 65 a o = liftT (frzT (viaNN tpartsG)) a o := rfl
theorem tabCo3_r (f : FuncId) (a : List D) (o : List Ob) : tabCo3.r f a o = none := rfl
theorem tabCo3_k (f : FuncId) (a : List D) (o : List Ob) : tabCo3.k f a o = none := rfl
theorem putP_c (p : Pers) : PCalls Try.prog 27 [.agg [.x (.int .i64 p.1), .x (.bool p.2.1), .x (.bool p.2.2.1)]] (.tup [.x (.str (putP p).1), .x (.int .i64 (putP p).2)]) := by
  have hg : (∀ x ∈ persL p, gT x) ∧ (persL p).length ≤ 8 := ⟨fun x hx => (persL_g p x hx).1, by simp [persL]⟩
  refine FCalls.pure (fcallsG (fz := true) G_ok (p := i27) rfl _ (Nat.le_of_ble_eq_true rfl) _ (fun C0 E0 => ?_)) rfl
  dsimp only [i27, argsφ]
  have uu := And.intro @numberedG.eq_1 (And.intro @numberedG.eq_2 (And.intro @nboolG.eq_1 (And.intro @nboolG.eq_2 (And.intro @rowG.eq_1 (And.intro @rowG.eq_2 (And.intro @un_tlv3 (And.intro @tabCo3_r (And.intro @tabCo3_k (And.intro @tabCo3_q59 (And.intro @tabCo3_q60 (And.intro @tabCo3_q61 (And.intro @tabCo3_q65 (And.intro @tabCo3_q66 (And.intro @tabCo3_q67 (And.intro @tabCo3_t59 (And.intro @tabCo3_t65 (And.intro @frzT.eq_1 (And.intro @nrbG.eq_1 (And.intro @nrbG.eq_2 (And.intro @nreadG.eq_1 (And.intro @nreadG.eq_2 (And.intro @tpartsG.eq_1 (@tpartsG.eq_2)))))))))))))))))))))))
  refine WI.seq ?_
  refine WI.regB tabCo3_ok [1] ?_
  refine oG (hok := by first | with_reducible rfl | omega | (exact decide_eq_true hg.1) | (simp only [Bool.and_eq_true, decide_eq_true_eq]; exact hg) | (simp; done) | (simp; omega) | rfl) ?_
  iterate 2 refine oS ?_
  refine oN ?_
  refine thenQ_normal ?_
  refine WI.seq ?_
  refine WI.seq ?_
  refine WI.regB tabCo3_ok [1, 11] ?_
  refine oS ?_
  iterate 2 refine oG (hok := by first | with_reducible rfl | omega | (exact decide_eq_true hg.1) | (simp only [Bool.and_eq_true, decide_eq_true_eq]; exact hg) | (simp; done) | (simp; omega) | rfl) ?_
  refine oS ?_
  iterate 4 refine oG (hok := by first | with_reducible rfl | omega | (exact decide_eq_true hg.1) | (simp only [Bool.and_eq_true, decide_eq_true_eq]; exact hg) | (simp; done) | (simp; omega) | rfl) ?_
  refine oN ?_
  refine thenQ_normal ?_
  refine WI.cond (b := _) rfl rfl (fun h0 => ?_) (fun h0 => ?_)
  · try simp only [zB] at h0
    refine WI.seq ?_
    refine WI.regB tabCo3_ok [2, 3] ?_
    iterate 2 refine oS ?_
    refine oN ?_
    refine thenQ_normal ?_
    refine WI.ret ?_
    refine thenQ_ret ?_
    first | refine lfR ?_ | refine lfR2 ?_
    unfold putP; rw [if_pos h0] -- leaf 0
  · try simp only [zB] at h0
    refine WI.skip ?_
    refine thenQ_normal ?_
    refine WI.seq ?_
    refine WI.dregB tabCo3_ok [2, 3] ?_
    refine dFS ?_
    refine dQG (hok := by first | with_reducible rfl | omega | (exact decide_eq_true hg.1) | (simp only [Bool.and_eq_true, decide_eq_true_eq]; exact hg) | (simp; done) | (simp; omega) | rfl) ?_
    refine dQC (hok := by first | with_reducible rfl | omega | (exact decide_eq_true hg.1) | (simp only [Bool.and_eq_true, decide_eq_true_eq]; exact hg) | (simp; done) | (simp; omega) | rfl) ?_
    refine dFS ?_
    refine dQG (hok := by first | with_reducible rfl | omega | (exact decide_eq_true hg.1) | (simp only [Bool.and_eq_true, decide_eq_true_eq]; exact hg) | (simp; done) | (simp; omega) | rfl) ?_
    refine dQC (hok := by first | with_reducible rfl | omega | (exact decide_eq_true hg.1) | (simp only [Bool.and_eq_true, decide_eq_true_eq]; exact hg) | (simp; done) | (simp; omega) | rfl) ?_
    refine dFG (hok := by first | with_reducible rfl | omega | (exact decide_eq_true hg.1) | (simp only [Bool.and_eq_true, decide_eq_true_eq]; exact hg) | (simp; done) | (simp; omega) | rfl) ?_
    refine dFS ?_
    refine dQG (hok := by first | with_reducible rfl | omega | (exact decide_eq_true hg.1) | (simp only [Bool.and_eq_true, decide_eq_true_eq]; exact hg) | (simp; done) | (simp; omega) | rfl) ?_
    refine dAC (hok := by first | with_reducible rfl | omega | (exact decide_eq_true hg.1) | (simp only [Bool.and_eq_true, decide_eq_true_eq]; exact hg) | (simp; done) | (simp; omega) | rfl) ?_
    refine dFG (hok := by first | with_reducible rfl | omega | (exact decide_eq_true hg.1) | (simp only [Bool.and_eq_true, decide_eq_true_eq]; exact hg) | (simp; done) | (simp; omega) | rfl) ?_
    refine dAG (hok := by first | with_reducible rfl | omega | (exact decide_eq_true hg.1) | (simp only [Bool.and_eq_true, decide_eq_true_eq]; exact hg) | (simp; done) | (simp; omega) | rfl) ?_
    refine dAC (hok := by first | with_reducible rfl | omega | (exact decide_eq_true hg.1) | (simp only [Bool.and_eq_true, decide_eq_true_eq]; exact hg) | (simp; done) | (simp; omega) | rfl) ?_
    iterate 2 refine dFG (hok := by first | with_reducible rfl | omega | (exact decide_eq_true hg.1) | (simp only [Bool.and_eq_true, decide_eq_true_eq]; exact hg) | (simp; done) | (simp; omega) | rfl) ?_
    iterate 2 refine dFS ?_
    refine dN ?_
    refine thenQ_normal ?_
    refine WI.ret ?_
    first | refine lfR ?_ | refine lfR2 ?_
    unfold putP; rw [if_neg (by omega : ¬ (p.1 < 1 ∨ 15 < p.1))]; rfl -- leaf 1
theorem un_i3 (a b c : Int) : unrows rI64 [[.int .i64 a], [.int .i64 b], [.int .i64 c]] = some [a, b, c] := rfl
theorem un_i2 (a b : Int) : unrows rI64 [[.int .i64 a], [.int .i64 b]] = some [a, b] := rfl
theorem rows3 (a b c : List UInt8) : rows rStr [a, b, c] = [[.str a], [.str b], [.str c]] := rfl
theorem rows2 (a b : List UInt8) : rows rStr [a, b] = [[.str a], [.str b]] := rfl
theorem rdP_c (s : List UInt8) (hs : s.length ≤ 9223372036854775807) : PCalls Try.prog 33 [.x (.str s)] (.tup [.agg [.x (.int .i64 (rdP s).1.1), .x (.bool (rdP s).1.2.1), .x (.bool (rdP s).1.2.2.1)], .x (.int .i64 (rdP s).2)]) := by
  by_cases hp : (prtB s [2, 1, 1]).2 = 0
  · obtain ⟨a, b, c, hp, ha, hb, hc, _⟩ := prt3 hp
    have hal : a.length ≤ 65536 := ha.1.2.2
    refine FCalls.pure (fcallsG (fz := true) G_ok (p := i33) rfl _ (Nat.le_of_ble_eq_true rfl) _ (fun C0 E0 => ?_)) rfl
    dsimp only [i33, argsφ]
    have uu := And.intro @nrbG.eq_1 (And.intro @nrbG.eq_2 (And.intro @nreadG.eq_1 (And.intro @nreadG.eq_2 (And.intro @tpartsG.eq_1 (And.intro @tpartsG.eq_2 (And.intro hp (And.intro @un_i3 (And.intro @rows3 (And.intro @tabCo3_r (And.intro @tabCo3_k (And.intro @tabCo3_q59 (And.intro @tabCo3_q60 (And.intro @tabCo3_q61 (And.intro @tabCo3_q65 (And.intro @tabCo3_q66 (And.intro @tabCo3_q67 (And.intro @tabCo3_t59 (And.intro @tabCo3_t65 (And.intro @frzT.eq_1 (And.intro @nboolG.eq_1 (And.intro @nboolG.eq_2 (And.intro @numberedG.eq_1 (And.intro @numberedG.eq_2 (And.intro @rowG.eq_1 (@rowG.eq_2)))))))))))))))))))))))))
    refine WI.seq ?_
    refine WI.regB tabCo3_ok [0, 2] ?_
    refine oG ?_
    refine oS ?_
    refine oN ?_
    refine thenQ_normal ?_
    refine WI.seq ?_
    refine WI.regB tabCo3_ok [2, 4, 5] ?_
    refine oS ?_
    refine oG ?_
    refine oC ?_
    refine oS ?_
    iterate 2 refine oG ?_
    iterate 2 refine oS ?_
    refine oN ?_
    refine thenQ_normal ?_
    refine WI.seq ?_
    refine WI.seq ?_
    refine WI.regB tabCo3_ok [2, 4, 19] ?_
    refine oS ?_
    refine oG ?_
    refine oN ?_
    refine thenQ_normal ?_
    refine WI.cond (b := _) rfl rfl (fun h0 => ?_) (fun h0 => ?_)
    · exfalso
      simp at h0
    · try simp only [zB] at h0
      refine WI.skip ?_
      refine thenQ_normal ?_
      refine WI.seq ?_
      refine WI.regB tabCo3_ok [2, 4, 6, 7] ?_
      refine oS ?_
      iterate 2 refine oG ?_
      refine oC ?_
      refine oS ?_
      iterate 2 refine oG ?_
      iterate 2 refine oS ?_
      refine oN ?_
      refine thenQ_normal ?_
      refine WI.seq ?_
      refine WI.regB tabCo3_ok [2, 4, 6, 7, 8, 9] ?_
      refine oS ?_
      iterate 2 refine oG ?_
      refine oC ?_
      refine oS ?_
      iterate 2 refine oG ?_
      iterate 2 refine oS ?_
      refine oN ?_
      refine thenQ_normal ?_
      refine WI.seq ?_
      refine WI.regB tabCo3_ok [2, 6, 7, 8, 9, 10, 11] ?_
      refine oS ?_
      iterate 2 refine oG ?_
      refine oC ?_
      refine oS ?_
      iterate 2 refine oG ?_
      iterate 2 refine oS ?_
      refine oN ?_
      refine thenQ_normal ?_
      refine WI.seq ?_
      refine WI.seq ?_
      refine WI.regB tabCo3_ok [2, 6, 8, 10, 59] ?_
      refine oS ?_
      refine oG ?_
      refine oS ?_
      iterate 3 refine oG ?_
      refine oS ?_
      iterate 3 refine oG ?_
      refine oS ?_
      iterate 3 refine oG ?_
      refine oS ?_
      iterate 3 refine oG ?_
      refine oN ?_
      refine thenQ_normal ?_
      refine WI.cond (b := _) rfl rfl (fun h1 => ?_) (fun h1 => ?_)
      · try simp only [zB] at h1
        refine WI.seq ?_
        refine WI.regB tabCo3_ok [2, 3] ?_
        iterate 2 refine oG ?_
        refine oS ?_
        refine oN ?_
        refine thenQ_normal ?_
        refine WI.ret ?_
        refine thenQ_ret ?_
        first | refine lfR ?_ | refine lfR2 ?_
        simp only [rdP, hp]; rw [if_neg (by simp only [not_and, Int.not_le]; intro k1 k2 k3 k4; simp only [k1, k2, k3, not_true_eq_false, false_or, or_false] at h1; omega)] -- leaf 0
      · try simp only [zB] at h1
        refine WI.skip ?_
        refine thenQ_normal ?_
        refine WI.seq ?_
        refine WI.regB tabCo3_ok [2, 3] ?_
        iterate 3 refine oS ?_
        iterate 2 refine oG ?_
        refine oS ?_
        refine oN ?_
        refine thenQ_normal ?_
        refine WI.ret ?_
        first | refine lfR ?_ | refine lfR2 ?_
        simp only [rdP, hp]; rw [if_pos ⟨h1.1.1.1.1, h1.1.1.1.2, h1.1.1.2, h1.1.2, h1.2⟩] -- leaf 1
  · skip
    refine FCalls.pure (fcallsG (fz := true) G_ok (p := i33) rfl _ (Nat.le_of_ble_eq_true rfl) _ (fun C0 E0 => ?_)) rfl
    dsimp only [i33, argsφ]
    have uu := And.intro @nrbG.eq_1 (And.intro @nrbG.eq_2 (And.intro @nreadG.eq_1 (And.intro @nreadG.eq_2 (And.intro @tpartsG.eq_1 (And.intro @tpartsG.eq_2 (And.intro @un_i3 (And.intro @tabCo3_r (And.intro @tabCo3_k (And.intro @tabCo3_q59 (And.intro @tabCo3_q60 (And.intro @tabCo3_q61 (And.intro @tabCo3_q65 (And.intro @tabCo3_q66 (And.intro @tabCo3_q67 (And.intro @tabCo3_t59 (And.intro @tabCo3_t65 (And.intro @frzT.eq_1 (And.intro @nboolG.eq_1 (And.intro @nboolG.eq_2 (And.intro @numberedG.eq_1 (And.intro @numberedG.eq_2 (And.intro @rowG.eq_1 (@rowG.eq_2)))))))))))))))))))))))
    refine WI.seq ?_
    refine WI.regB tabCo3_ok [0, 2] ?_
    refine oG ?_
    refine oS ?_
    refine oN ?_
    refine thenQ_normal ?_
    refine WI.seq ?_
    refine WI.regB tabCo3_ok [2, 4, 5] ?_
    refine oS ?_
    refine oG ?_
    refine oC ?_
    refine oS ?_
    iterate 2 refine oG ?_
    iterate 2 refine oS ?_
    refine oN ?_
    refine thenQ_normal ?_
    refine WI.seq ?_
    refine WI.seq ?_
    refine WI.regB tabCo3_ok [2, 4, 19] ?_
    refine oS ?_
    refine oG ?_
    refine oN ?_
    refine thenQ_normal ?_
    refine WI.cond (b := _) rfl rfl (fun h0 => ?_) (fun h0 => ?_)
    · try simp only [zB] at h0
      refine WI.seq ?_
      refine WI.regB tabCo3_ok [2, 3] ?_
      iterate 2 refine oG ?_
      refine oS ?_
      refine oN ?_
      refine thenQ_normal ?_
      refine WI.ret ?_
      refine thenQ_ret ?_
      first | refine lfR ?_ | refine lfR2 ?_
      rw [rdP_err s (fun h => hp (rdP_prt s h))] -- leaf 0
    · exfalso
      simp at h0; exact absurd h0 hp
def putPersG : List D → Option (Bool × D)
  | [.agg [.x (.int .i64 a), .x (.bool b), .x (.bool c)]] => some (true, .tup [.x (.str (putP (a, b, c, ())).1), .x (.int .i64 (putP (a, b, c, ())).2)])
  | _ => none
theorem putPersG_ok : ∀ args r, putPersG args = some (true, r) → PCalls Try.prog 27 args r := by
  intro args r h
  unfold putPersG at h
  split at h
  · rename_i a b c
    simp only [Option.some.injEq, Prod.mk.injEq, Bool.and_eq_true, decide_eq_true_eq, true_and] at h
    obtain rfl := h
    exact putP_c (a, b, c, ())
  · cases h
def rdPersG : List D → Option (Bool × D)
  | [.x (.str s)] => some (decide (s.length ≤ 9223372036854775807), .tup [.agg [.x (.int .i64 (rdP s).1.1), .x (.bool (rdP s).1.2.1), .x (.bool (rdP s).1.2.2.1)], .x (.int .i64 (rdP s).2)])
  | _ => none
theorem rdPersG_ok : ∀ args r, rdPersG args = some (true, r) → PCalls Try.prog 33 args r := by
  intro args r h
  unfold rdPersG at h
  split at h
  · rename_i s
    simp only [Option.some.injEq, Prod.mk.injEq, Bool.and_eq_true, decide_eq_true_eq, true_and] at h
    obtain ⟨h1, rfl⟩ := h
    exact rdP_c s h1
  · cases h
/- The document's. -/
def tabCo4 : Tabs := addQ (addQ (addQ (noTabs) 75 nputRG) 43 putRG) 81 nboolRG
theorem tabCo4_ok : SsOk Try.prog tabCo4 := addQ_ok (addQ_ok (addQ_ok (noTabs_ok) (G_enters G_ok (p := i75) rfl) nputRG_ok) (G_enters G_ok (p := i43) rfl) putRG_ok) (G_enters G_ok (p := i81) rfl) nboolRG_ok
theorem tabCo4_q75 (a : List D) : tabCo4.q 75 a = nputRG a := rfl
theorem tabCo4_q43 (a : List D) : tabCo4.q 43 a = putRG a := rfl
theorem tabCo4_q81 (a : List D) : tabCo4.q 81 a = nboolRG a := rfl
theorem tabCo4_r (f : FuncId) (a : List D) (o : List Ob) : tabCo4.r f a o = none := rfl
theorem tabCo4_k (f : FuncId) (a : List D) (o : List Ob) : tabCo4.k f a o = none := rfl
theorem num18_c (t n : Int) : PCalls Try.prog 62 [.x (.int .i64 t), .x (.int .i64 n)] (.x (.str (pt (t, (nput n).1, ())))) := by
  refine FCalls.pure (fcallsG (fz := true) G_ok (p := i62) rfl _ (Nat.le_of_ble_eq_true rfl) _ (fun C0 E0 => ?_)) rfl
  dsimp only [i62, argsφ]
  have uu := And.intro @nputRG.eq_1 (And.intro @nputRG.eq_2 (And.intro @putRG.eq_1 (And.intro @putRG.eq_2 (And.intro @tabCo4_r (And.intro @tabCo4_k (And.intro @tabCo4_q43 (And.intro @tabCo4_q75 (And.intro @tabCo4_q81 (And.intro @nboolRG.eq_1 (@nboolRG.eq_2))))))))))
  refine WI.seq ?_
  refine WI.regB tabCo4_ok [0, 1] ?_
  refine oS ?_
  refine oN ?_
  refine thenQ_normal ?_
  refine WI.seq ?_
  refine WI.regB tabCo4_ok [0, 5] ?_
  refine oS ?_
  refine oC ?_
  refine oS ?_
  iterate 2 refine oG ?_
  iterate 2 refine oS ?_
  refine oN ?_
  refine thenQ_normal ?_
  refine WI.seq ?_
  refine WI.regB tabCo4_ok [7] ?_
  iterate 2 refine oS ?_
  refine oC ?_
  refine oS ?_
  iterate 2 refine oG ?_
  iterate 2 refine oS ?_
  refine oN ?_
  refine thenQ_normal ?_
  refine WI.seq ?_
  refine WI.regB tabCo4_ok [4] ?_
  iterate 2 refine oS ?_
  refine oN ?_
  refine thenQ_normal ?_
  refine WI.ret ?_
  first | refine lfR ?_ | refine lfR2 ?_
  rfl -- leaf 0
theorem truth18_c (b : Bool) : PCalls Try.prog 63 [.x (.bool b)] (.x (.str (pt (1, nbool b, ())))) := by
  refine FCalls.pure (fcallsG (fz := true) G_ok (p := i63) rfl _ (Nat.le_of_ble_eq_true rfl) _ (fun C0 E0 => ?_)) rfl
  dsimp only [i63, argsφ]
  have uu := And.intro @nboolRG.eq_1 (And.intro @nboolRG.eq_2 (And.intro @putRG.eq_1 (And.intro @putRG.eq_2 (And.intro @tabCo4_r (And.intro @tabCo4_k (And.intro @tabCo4_q43 (And.intro @tabCo4_q75 (And.intro @tabCo4_q81 (And.intro @nputRG.eq_1 (@nputRG.eq_2))))))))))
  refine WI.seq ?_
  refine WI.regB tabCo4_ok [0] ?_
  refine oS ?_
  refine oN ?_
  refine thenQ_normal ?_
  refine WI.seq ?_
  refine WI.regB tabCo4_ok [3] ?_
  refine oS ?_
  iterate 2 refine oC ?_
  refine oS ?_
  iterate 2 refine oG ?_
  iterate 2 refine oS ?_
  refine oN ?_
  refine thenQ_normal ?_
  refine WI.seq ?_
  refine WI.regB tabCo4_ok [2] ?_
  iterate 2 refine oS ?_
  refine oN ?_
  refine thenQ_normal ?_
  refine WI.ret ?_
  first | refine lfR ?_ | refine lfR2 ?_
  rfl -- leaf 0
def num18G : List D → Option (Bool × D)
  | [.x (.int .i64 t), .x (.int .i64 n)] => some (true, .x (.str (pt (t, (nput n).1, ()))))
  | _ => none
theorem num18G_ok : ∀ args r, num18G args = some (true, r) → PCalls Try.prog 62 args r := by
  intro args r h
  unfold num18G at h
  split at h
  · rename_i t n
    simp only [Option.some.injEq, Prod.mk.injEq, Bool.and_eq_true, decide_eq_true_eq, true_and] at h
    obtain rfl := h
    exact num18_c t n
  · cases h
def truth18G : List D → Option (Bool × D)
  | [.x (.bool b)] => some (true, .x (.str (pt (1, nbool b, ()))))
  | _ => none
theorem truth18G_ok : ∀ args r, truth18G args = some (true, r) → PCalls Try.prog 63 args r := by
  intro args r h
  unfold truth18G at h
  split at h
  · rename_i b
    simp only [Option.some.injEq, Prod.mk.injEq, Bool.and_eq_true, decide_eq_true_eq, true_and] at h
    obtain rfl := h
    exact truth18_c b
  · cases h
def tabCo5 : Tabs := addQ (addQ (addQ (noTabs) 62 num18G) 63 truth18G) 43 putRG
theorem tabCo5_ok : SsOk Try.prog tabCo5 := addQ_ok (addQ_ok (addQ_ok (noTabs_ok) (G_enters G_ok (p := i62) rfl) num18G_ok) (G_enters G_ok (p := i63) rfl) truth18G_ok) (G_enters G_ok (p := i43) rfl) putRG_ok
theorem tabCo5_q62 (a : List D) : tabCo5.q 62 a = num18G a := rfl
theorem tabCo5_q63 (a : List D) : tabCo5.q 63 a = truth18G a := rfl
theorem tabCo5_q43 (a : List D) : tabCo5.q 43 a = putRG a := rfl
theorem tabCo5_r (f : FuncId) (a : List D) (o : List Ob) : tabCo5.r f a o = none := rfl
theorem tabCo5_k (f : FuncId) (a : List D) (o : List Ob) : tabCo5.k f a o = none := rfl
theorem putPR_c (p : Pers) : PCalls Try.prog 28 [.agg [.x (.int .i64 p.1), .x (.bool p.2.1), .x (.bool p.2.2.1)]] (.tup [.x (.str (putP p).1), .x (.int .i64 (putP p).2)]) := by
  have h1 := pt_len (persL_g p (2, (nput p.1).1, ()) (by simp [persL])).1
  have h2 := pt_len (persL_g p (1, nbool p.2.1, ()) (by simp [persL])).1
  have h3 := pt_len (persL_g p (1, nbool p.2.2.1, ()) (by simp [persL])).1
  have h4 := nput_len p.1
  have h5 := nbool_len p.2.1
  have h6 := nbool_len p.2.2.1
  simp only at h1 h2 h3
  refine FCalls.pure (fcallsG (fz := true) G_ok (p := i28) rfl _ (Nat.le_of_ble_eq_true rfl) _ (fun C0 E0 => ?_)) rfl
  dsimp only [i28, argsφ]
  have uu := And.intro @num18G.eq_1 (And.intro @num18G.eq_2 (And.intro @truth18G.eq_1 (And.intro @truth18G.eq_2 (And.intro @putRG.eq_1 (And.intro @putRG.eq_2 (And.intro @tabCo5_r (And.intro @tabCo5_k (And.intro @tabCo5_q43 (And.intro @tabCo5_q62 (@tabCo5_q63))))))))))
  refine WI.seq ?_
  refine WI.regB tabCo5_ok [1] ?_
  refine oG (hok := by first | with_reducible rfl | omega | (simp only [List.length_append]; simp only [decide_eq_true_eq]; omega) | (simp; done) | (simp; omega) | rfl) ?_
  iterate 2 refine oS ?_
  refine oN ?_
  refine thenQ_normal ?_
  refine WI.seq ?_
  refine WI.seq ?_
  refine WI.regB tabCo5_ok [1, 11] ?_
  refine oS ?_
  iterate 2 refine oG (hok := by first | with_reducible rfl | omega | (simp only [List.length_append]; simp only [decide_eq_true_eq]; omega) | (simp; done) | (simp; omega) | rfl) ?_
  refine oS ?_
  iterate 4 refine oG (hok := by first | with_reducible rfl | omega | (simp only [List.length_append]; simp only [decide_eq_true_eq]; omega) | (simp; done) | (simp; omega) | rfl) ?_
  refine oN ?_
  refine thenQ_normal ?_
  refine WI.cond (b := _) rfl rfl (fun h0 => ?_) (fun h0 => ?_)
  · try simp only [zB] at h0
    refine WI.seq ?_
    refine WI.regB tabCo5_ok [2, 3] ?_
    iterate 2 refine oS ?_
    refine oN ?_
    refine thenQ_normal ?_
    refine WI.ret ?_
    refine thenQ_ret ?_
    first | refine lfR ?_ | refine lfR2 ?_
    unfold putP; rw [if_pos h0] -- leaf 0
  · try simp only [zB] at h0
    refine WI.skip ?_
    refine thenQ_normal ?_
    refine WI.seq ?_
    refine WI.dregB tabCo5_ok [2, 3] ?_
    refine dFS ?_
    refine dQG (hok := by first | with_reducible rfl | omega | (simp only [List.length_append]; simp only [decide_eq_true_eq]; omega) | (simp; done) | (simp; omega) | rfl) ?_
    refine dQC (hok := by first | with_reducible rfl | omega | (simp only [List.length_append]; simp only [decide_eq_true_eq]; omega) | (simp; done) | (simp; omega) | rfl) ?_
    refine dFS ?_
    refine dQG (hok := by first | with_reducible rfl | omega | (simp only [List.length_append]; simp only [decide_eq_true_eq]; omega) | (simp; done) | (simp; omega) | rfl) ?_
    refine dQC (hok := by first | with_reducible rfl | omega | (simp only [List.length_append]; simp only [decide_eq_true_eq]; omega) | (simp; done) | (simp; omega) | rfl) ?_
    refine dFG (hok := by first | with_reducible rfl | omega | (simp only [List.length_append]; simp only [decide_eq_true_eq]; omega) | (simp; done) | (simp; omega) | rfl) ?_
    refine dFS ?_
    refine dQG (hok := by first | with_reducible rfl | omega | (simp only [List.length_append]; simp only [decide_eq_true_eq]; omega) | (simp; done) | (simp; omega) | rfl) ?_
    refine dAC (hok := by first | with_reducible rfl | omega | (simp only [List.length_append]; simp only [decide_eq_true_eq]; omega) | (simp; done) | (simp; omega) | rfl) ?_
    refine dFG (hok := by first | with_reducible rfl | omega | (simp only [List.length_append]; simp only [decide_eq_true_eq]; omega) | (simp; done) | (simp; omega) | rfl) ?_
    refine dAC (hok := by first | with_reducible rfl | omega | (simp only [List.length_append]; simp only [decide_eq_true_eq]; omega) | (simp; done) | (simp; omega) | rfl) ?_
    iterate 2 refine dFG (hok := by first | with_reducible rfl | omega | (simp only [List.length_append]; simp only [decide_eq_true_eq]; omega) | (simp; done) | (simp; omega) | rfl) ?_
    iterate 2 refine dFS ?_
    refine dN ?_
    refine thenQ_normal ?_
    refine WI.ret ?_
    first | refine lfR ?_ | refine lfR2 ?_
    unfold putP; rw [if_neg (by omega : ¬ (p.1 < 1 ∨ 15 < p.1))]; simp [rowB, persL, List.append_assoc] -- leaf 1
def putPersRG : List D → Option (Bool × D)
  | [.agg [.x (.int .i64 a), .x (.bool b), .x (.bool c)]] => some (true, .tup [.x (.str (putP (a, b, c, ())).1), .x (.int .i64 (putP (a, b, c, ())).2)])
  | _ => none
theorem putPersRG_ok : ∀ args r, putPersRG args = some (true, r) → PCalls Try.prog 28 args r := by
  intro args r h
  unfold putPersRG at h
  split at h
  · rename_i a b c
    simp only [Option.some.injEq, Prod.mk.injEq, Bool.and_eq_true, decide_eq_true_eq, true_and] at h
    obtain rfl := h
    exact putPR_c (a, b, c, ())
  · cases h
end Go.Proofs.Ytcffpndhodhncaa
end
section
/- Controls: the document's persistent searches; notices. -/
set_option linter.unusedSimpArgs false
set_option linter.unusedVariables false
namespace Go.Proofs.Ytcffpndhodhncaa
open Go.RowKit Go.Bo Go.Ab

def tabCo6 : Tabs := addQ (noTabs) 28 putPersRG
theorem tabCo6_ok : SsOk Try.prog tabCo6 := addQ_ok (noTabs_ok) (G_enters G_ok (p := i28) rfl) putPersRG_ok
theorem tabCo6_q28 (a : List D) : tabCo6.q 28 a = putPersRG a := rfl
theorem tabCo6_r (f : FuncId) (a : List D) (o : List Ob) : tabCo6.r f a o = none := rfl
theorem tabCo6_k (f : FuncId) (a : List D) (o : List Ob) : tabCo6.k f a o = none := rfl
def pk (i k : Nat) : Pers := ((i : Int), ((k : Int).tmod 2 == 1), decide ((k : Int) > 1), ())
theorem pk_all (p : Pers) (h : 1 ≤ p.1) : ∃ k, k < 4 ∧ pk p.1.toNat k = p := by
  obtain ⟨a, b, c, _⟩ := p
  have e : ((a.toNat : Nat) : Int) = a := Int.toNat_of_nonneg (by simp only at h; omega)
  simp only [pk, e]
  cases b <;> cases c
  · exact ⟨0, by omega, rfl⟩
  · exact ⟨2, by omega, rfl⟩
  · exact ⟨1, by omega, rfl⟩
  · exact ⟨3, by omega, rfl⟩
theorem rdPR_c (s : List UInt8) (hs : s.length ≤ 9223372036854775807) : PCalls Try.prog 34 [.x (.str s)] (.tup [.agg [.x (.int .i64 (rdP s).1.1), .x (.bool (rdP s).1.2.1), .x (.bool (rdP s).1.2.2.1)], .x (.int .i64 (rdP s).2)]) := by
  refine FCalls.pure (fcallsG (fz := true) G_ok (p := i34) rfl _ (Nat.le_of_ble_eq_true rfl) _ (fun C0 E0 => ?_)) rfl
  dsimp only [i34, argsφ]
  have uu := And.intro @putPersRG.eq_1 (And.intro @putPersRG.eq_2 (And.intro @tabCo6_r (And.intro @tabCo6_k (@tabCo6_q28))))
  refine WI.seq ?_
  refine WI.regB tabCo6_ok [0, 2] ?_
  refine oG ?_
  refine oS ?_
  refine oN ?_
  refine thenQ_normal ?_
  refine WI.seq ?_
  refine WI.seq ?_
  refine WI.regB tabCo6_ok [0, 2, 4] ?_
  refine oS ?_
  refine oN ?_
  refine thenQ_normal ?_
  refine WI.block ?_
  refine WI.loop (fun φ os => ∃ (i : Nat), φ = [(0, .x (.str s)), (2, .ptr 0 0), (4, .x (.int .i64 i))] ∧ os = [.box [.x (.int .i64 0), .x (.bool false), .x (.bool false)]] ∧ 1 ≤ i ∧ i ≤ 16 ∧ ∀ j k : Nat, 1 ≤ j → j < i → k < 4 → (putP (pk j k)).1 ≠ s) (down 16 4) ?_ (fun φ os hI => ?_)
  · exact ⟨1, rfl, rfl, by omega, by omega, fun j k h1 h2 => by omega⟩
  · obtain ⟨i, rfl, rfl, h1i, hi, hno⟩ := hI
    refine WI.seq ?_
    refine WI.seq ?_
    refine WI.regB tabCo6_ok [0, 2, 4, 10] ?_
    refine oS ?_
    refine oG ?_
    refine oN ?_
    refine thenQ_normal ?_
    refine WI.cond (b := _) rfl rfl (fun h0 => ?_) (fun h0 => ?_)
    · try simp only [zB] at h0
      refine WI.skip ?_
      refine thenQ_normal ?_
      refine WI.seq ?_
      refine WI.block ?_
      refine WI.seq ?_
      refine WI.regB tabCo6_ok [0, 2, 4, 5] ?_
      refine oS ?_
      refine oN ?_
      refine thenQ_normal ?_
      refine WI.block ?_
      refine WI.loop (fun φ os => ∃ (k : Nat), φ = [(0, .x (.str s)), (2, .ptr 0 0), (4, .x (.int .i64 i)), (5, .x (.int .i64 k))] ∧ os = [.box [.x (.int .i64 0), .x (.bool false), .x (.bool false)]] ∧ k ≤ 4 ∧ ∀ k' : Nat, k' < k → (putP (pk i k')).1 ≠ s) (down 4 5) ?_ (fun φ os hI => ?_)
      · exact ⟨0, rfl, rfl, by omega, fun k h => by omega⟩
      · obtain ⟨k, rfl, rfl, hk, hnk⟩ := hI
        refine WI.seq ?_
        refine WI.seq ?_
        refine WI.regB tabCo6_ok [0, 2, 4, 5, 14] ?_
        refine oS ?_
        refine oG ?_
        refine oN ?_
        refine thenQ_normal ?_
        refine WI.cond (b := _) rfl rfl (fun h1 => ?_) (fun h1 => ?_)
        · try simp only [zB] at h1
          refine WI.skip ?_
          refine thenQ_normal ?_
          refine WI.seq ?_
          refine WI.block ?_
          refine WI.seq ?_
          refine WI.regB tabCo6_ok [0, 2, 4, 5, 6] ?_
          iterate 2 refine oS ?_
          iterate 2 refine oG ?_
          refine oS ?_
          iterate 4 refine oG ?_
          refine oN ?_
          refine thenQ_normal ?_
          refine WI.seq ?_
          refine WI.regB tabCo6_ok [0, 2, 4, 5, 6, 7] ?_
          refine oG ?_
          refine oC ?_
          refine oS ?_
          iterate 2 refine oG ?_
          iterate 2 refine oS ?_
          refine oN ?_
          refine thenQ_normal ?_
          refine WI.seq ?_
          refine WI.regB tabCo6_ok [0, 2, 4, 5, 6, 31] ?_
          iterate 2 refine oS ?_
          refine oG ?_
          refine oN ?_
          refine thenQ_normal ?_
          refine WI.cond (b := _) rfl rfl (fun h2 => ?_) (fun h2 => ?_)
          · try simp only [zB] at h2
            refine WI.seq ?_
            refine WI.regB tabCo6_ok [2, 3] ?_
            iterate 2 refine oG ?_
            refine oS ?_
            refine oN ?_
            refine thenQ_normal ?_
            refine WI.ret ?_
            refine blockQ_ret ?_
            refine thenQ_ret ?_
            refine thenQ_ret ?_
            refine blockQ_ret ?_
            refine blockQ_ret ?_
            refine thenQ_ret ?_
            refine thenQ_ret ?_
            refine blockQ_ret ?_
            refine thenQ_ret ?_
            first | refine lfR ?_ | refine lfR2 ?_
            have hp := rdP_put (pk i k) ⟨by show (1 : Int) ≤ i; omega, by show (i : Int) ≤ 15; omega⟩
            rw [show (putP (pk i k)).1 = s from h2] at hp
            rw [hp]; rfl -- leaf 0
          · try simp only [zB] at h2
            refine WI.skip ?_
            refine blockQ_normal ?_
            refine thenQ_normal ?_
            refine WI.post ?_
            refine WI.regB tabCo6_ok [0, 2, 4, 5] ?_
            refine oS ?_
            refine oG ?_
            refine oS ?_
            refine oP ?_
            refine pPick [0] ?_
            refine pEnd ?_
            refine thenQ_normal ?_
            exact ⟨⟨k + 1, by simp, rfl, by omega, fun k' hk' => by rcases Nat.lt_succ_iff_lt_or_eq.1 hk' with e | rfl; exact hnk k' e; exact h2⟩, by simp [down, Ab.get, D.val, intOf?]; omega⟩
        · try simp only [zB] at h1
          refine WI.exit ?_
          refine thenQ_exit ?_
          refine thenQ_exit ?_
          refine blockQ_hit ?_
          refine blockQ_normal ?_
          refine thenQ_normal ?_
          refine WI.regB tabCo6_ok [0, 2, 4] ?_
          refine oS ?_
          refine oG ?_
          refine oS ?_
          refine oN ?_
          refine thenQ_normal ?_
          exact ⟨⟨i + 1, by simp, rfl, by omega, by omega, fun j k' a1 a2 a3 => by rcases Nat.lt_succ_iff_lt_or_eq.1 a2 with e | rfl; exact hno j k' a1 e a3; exact hnk k' (by omega)⟩, by simp [down, Ab.get, D.val, intOf?]; omega⟩
    · try simp only [zB] at h0
      refine WI.exit ?_
      refine thenQ_exit ?_
      refine thenQ_exit ?_
      refine blockQ_hit ?_
      refine thenQ_normal ?_
      refine WI.seq ?_
      refine WI.regB tabCo6_ok [2, 3] ?_
      iterate 2 refine oG ?_
      refine oS ?_
      refine oN ?_
      refine thenQ_normal ?_
      refine WI.ret ?_
      first | refine lfR ?_ | refine lfR2 ?_
      rw [rdP_err s (fun h => by
        obtain ⟨q1, q2, q3⟩ := putP_rd s h
        obtain ⟨k, k1, k2⟩ := pk_all (rdP s).1 q2
        exact hno (rdP s).1.1.toNat k (by omega) (by omega) k1 (by rw [k2, q1]))] -- leaf 1
def rdPersRG : List D → Option (Bool × D)
  | [.x (.str s)] => some (decide (s.length ≤ 9223372036854775807), .tup [.agg [.x (.int .i64 (rdP s).1.1), .x (.bool (rdP s).1.2.1), .x (.bool (rdP s).1.2.2.1)], .x (.int .i64 (rdP s).2)])
  | _ => none
theorem rdPersRG_ok : ∀ args r, rdPersRG args = some (true, r) → PCalls Try.prog 34 args r := by
  intro args r h
  unfold rdPersRG at h
  split at h
  · rename_i s
    simp only [Option.some.injEq, Prod.mk.injEq, Bool.and_eq_true, decide_eq_true_eq, true_and] at h
    obtain ⟨h1, rfl⟩ := h
    exact rdPR_c s h1
  · cases h
theorem known_c (k : Int) : PCalls Try.prog 64 [.x (.int .i64 k)] (.x (.bool (decide (knownB k)))) := by
  refine FCalls.pure (fcallsG (fz := true) G_ok (p := i64) rfl _ (Nat.le_of_ble_eq_true rfl) _ (fun C0 E0 => ?_)) rfl
  dsimp only [i64, argsφ]
  have uu := trivial
  refine WI.seq ?_
  refine WI.regB noTabs_ok [0] ?_
  refine oS ?_
  refine oN ?_
  refine thenQ_normal ?_
  refine WI.seq ?_
  refine WI.regB noTabs_ok [2] ?_
  refine oS ?_
  refine oG ?_
  refine oS ?_
  iterate 3 refine oG ?_
  refine oS ?_
  iterate 3 refine oG ?_
  refine oS ?_
  iterate 3 refine oG ?_
  refine oS ?_
  refine oN ?_
  refine thenQ_normal ?_
  refine WI.ret ?_
  first | refine lfR ?_ | refine lfR2 ?_
  congr 2; rw [Bool.eq_iff_iff, decide_eq_true_iff]; simp [knownB, or_assoc] -- leaf 0
def knownG : List D → Option (Bool × D)
  | [.x (.int .i64 k)] => some (true, .x (.bool (decide (knownB k))))
  | _ => none
theorem knownG_ok : ∀ args r, knownG args = some (true, r) → PCalls Try.prog 64 args r := by
  intro args r h
  unfold knownG at h
  split at h
  · rename_i k
    simp only [Option.some.injEq, Prod.mk.injEq, Bool.and_eq_true, decide_eq_true_eq, true_and] at h
    obtain rfl := h
    exact known_c k
  · cases h
def tabCo7 : Tabs := addT (addQ (addT (addQ (addQ (addQ (addQ (noTabs) 64 knownG) 60 numberedG) 66 nreadG) 59 rowG) 59 (frzT rowG)) 65 (viaNN tpartsG)) 65 (frzT (viaNN tpartsG))
theorem tabCo7_ok : SsOk Try.prog tabCo7 := addT_ok (addQ_ok (addT_ok (addQ_ok (addQ_ok (addQ_ok (addQ_ok (noTabs_ok) (G_enters G_ok (p := i64) rfl) knownG_ok) (G_enters G_ok (p := i60) rfl) numberedG_ok) (G_enters G_ok (p := i66) rfl) nreadG_ok) (G_enters G_ok (p := i59) rfl) rowG_ok) (G_enters G_ok (p := i59) rfl) (frzT_ok rowG_ok)) (G_enters G_ok (p := i65) rfl) (viaNN_ok tpartsG_ok)) (G_enters G_ok (p := i65) rfl) (frzT_ok (viaNN_ok tpartsG_ok))
theorem tabCo7_q64 (a : List D) : tabCo7.q 64 a = knownG a := rfl
theorem tabCo7_q60 (a : List D) : tabCo7.q 60 a = numberedG a := rfl
theorem tabCo7_q66 (a : List D) : tabCo7.q 66 a = nreadG a := rfl
theorem tabCo7_q59 (a : List D) : tabCo7.q 59 a = rowG a := rfl
theorem tabCo7_t59 (a : List D) (o : List Ob) : tabCo7.t 59 a o = liftT (frzT rowG) a o := rfl
theorem tabCo7_q65 (a : List D) : tabCo7.q 65 a = viaNN tpartsG a := rfl
theorem tabCo7_t65 (a : List D) (o : List Ob) : tabCo7.t 65 a o = liftT (frzT (viaNN tpartsG)) a o := rfl
theorem tabCo7_r (f : FuncId) (a : List D) (o : List Ob) : tabCo7.r f a o = none := rfl
theorem tabCo7_k (f : FuncId) (a : List D) (o : List Ob) : tabCo7.k f a o = none := rfl
theorem putN_c (n : Note) : PCalls Try.prog 29 [.agg [.x (.int .i64 n.1), .x (.str n.2.1), .x (.int .i64 n.2.2.1)]] (.tup [.x (.str (putN n).1), .x (.int .i64 (putN n).2)]) := by
  refine FCalls.pure (fcallsG (fz := true) G_ok (p := i29) rfl _ (Nat.le_of_ble_eq_true rfl) _ (fun C0 E0 => ?_)) rfl
  dsimp only [i29, argsφ]
  have uu := And.intro @knownG.eq_1 (And.intro @knownG.eq_2 (And.intro @numberedG.eq_1 (And.intro @numberedG.eq_2 (And.intro @rowG.eq_1 (And.intro @rowG.eq_2 (And.intro @un_tlv2 (And.intro @un_tlv3 (And.intro @tabCo7_r (And.intro @tabCo7_k (And.intro @tabCo7_q59 (And.intro @tabCo7_q60 (And.intro @tabCo7_q64 (And.intro @tabCo7_q65 (And.intro @tabCo7_q66 (And.intro @tabCo7_t59 (And.intro @tabCo7_t65 (And.intro @frzT.eq_1 (And.intro @nreadG.eq_1 (And.intro @nreadG.eq_2 (And.intro @tpartsG.eq_1 (@tpartsG.eq_2)))))))))))))))))))))
  refine WI.seq ?_
  refine WI.regB tabCo7_ok [1] ?_
  refine oG ?_
  iterate 2 refine oS ?_
  refine oN ?_
  refine thenQ_normal ?_
  refine WI.seq ?_
  refine WI.block ?_
  refine WI.seq ?_
  refine WI.regB tabCo7_ok [1, 5] ?_
  refine oS ?_
  refine oG ?_
  refine oC ?_
  refine oG ?_
  refine oS ?_
  refine oN ?_
  refine thenQ_normal ?_
  refine WI.cond (b := _) rfl rfl (fun h0 => ?_) (fun h0 => ?_)
  · try simp only [zB] at h0
    refine WI.seq ?_
    refine WI.regB tabCo7_ok [2, 3] ?_
    iterate 2 refine oS ?_
    refine oN ?_
    refine thenQ_normal ?_
    refine WI.ret ?_
    refine blockQ_ret ?_
    refine thenQ_ret ?_
    first | refine lfR ?_ | refine lfR2 ?_
    unfold putN; rw [if_pos (by simpa using h0)] -- leaf 0
  · try simp only [zB] at h0
    refine WI.seq ?_
    refine WI.regB tabCo7_ok [1, 10] ?_
    refine oS ?_
    iterate 3 refine oG ?_
    refine oS ?_
    refine oN ?_
    refine thenQ_normal ?_
    refine WI.cond (b := _) rfl rfl (fun h1 => ?_) (fun h1 => ?_)
    · try simp only [zB] at h1
      refine WI.seq ?_
      refine WI.regB tabCo7_ok [2, 3] ?_
      iterate 2 refine oS ?_
      refine oN ?_
      refine thenQ_normal ?_
      refine WI.ret ?_
      refine blockQ_ret ?_
      refine thenQ_ret ?_
      first | refine lfR ?_ | refine lfR2 ?_
      unfold putN; rw [if_neg (by simpa using h0), if_pos (by omega)] -- leaf 1
    · try simp only [zB] at h1
      refine WI.seq ?_
      refine WI.regB tabCo7_ok [1, 15] ?_
      refine oS ?_
      iterate 2 refine oG ?_
      refine oS ?_
      iterate 4 refine oG ?_
      refine oS ?_
      refine oN ?_
      refine thenQ_normal ?_
      refine WI.cond (b := _) rfl rfl (fun h2 => ?_) (fun h2 => ?_)
      · try simp only [zB] at h2
        refine WI.seq ?_
        refine WI.regB tabCo7_ok [2, 3] ?_
        iterate 2 refine oS ?_
        refine oN ?_
        refine thenQ_normal ?_
        refine WI.ret ?_
        refine blockQ_ret ?_
        refine thenQ_ret ?_
        first | refine lfR ?_ | refine lfR2 ?_
        unfold putN; rw [if_neg (by simpa using h0), if_neg (by omega), if_pos (by omega)] -- leaf 2
      · try simp only [zB] at h2
        refine WI.skip ?_
        refine blockQ_normal ?_
        refine thenQ_normal ?_
        refine WI.seq ?_
        refine WI.regB tabCo7_ok [1, 4] ?_
        refine oS ?_
        refine oG ?_
        refine oC ?_
        refine oG ?_
        refine oS ?_
        refine oN ?_
        refine thenQ_normal ?_
        refine WI.seq ?_
        refine WI.seq ?_
        refine WI.regB tabCo7_ok [1, 4, 30] ?_
        refine oS ?_
        iterate 2 refine oG ?_
        refine oN ?_
        refine thenQ_normal ?_
        refine WI.cond (b := _) rfl rfl (fun h3 => ?_) (fun h3 => ?_)
        · try simp only [zB] at h3
          refine WI.regB tabCo7_ok [1, 4] ?_
          iterate 2 refine oS ?_
          iterate 4 refine oG ?_
          refine oS ?_
          refine oN ?_
          refine thenQ_normal ?_
          refine WI.seq ?_
          have hok : okN n := ⟨by simpa using h0, by omega, by omega, by omega⟩
          have hg := noteL_g n hok.2.1
          refine WI.regB tabCo7_ok [2, 3] ?_
          iterate 2 refine oS ?_
          refine oG (hok := by first | with_reducible rfl | omega | (exact decide_eq_true (fun x hx => (hg x (by unfold noteL; first | (rw [if_pos h3]; exact hx) | (rw [if_neg h3]; exact hx))).1)) | (simp; done) | (simp; omega) | rfl) ?_
          refine oC (hok := by first | with_reducible rfl | omega | (exact decide_eq_true (fun x hx => (hg x (by unfold noteL; first | (rw [if_pos h3]; exact hx) | (rw [if_neg h3]; exact hx))).1)) | (simp; done) | (simp; omega) | rfl) ?_
          iterate 2 refine oG (hok := by first | with_reducible rfl | omega | (exact decide_eq_true (fun x hx => (hg x (by unfold noteL; first | (rw [if_pos h3]; exact hx) | (rw [if_neg h3]; exact hx))).1)) | (simp; done) | (simp; omega) | rfl) ?_
          refine oC (hok := by first | with_reducible rfl | omega | (exact decide_eq_true (fun x hx => (hg x (by unfold noteL; first | (rw [if_pos h3]; exact hx) | (rw [if_neg h3]; exact hx))).1)) | (simp; done) | (simp; omega) | rfl) ?_
          iterate 2 refine oG (hok := by first | with_reducible rfl | omega | (exact decide_eq_true (fun x hx => (hg x (by unfold noteL; first | (rw [if_pos h3]; exact hx) | (rw [if_neg h3]; exact hx))).1)) | (simp; done) | (simp; omega) | rfl) ?_
          iterate 2 refine oS ?_
          refine oN ?_
          refine thenQ_normal ?_
          refine WI.ret ?_
          first | refine lfR ?_ | refine lfR2 ?_
          rw [putN_ok hok]; unfold noteL; rw [if_neg h3]; rfl -- leaf 3
        · try simp only [zB] at h3
          refine WI.skip ?_
          refine thenQ_normal ?_
          refine WI.seq ?_
          have hok : okN n := ⟨by simpa using h0, by omega, by omega, by omega⟩
          have hg := noteL_g n hok.2.1
          refine WI.regB tabCo7_ok [2, 3] ?_
          iterate 2 refine oS ?_
          refine oG (hok := by first | with_reducible rfl | omega | (exact decide_eq_true (fun x hx => (hg x (by unfold noteL; first | (rw [if_pos h3]; exact hx) | (rw [if_neg h3]; exact hx))).1)) | (simp; done) | (simp; omega) | rfl) ?_
          refine oC (hok := by first | with_reducible rfl | omega | (exact decide_eq_true (fun x hx => (hg x (by unfold noteL; first | (rw [if_pos h3]; exact hx) | (rw [if_neg h3]; exact hx))).1)) | (simp; done) | (simp; omega) | rfl) ?_
          iterate 2 refine oG (hok := by first | with_reducible rfl | omega | (exact decide_eq_true (fun x hx => (hg x (by unfold noteL; first | (rw [if_pos h3]; exact hx) | (rw [if_neg h3]; exact hx))).1)) | (simp; done) | (simp; omega) | rfl) ?_
          refine oC (hok := by first | with_reducible rfl | omega | (exact decide_eq_true (fun x hx => (hg x (by unfold noteL; first | (rw [if_pos h3]; exact hx) | (rw [if_neg h3]; exact hx))).1)) | (simp; done) | (simp; omega) | rfl) ?_
          iterate 2 refine oG (hok := by first | with_reducible rfl | omega | (exact decide_eq_true (fun x hx => (hg x (by unfold noteL; first | (rw [if_pos h3]; exact hx) | (rw [if_neg h3]; exact hx))).1)) | (simp; done) | (simp; omega) | rfl) ?_
          iterate 2 refine oS ?_
          refine oN ?_
          refine thenQ_normal ?_
          refine WI.ret ?_
          first | refine lfR ?_ | refine lfR2 ?_
          rw [putN_ok hok]; unfold noteL; rw [if_pos h3]; rfl -- leaf 4
theorem notice_c (a b c : List UInt8) (h : a.length ≤ 9223372036854775807 ∧ b.length ≤ 9223372036854775807 ∧ c.length ≤ 9223372036854775807) : PCalls Try.prog 68 [.x (.str a), .x (.str b), .x (.str c)] (.tup [.agg [.x (.int .i64 (noteB a b c).1.1), .x (.str b), .x (.int .i64 (noteB a b c).1.2.2.1)], .x (.bool (noteB a b c).2)]) := by
  refine FCalls.pure (fcallsG (fz := true) G_ok (p := i68) rfl _ (Nat.le_of_ble_eq_true rfl) _ (fun C0 E0 => ?_)) rfl
  dsimp only [i68, argsφ]
  have uu := And.intro @knownG.eq_1 (And.intro @knownG.eq_2 (And.intro @nreadG.eq_1 (And.intro @nreadG.eq_2 (And.intro @tabCo7_r (And.intro @tabCo7_k (And.intro @tabCo7_q59 (And.intro @tabCo7_q60 (And.intro @tabCo7_q64 (And.intro @tabCo7_q65 (And.intro @tabCo7_q66 (And.intro @tabCo7_t59 (And.intro @tabCo7_t65 (And.intro @frzT.eq_1 (And.intro @numberedG.eq_1 (And.intro @numberedG.eq_2 (And.intro @rowG.eq_1 (And.intro @rowG.eq_2 (And.intro @tpartsG.eq_1 (@tpartsG.eq_2)))))))))))))))))))
  refine WI.seq ?_
  refine WI.regB tabCo7_ok [0, 1, 2, 6] ?_
  refine oG ?_
  refine oS ?_
  refine oN ?_
  refine thenQ_normal ?_
  refine WI.seq ?_
  refine WI.regB tabCo7_ok [1, 2, 6, 8, 9] ?_
  refine oS ?_
  refine oC ?_
  refine oS ?_
  iterate 2 refine oG ?_
  iterate 2 refine oS ?_
  refine oN ?_
  refine thenQ_normal ?_
  refine WI.seq ?_
  refine WI.regB tabCo7_ok [1, 6, 8, 9, 10, 11] ?_
  refine oS ?_
  refine oC ?_
  refine oS ?_
  iterate 2 refine oG ?_
  iterate 2 refine oS ?_
  refine oN ?_
  refine thenQ_normal ?_
  refine WI.seq ?_
  refine WI.regB tabCo7_ok [1, 6, 8, 10, 12] ?_
  refine oS ?_
  refine oG ?_
  refine oS ?_
  iterate 3 refine oG ?_
  refine oS ?_
  refine oG ?_
  refine oC ?_
  refine oG ?_
  refine oS ?_
  iterate 3 refine oG ?_
  refine oS ?_
  iterate 4 refine oG ?_
  refine oS ?_
  refine oN ?_
  refine thenQ_normal ?_
  refine WI.seq ?_
  refine WI.regB tabCo7_ok [6, 7] ?_
  iterate 3 refine oS ?_
  refine oG ?_
  refine oS ?_
  refine oG ?_
  refine oS ?_
  refine oN ?_
  refine thenQ_normal ?_
  refine WI.ret ?_
  first | refine lfR ?_ | refine lfR2 ?_
  refine bool_tup ?_
  rw [Bool.eq_iff_iff]
  unfold noteB
  simp only [Bool.and_eq_true, decide_eq_true_eq, beq_iff_eq]
  constructor
  · rintro ⟨⟨⟨⟨h1, h2⟩, h3⟩, h4⟩, h5⟩; exact ⟨h1, h2, h3, by omega, by omega⟩
  · rintro ⟨h1, h2, h3, h4, h5⟩; exact ⟨⟨⟨⟨h1, h2⟩, h3⟩, by omega⟩, by omega⟩ -- leaf 0
end Go.Proofs.Ytcffpndhodhncaa
end
section
/- Controls: reading notices; whether a control may be; what is asked for. -/
set_option linter.unusedSimpArgs false
set_option linter.unusedVariables false
namespace Go.Proofs.Ytcffpndhodhncaa
open Go.RowKit Go.Bo Go.Ab

def putNoteG : List D → Option (Bool × D)
  | [.agg [.x (.int .i64 a), .x (.str b), .x (.int .i64 c)]] => some (true, .tup [.x (.str (putN (a, b, c, ())).1), .x (.int .i64 (putN (a, b, c, ())).2)])
  | _ => none
theorem putNoteG_ok : ∀ args r, putNoteG args = some (true, r) → PCalls Try.prog 29 args r := by
  intro args r h
  unfold putNoteG at h
  split at h
  · rename_i a b c
    simp only [Option.some.injEq, Prod.mk.injEq, Bool.and_eq_true, decide_eq_true_eq, true_and] at h
    obtain rfl := h
    exact putN_c (a, b, c, ())
  · cases h
def noticeG : List D → Option (Bool × D)
  | [.x (.str a), .x (.str b), .x (.str c)] => some (decide (a.length ≤ 9223372036854775807 ∧ b.length ≤ 9223372036854775807 ∧ c.length ≤ 9223372036854775807), .tup [.agg [.x (.int .i64 (noteB a b c).1.1), .x (.str b), .x (.int .i64 (noteB a b c).1.2.2.1)], .x (.bool (noteB a b c).2)])
  | _ => none
theorem noticeG_ok : ∀ args r, noticeG args = some (true, r) → PCalls Try.prog 68 args r := by
  intro args r h
  unfold noticeG at h
  split at h
  · rename_i a b c
    simp only [Option.some.injEq, Prod.mk.injEq, Bool.and_eq_true, decide_eq_true_eq, true_and] at h
    obtain ⟨h1, rfl⟩ := h
    exact notice_c a b c h1
  · cases h
def tabCo8 : Tabs := addT (addQ (addQ (noTabs) 68 noticeG) 65 (viaNN tpartsG)) 65 (frzT (viaNN tpartsG))
theorem tabCo8_ok : SsOk Try.prog tabCo8 := addT_ok (addQ_ok (addQ_ok (noTabs_ok) (G_enters G_ok (p := i68) rfl) noticeG_ok) (G_enters G_ok (p := i65) rfl) (viaNN_ok tpartsG_ok)) (G_enters G_ok (p := i65) rfl) (frzT_ok (viaNN_ok tpartsG_ok))
theorem tabCo8_q68 (a : List D) : tabCo8.q 68 a = noticeG a := rfl
theorem tabCo8_q65 (a : List D) : tabCo8.q 65 a = viaNN tpartsG a := rfl
theorem tabCo8_t65 (a : List D) (o : List Ob) : tabCo8.t 65 a o = liftT (frzT (viaNN tpartsG)) a o := rfl
theorem tabCo8_r (f : FuncId) (a : List D) (o : List Ob) : tabCo8.r f a o = none := rfl
theorem tabCo8_k (f : FuncId) (a : List D) (o : List Ob) : tabCo8.k f a o = none := rfl
def noteD (n : Note × Int) : D := .tup [.agg [.x (.int .i64 n.1.1), .x (.str n.1.2.1), .x (.int .i64 n.1.2.2.1)], .x (.int .i64 n.2)]
theorem rdN_c (s : List UInt8) (hs : s.length ≤ 9223372036854775807) : PCalls Try.prog 35 [.x (.str s)] (noteD (rdN s)) := by
  by_cases hp : (prtB s [10, 2]).2 = 0
  · obtain ⟨a, c, hp, ha, hc, _⟩ := prt2 hp
    have hal : a.length ≤ 65536 := ha.1.2.2
    have hcl : c.length ≤ 65536 := hc.1.2.2
    have hr : rdN s = if (noteB a [] c).2 = true then ((noteB a [] c).1, 0) else (noN, 5) := by simp only [rdN, hp, if_true]
    refine FCalls.pure (fcallsG (fz := true) G_ok (p := i35) rfl _ (Nat.le_of_ble_eq_true rfl) _ (fun C0 E0 => ?_)) rfl
    dsimp only [i35, argsφ]
    have uu := And.intro @noticeG.eq_1 (And.intro @noticeG.eq_2 (And.intro @tpartsG.eq_1 (And.intro @tpartsG.eq_2 (And.intro hp (And.intro @un_i2 (And.intro @rows2 (And.intro @tabCo8_r (And.intro @tabCo8_k (And.intro @tabCo8_q65 (And.intro @tabCo8_q68 (And.intro @tabCo8_t65 (@frzT.eq_1))))))))))))
    refine WI.seq ?_
    refine WI.regB tabCo8_ok [0, 2] ?_
    refine oG ?_
    refine oS ?_
    refine oN ?_
    refine thenQ_normal ?_
    refine WI.seq ?_
    refine WI.seq ?_
    refine WI.regB tabCo8_ok [0, 2, 4, 5] ?_
    refine oS ?_
    refine oG ?_
    refine oC ?_
    refine oS ?_
    iterate 2 refine oG ?_
    iterate 2 refine oS ?_
    refine oN ?_
    refine thenQ_normal ?_
    refine WI.seq ?_
    refine WI.regB tabCo8_ok [0, 2, 4, 19] ?_
    refine oS ?_
    refine oG ?_
    refine oN ?_
    refine thenQ_normal ?_
    refine WI.cond (b := _) rfl rfl (fun h0 => ?_) (fun h0 => ?_)
    · try simp only [zB] at h0
      refine WI.seq ?_
      refine WI.seq ?_
      refine WI.dregB tabCo8_ok [2, 6, 7] ?_
      refine dFS ?_
      iterate 2 refine dQG ?_
      refine dFS ?_
      iterate 2 refine dQG ?_
      refine dQC ?_
      refine dFS ?_
      iterate 2 refine dFG ?_
      refine dKG ?_
      refine dAG ?_
      refine dFS ?_
      refine dN ?_
      refine thenQ_normal ?_
      refine WI.seq ?_
      refine WI.regB tabCo8_ok [2, 6, 30] ?_
      refine oS ?_
      refine oN ?_
      refine thenQ_normal ?_
      refine WI.cond (b := _) rfl rfl (fun h1 => ?_) (fun h1 => ?_)
      · try simp only [zB] at h1
        refine WI.seq ?_
        refine WI.regB tabCo8_ok [2, 3] ?_
        iterate 2 refine oG ?_
        refine oS ?_
        refine oN ?_
        refine thenQ_normal ?_
        refine WI.ret ?_
        refine thenQ_ret ?_
        refine thenQ_ret ?_
        first | refine lfR ?_ | refine lfR2 ?_
        rw [hr, if_pos h1]; rfl -- leaf 0
      · try simp only [zB] at h1
        refine WI.skip ?_
        refine thenQ_normal ?_
        refine WI.seq ?_
        refine WI.regB tabCo8_ok [2, 3] ?_
        iterate 2 refine oG ?_
        refine oS ?_
        refine oN ?_
        refine thenQ_normal ?_
        refine WI.ret ?_
        refine thenQ_ret ?_
        first | refine lfR ?_ | refine lfR2 ?_
        rw [hr, if_neg (by simpa using h1)]; rfl -- leaf 1
    · exfalso
      simp at h0
  · obtain ⟨e1, hp, he1, he2, he3⟩ := prtB_err _ _ hp
    by_cases hq : (prtB s [10, 4, 2]).2 = 0
    · obtain ⟨a, b, c, hq, ha, hb, hc, _⟩ := prt3 hq
      have hal : a.length ≤ 65536 := ha.1.2.2
      have hbl : b.length ≤ 65536 := hb.1.2.2
      have hcl : c.length ≤ 65536 := hc.1.2.2
      have hr : rdN s = if b ≠ [] ∧ (noteB a b c).2 = true then ((noteB a b c).1, 0) else (noN, 5) := by simp only [rdN, hp, if_neg he1, hq, if_true]
      refine FCalls.pure (fcallsG (fz := true) G_ok (p := i35) rfl _ (Nat.le_of_ble_eq_true rfl) _ (fun C0 E0 => ?_)) rfl
      dsimp only [i35, argsφ]
      have uu := And.intro @noticeG.eq_1 (And.intro @noticeG.eq_2 (And.intro @tpartsG.eq_1 (And.intro @tpartsG.eq_2 (And.intro hp (And.intro hq (And.intro @un_i2 (And.intro @un_i3 (And.intro @rows3 (And.intro he2 (And.intro he3 (And.intro @tabCo8_r (And.intro @tabCo8_k (And.intro @tabCo8_q65 (And.intro @tabCo8_q68 (And.intro @tabCo8_t65 (@frzT.eq_1))))))))))))))))
      refine WI.seq ?_
      refine WI.regB tabCo8_ok [0, 2] ?_
      refine oG ?_
      refine oS ?_
      refine oN ?_
      refine thenQ_normal ?_
      refine WI.seq ?_
      refine WI.seq ?_
      refine WI.regB tabCo8_ok [0, 2, 4, 5] ?_
      refine oS ?_
      refine oG ?_
      refine oC ?_
      refine oS ?_
      iterate 2 refine oG ?_
      iterate 2 refine oS ?_
      refine oN ?_
      refine thenQ_normal ?_
      refine WI.seq ?_
      refine WI.regB tabCo8_ok [0, 2, 4, 19] ?_
      refine oS ?_
      refine oG ?_
      refine oN ?_
      refine thenQ_normal ?_
      refine WI.cond (b := _) rfl rfl (fun h0 => ?_) (fun h0 => ?_)
      · exfalso
        simp at h0
      · try simp only [zB] at h0
        refine WI.skip ?_
        refine thenQ_normal ?_
        refine WI.seq ?_
        refine WI.regB tabCo8_ok [2, 8, 9] ?_
        refine oS ?_
        refine oG ?_
        refine oC ?_
        refine oS ?_
        iterate 2 refine oG ?_
        iterate 2 refine oS ?_
        refine oN ?_
        refine thenQ_normal ?_
        refine WI.seq ?_
        refine WI.seq ?_
        refine WI.regB tabCo8_ok [2, 8, 46] ?_
        refine oS ?_
        refine oG ?_
        refine oS ?_
        iterate 5 refine oG ?_
        refine oN ?_
        refine thenQ_normal ?_
        refine WI.cond (b := _) rfl rfl (fun h2 => ?_) (fun h2 => ?_)
        · try simp only [zB] at h2
          refine WI.seq ?_
          refine WI.regB tabCo8_ok [2, 3] ?_
          iterate 2 refine oG ?_
          refine oS ?_
          refine oN ?_
          refine thenQ_normal ?_
          refine WI.ret ?_
          refine thenQ_ret ?_
          first | refine lfR ?_ | refine lfR2 ?_
          rw [hr, if_neg (by simp_all)]; rfl -- leaf 0
        · try simp only [zB] at h2
          refine WI.skip ?_
          refine thenQ_normal ?_
          refine WI.seq ?_
          refine WI.dregB tabCo8_ok [2, 10, 11] ?_
          refine dFS ?_
          iterate 2 refine dQG ?_
          refine dFS ?_
          iterate 2 refine dQG ?_
          refine dFS ?_
          iterate 2 refine dQG ?_
          refine dQC ?_
          refine dFS ?_
          iterate 2 refine dFG ?_
          refine dKG ?_
          refine dAG ?_
          refine dFS ?_
          refine dN ?_
          refine thenQ_normal ?_
          refine WI.seq ?_
          refine WI.seq ?_
          refine WI.regB tabCo8_ok [2, 10, 62] ?_
          refine oS ?_
          refine oG ?_
          refine oN ?_
          refine thenQ_normal ?_
          refine WI.cond (b := _) rfl rfl (fun h3 => ?_) (fun h3 => ?_)
          · try simp only [zB] at h3
            refine WI.seq ?_
            refine WI.regB tabCo8_ok [2, 3] ?_
            iterate 2 refine oG ?_
            refine oS ?_
            refine oN ?_
            refine thenQ_normal ?_
            refine WI.ret ?_
            refine thenQ_ret ?_
            first | refine lfR ?_ | refine lfR2 ?_
            rw [hr, if_neg (by simp_all)]; rfl -- leaf 1
          · try simp only [zB] at h3
            refine WI.skip ?_
            refine thenQ_normal ?_
            refine WI.seq ?_
            refine WI.regB tabCo8_ok [2, 3] ?_
            iterate 2 refine oG ?_
            refine oS ?_
            refine oN ?_
            refine thenQ_normal ?_
            refine WI.ret ?_
            first | refine lfR ?_ | refine lfR2 ?_
            rw [hr, if_pos (by simp_all)]; rfl -- leaf 2
    · obtain ⟨e4, hq, he4, he5, he6⟩ := prtB_err _ _ hq
      have hr : rdN s = (noN, 5) := by simp only [rdN, hp, if_neg he1, hq, if_neg he4]
      refine FCalls.pure (fcallsG (fz := true) G_ok (p := i35) rfl _ (Nat.le_of_ble_eq_true rfl) _ (fun C0 E0 => ?_)) rfl
      dsimp only [i35, argsφ]
      have uu := And.intro @noticeG.eq_1 (And.intro @noticeG.eq_2 (And.intro @tpartsG.eq_1 (And.intro @tpartsG.eq_2 (And.intro hp (And.intro hq (And.intro @un_i2 (And.intro @un_i3 (And.intro he2 (And.intro he3 (And.intro he5 (And.intro he6 (And.intro @tabCo8_r (And.intro @tabCo8_k (And.intro @tabCo8_q65 (And.intro @tabCo8_q68 (And.intro @tabCo8_t65 (@frzT.eq_1)))))))))))))))))
      refine WI.seq ?_
      refine WI.regB tabCo8_ok [0, 2] ?_
      refine oG ?_
      refine oS ?_
      refine oN ?_
      refine thenQ_normal ?_
      refine WI.seq ?_
      refine WI.seq ?_
      refine WI.regB tabCo8_ok [0, 2, 4, 5] ?_
      refine oS ?_
      refine oG ?_
      refine oC ?_
      refine oS ?_
      iterate 2 refine oG ?_
      iterate 2 refine oS ?_
      refine oN ?_
      refine thenQ_normal ?_
      refine WI.seq ?_
      refine WI.regB tabCo8_ok [0, 2, 4, 19] ?_
      refine oS ?_
      refine oG ?_
      refine oN ?_
      refine thenQ_normal ?_
      refine WI.cond (b := _) rfl rfl (fun h0 => ?_) (fun h0 => ?_)
      · exfalso
        simp at h0
      · try simp only [zB] at h0
        refine WI.skip ?_
        refine thenQ_normal ?_
        refine WI.seq ?_
        refine WI.regB tabCo8_ok [2, 8, 9] ?_
        refine oS ?_
        refine oG ?_
        refine oC ?_
        refine oS ?_
        iterate 2 refine oG ?_
        iterate 2 refine oS ?_
        refine oN ?_
        refine thenQ_normal ?_
        refine WI.seq ?_
        refine WI.seq ?_
        refine WI.regB tabCo8_ok [2, 8, 46] ?_
        refine oS ?_
        refine oG ?_
        refine oS ?_
        iterate 5 refine oG ?_
        refine oN ?_
        refine thenQ_normal ?_
        refine WI.cond (b := _) rfl rfl (fun h2 => ?_) (fun h2 => ?_)
        · try simp only [zB] at h2
          refine WI.seq ?_
          refine WI.regB tabCo8_ok [2, 3] ?_
          iterate 2 refine oG ?_
          refine oS ?_
          refine oN ?_
          refine thenQ_normal ?_
          refine WI.ret ?_
          refine thenQ_ret ?_
          first | refine lfR ?_ | refine lfR2 ?_
          rw [hr]; rfl -- leaf 0
        · exfalso
          simp_all
end Go.Proofs.Ytcffpndhodhncaa
end
section
/- Controls: the document's notices; whether a control may be; what is asked for. -/
set_option linter.unusedSimpArgs false
set_option linter.unusedVariables false
namespace Go.Proofs.Ytcffpndhodhncaa
open Go.RowKit Go.Bo Go.Ab

theorem putNR_c (n : Note) : PCalls Try.prog 30 [.agg [.x (.int .i64 n.1), .x (.str n.2.1), .x (.int .i64 n.2.2.1)]] (.tup [.x (.str (putN n).1), .x (.int .i64 (putN n).2)]) := by
  have g1 := pt_len (gT_mk (t := 10) (b := (nput n.1).1) rfl (by have := nput_len n.1; omega))
  have g2 := pt_len (gT_mk (t := 2) (b := (nput n.2.2.1).1) rfl (by have := nput_len n.2.2.1; omega))
  have g4 := nput_len n.1
  have g5 := nput_len n.2.2.1
  simp only at g1 g2
  refine FCalls.pure (fcallsG (fz := true) G_ok (p := i30) rfl _ (Nat.le_of_ble_eq_true rfl) _ (fun C0 E0 => ?_)) rfl
  dsimp only [i30, argsφ]
  have uu := And.intro @num18G.eq_1 (And.intro @num18G.eq_2 (And.intro @truth18G.eq_1 (And.intro @truth18G.eq_2 (And.intro @putRG.eq_1 (And.intro @putRG.eq_2 (And.intro @tabCo5_r (And.intro @tabCo5_k (And.intro @tabCo5_q43 (And.intro @tabCo5_q62 (@tabCo5_q63))))))))))
  refine WI.seq ?_
  refine WI.regB tabCo5_ok [1] ?_
  refine oG (hok := by first | with_reducible rfl | omega | (simp only [List.length_append, decide_eq_true_eq]; omega) | (simp; done) | (simp; omega) | rfl) ?_
  iterate 2 refine oS ?_
  refine oN ?_
  refine thenQ_normal ?_
  refine WI.seq ?_
  refine WI.block ?_
  refine WI.seq ?_
  refine WI.regB tabCo5_ok [1, 7] ?_
  refine oS ?_
  iterate 2 refine oG (hok := by first | with_reducible rfl | omega | (simp only [List.length_append, decide_eq_true_eq]; omega) | (simp; done) | (simp; omega) | rfl) ?_
  refine oS ?_
  iterate 4 refine oG (hok := by first | with_reducible rfl | omega | (simp only [List.length_append, decide_eq_true_eq]; omega) | (simp; done) | (simp; omega) | rfl) ?_
  refine oS ?_
  iterate 4 refine oG (hok := by first | with_reducible rfl | omega | (simp only [List.length_append, decide_eq_true_eq]; omega) | (simp; done) | (simp; omega) | rfl) ?_
  refine oS ?_
  iterate 4 refine oG (hok := by first | with_reducible rfl | omega | (simp only [List.length_append, decide_eq_true_eq]; omega) | (simp; done) | (simp; omega) | rfl) ?_
  refine oS ?_
  refine oN ?_
  refine thenQ_normal ?_
  refine WI.cond (b := _) rfl rfl (fun h0 => ?_) (fun h0 => ?_)
  · try simp only [zB] at h0
    refine WI.seq ?_
    refine WI.regB tabCo5_ok [2, 3] ?_
    iterate 2 refine oS ?_
    refine oN ?_
    refine thenQ_normal ?_
    refine WI.ret ?_
    refine blockQ_ret ?_
    refine thenQ_ret ?_
    first | refine lfR ?_ | refine lfR2 ?_
    unfold putN; rw [if_pos (by unfold knownB; omega)] -- leaf 0
  · try simp only [zB] at h0
    refine WI.seq ?_
    refine WI.regB tabCo5_ok [1, 26] ?_
    refine oS ?_
    iterate 3 refine oG (hok := by first | with_reducible rfl | omega | (simp only [List.length_append, decide_eq_true_eq]; omega) | (simp; done) | (simp; omega) | rfl) ?_
    refine oS ?_
    refine oN ?_
    refine thenQ_normal ?_
    refine WI.cond (b := _) rfl rfl (fun h1 => ?_) (fun h1 => ?_)
    · try simp only [zB] at h1
      refine WI.seq ?_
      refine WI.regB tabCo5_ok [2, 3] ?_
      iterate 2 refine oS ?_
      refine oN ?_
      refine thenQ_normal ?_
      refine WI.ret ?_
      refine blockQ_ret ?_
      refine thenQ_ret ?_
      first | refine lfR ?_ | refine lfR2 ?_
      unfold putN; rw [if_neg (by unfold knownB; omega), if_pos (by omega)] -- leaf 1
    · try simp only [zB] at h1
      refine WI.seq ?_
      refine WI.regB tabCo5_ok [1, 31] ?_
      refine oS ?_
      iterate 2 refine oG (hok := by first | with_reducible rfl | omega | (simp only [List.length_append, decide_eq_true_eq]; omega) | (simp; done) | (simp; omega) | rfl) ?_
      refine oS ?_
      iterate 4 refine oG (hok := by first | with_reducible rfl | omega | (simp only [List.length_append, decide_eq_true_eq]; omega) | (simp; done) | (simp; omega) | rfl) ?_
      refine oS ?_
      refine oN ?_
      refine thenQ_normal ?_
      refine WI.cond (b := _) rfl rfl (fun h2 => ?_) (fun h2 => ?_)
      · try simp only [zB] at h2
        refine WI.seq ?_
        refine WI.regB tabCo5_ok [2, 3] ?_
        iterate 2 refine oS ?_
        refine oN ?_
        refine thenQ_normal ?_
        refine WI.ret ?_
        refine blockQ_ret ?_
        refine thenQ_ret ?_
        first | refine lfR ?_ | refine lfR2 ?_
        unfold putN; rw [if_neg (by unfold knownB; omega), if_neg (by omega), if_pos (by omega)] -- leaf 2
      · try simp only [zB] at h2
        refine WI.skip ?_
        refine blockQ_normal ?_
        refine thenQ_normal ?_
        refine WI.seq ?_
        refine WI.regB tabCo5_ok [1, 4] ?_
        refine oS ?_
        refine oG (hok := by first | with_reducible rfl | omega | (simp only [List.length_append, decide_eq_true_eq]; omega) | (simp; done) | (simp; omega) | rfl) ?_
        refine oC (hok := by first | with_reducible rfl | omega | (simp only [List.length_append, decide_eq_true_eq]; omega) | (simp; done) | (simp; omega) | rfl) ?_
        refine oS ?_
        refine oN ?_
        refine thenQ_normal ?_
        refine WI.seq ?_
        refine WI.seq ?_
        have hok : okN n := ⟨by unfold knownB; omega, by omega, by omega, by omega⟩
        have g3 := pt_len (gT_mk (t := 4) (b := n.2.1) rfl (by omega))
        rw [pt_def] at g3
        simp only at g3
        refine WI.regB tabCo5_ok [1, 4, 45] ?_
        refine oS ?_
        iterate 2 refine oG (hok := by first | with_reducible rfl | omega | (simp only [List.length_append, decide_eq_true_eq]; omega) | (simp; done) | (simp; omega) | rfl) ?_
        refine oN ?_
        refine thenQ_normal ?_
        refine WI.cond (b := _) rfl rfl (fun h3 => ?_) (fun h3 => ?_)
        · try simp only [zB] at h3
          refine WI.seq ?_
          refine WI.regB tabCo5_ok [1, 4, 5] ?_
          refine oS ?_
          refine oG (hok := by first | with_reducible rfl | omega | (simp only [List.length_append, decide_eq_true_eq]; omega) | (simp; done) | (simp; omega) | rfl) ?_
          refine oC (hok := by first | with_reducible rfl | omega | (simp only [List.length_append, decide_eq_true_eq]; omega) | (simp; done) | (simp; omega) | rfl) ?_
          refine oS ?_
          iterate 2 refine oG (hok := by first | with_reducible rfl | omega | (simp only [List.length_append, decide_eq_true_eq]; omega) | (simp; done) | (simp; omega) | rfl) ?_
          iterate 2 refine oS ?_
          refine oN ?_
          refine thenQ_normal ?_
          refine WI.regB tabCo5_ok [1, 4] ?_
          iterate 2 refine oS ?_
          refine oG (hok := by first | with_reducible rfl | omega | (simp only [List.length_append, decide_eq_true_eq]; omega) | (simp; done) | (simp; omega) | rfl) ?_
          refine oS ?_
          refine oN ?_
          refine thenQ_normal ?_
          refine WI.seq ?_
          refine WI.regB tabCo5_ok [2, 3] ?_
          iterate 2 refine oS ?_
          refine oG (hok := by first | with_reducible rfl | omega | (simp only [List.length_append, decide_eq_true_eq]; omega) | (simp; done) | (simp; omega) | rfl) ?_
          refine oC (hok := by first | with_reducible rfl | omega | (simp only [List.length_append, decide_eq_true_eq]; omega) | (simp; done) | (simp; omega) | rfl) ?_
          refine oG (hok := by first | with_reducible rfl | omega | (simp only [List.length_append, decide_eq_true_eq]; omega) | (simp; done) | (simp; omega) | rfl) ?_
          refine oC (hok := by first | with_reducible rfl | omega | (simp only [List.length_append, decide_eq_true_eq]; omega) | (simp; done) | (simp; omega) | rfl) ?_
          iterate 2 refine oG (hok := by first | with_reducible rfl | omega | (simp only [List.length_append, decide_eq_true_eq]; omega) | (simp; done) | (simp; omega) | rfl) ?_
          iterate 2 refine oS ?_
          refine oN ?_
          refine thenQ_normal ?_
          refine WI.ret ?_
          first | refine lfR ?_ | refine lfR2 ?_
          rw [putN_ok hok]; unfold noteL; rw [if_neg h3]; simp [rowB, pt_def] -- leaf 3
        · try simp only [zB] at h3
          refine WI.skip ?_
          refine thenQ_normal ?_
          refine WI.seq ?_
          refine WI.regB tabCo5_ok [2, 3] ?_
          iterate 2 refine oS ?_
          refine oG (hok := by first | with_reducible rfl | omega | (simp only [List.length_append, decide_eq_true_eq]; omega) | (simp; done) | (simp; omega) | rfl) ?_
          refine oC (hok := by first | with_reducible rfl | omega | (simp only [List.length_append, decide_eq_true_eq]; omega) | (simp; done) | (simp; omega) | rfl) ?_
          refine oG (hok := by first | with_reducible rfl | omega | (simp only [List.length_append, decide_eq_true_eq]; omega) | (simp; done) | (simp; omega) | rfl) ?_
          refine oC (hok := by first | with_reducible rfl | omega | (simp only [List.length_append, decide_eq_true_eq]; omega) | (simp; done) | (simp; omega) | rfl) ?_
          iterate 2 refine oG (hok := by first | with_reducible rfl | omega | (simp only [List.length_append, decide_eq_true_eq]; omega) | (simp; done) | (simp; omega) | rfl) ?_
          iterate 2 refine oS ?_
          refine oN ?_
          refine thenQ_normal ?_
          refine WI.ret ?_
          first | refine lfR ?_ | refine lfR2 ?_
          rw [putN_ok hok]; unfold noteL; rw [if_pos h3]; simp [rowB] -- leaf 4
def putNoteRG : List D → Option (Bool × D)
  | [.agg [.x (.int .i64 a), .x (.str b), .x (.int .i64 c)]] => some (true, .tup [.x (.str (putN (a, b, c, ())).1), .x (.int .i64 (putN (a, b, c, ())).2)])
  | _ => none
theorem putNoteRG_ok : ∀ args r, putNoteRG args = some (true, r) → PCalls Try.prog 30 args r := by
  intro args r h
  unfold putNoteRG at h
  split at h
  · rename_i a b c
    simp only [Option.some.injEq, Prod.mk.injEq, Bool.and_eq_true, decide_eq_true_eq, true_and] at h
    obtain rfl := h
    exact putNR_c (a, b, c, ())
  · cases h
def tabCo9 : Tabs := addQ (addQ (addQ (addQ (noTabs) 48 readRG) 49 allRG) 50 nreadRG) 30 putNoteRG
theorem tabCo9_ok : SsOk Try.prog tabCo9 := addQ_ok (addQ_ok (addQ_ok (addQ_ok (noTabs_ok) (G_enters G_ok (p := i48) rfl) readRG_ok) (G_enters G_ok (p := i49) rfl) allRG_ok) (G_enters G_ok (p := i50) rfl) nreadRG_ok) (G_enters G_ok (p := i30) rfl) putNoteRG_ok
theorem tabCo9_q48 (a : List D) : tabCo9.q 48 a = readRG a := rfl
theorem tabCo9_q49 (a : List D) : tabCo9.q 49 a = allRG a := rfl
theorem tabCo9_q50 (a : List D) : tabCo9.q 50 a = nreadRG a := rfl
theorem tabCo9_q30 (a : List D) : tabCo9.q 30 a = putNoteRG a := rfl
theorem tabCo9_r (f : FuncId) (a : List D) (o : List Ob) : tabCo9.r f a o = none := rfl
theorem tabCo9_k (f : FuncId) (a : List D) (o : List Ob) : tabCo9.k f a o = none := rfl
theorem rdN_shape (s : List UInt8) (h : (rdN s).2 = 0) : (readB s).2.2 = 0 ∧ (readB s).2.1 = s.length ∧ allB (readB s).1.2.1 = (noteL (rdN s).1, 0) ∧ okN (rdN s).1 ∧ putN (rdN s).1 = (s, 0) := by
  obtain ⟨h1, h2⟩ := putN_rd s h
  have h3 := h2
  rw [putN_ok h1] at h3
  have hg := fun x hx => (noteL_g _ h1.2.1 x hx).1
  have hl := noteL_len (rdN s).1
  have hr := read_put 48 ((noteL (rdN s).1).map pt).flatten [] (by unfold rowB at h3; rw [h3])
  rw [List.append_nil] at hr
  unfold rowB at h3
  rw [h3] at hr
  simp only at hr
  rw [hr]
  exact ⟨rfl, rfl, allB_put _ hg (by omega), h1, h2⟩
theorem candN_hi (L : List Tlv) (h : 2 < L.length) (k : Nat) (hk : k = L.length - 1) (hk' : k < L.length) : candN L = ((nread L[0].2.1).1, L[1].2.1, (nread L[k].2.1).1, ()) := by
  subst hk
  unfold candN
  match L, h with
  | x :: y :: z :: r, h =>
    rw [if_pos h]
    simp only [List.headD_cons, List.getElem_cons_zero, List.getElem_cons_succ, List.getD_cons_succ, List.getD_cons_zero]
    first | rfl | (rw [List.getD_eq_getElem?_getD, List.getElem?_eq_getElem hk', Option.getD_some])
theorem candN_lo (L : List Tlv) (h : ¬ 2 < L.length) (h0 : 2 ≤ L.length) (k : Nat) (hk : k = L.length - 1) (hk' : k < L.length) : candN L = ((nread L[0].2.1).1, [], (nread L[k].2.1).1, ()) := by
  subst hk
  unfold candN
  match L, h, h0 with
  | [x, y], _, _ => rfl
  | x :: y :: z :: r, h, _ => simp at h
theorem body_len (s : List UInt8) (hs : s.length ≤ 9223372036854775807) : (readB s).1.2.1.length ≤ 9223372036854775807 := by
  by_cases h : (readB s).2.2 = 0
  · have := (readB_okT s h).2.2; omega
  · unfold readB at h ⊢
    split
    · rename_i h0
      rw [if_pos h0] at h
      split
      · simp
      · rename_i h1; rw [if_neg h1] at h; exact absurd rfl h
    · simp
theorem rdNR_c (s : List UInt8) (hs : s.length ≤ 9223372036854775807) : PCalls Try.prog 36 [.x (.str s)] (noteD (rdN s)) := by
  have hr := readB_okT s
  have hr2 := readB_ok s
  have hsh := rdN_shape s
  have ha := allB_okT (readB s).1.2.1
  have hb := body_len s hs
  refine FCalls.pure (fcallsG (fz := true) G_ok (p := i36) rfl _ (Nat.le_of_ble_eq_true rfl) _ (fun C0 E0 => ?_)) rfl
  dsimp only [i36, argsφ]
  have uu := And.intro @readRG.eq_1 (And.intro @readRG.eq_2 (And.intro @readD.eq_1 (And.intro @allRG.eq_1 (And.intro @allRG.eq_2 (And.intro @nreadRG.eq_1 (And.intro @nreadRG.eq_2 (And.intro @putNoteRG.eq_1 (And.intro @putNoteRG.eq_2 (And.intro @tabCo9_r (And.intro @tabCo9_k (And.intro @tabCo9_q30 (And.intro @tabCo9_q48 (And.intro @tabCo9_q49 (@tabCo9_q50))))))))))))))
  refine WI.seq ?_
  refine WI.regB tabCo9_ok [0, 2] ?_
  refine oG (hok := by first | with_reducible rfl | omega | (simp only [Bool.and_eq_true, decide_eq_true_eq]; exact ⟨by omega, rfl⟩) | (exact decide_eq_true (Nat.le_trans (hgl _ _) (by decide))) | (simp; done) | (simp; omega) | rfl) ?_
  refine oS ?_
  refine oN ?_
  refine thenQ_normal ?_
  refine WI.seq ?_
  refine WI.regB tabCo9_ok [0, 2, 4, 5, 6] ?_
  refine oS ?_
  refine oC (hok := by first | with_reducible rfl | omega | (simp only [Bool.and_eq_true, decide_eq_true_eq]; exact ⟨by omega, rfl⟩) | (exact decide_eq_true (Nat.le_trans (hgl _ _) (by decide))) | (simp; done) | (simp; omega) | rfl) ?_
  refine oS ?_
  iterate 5 refine oG (hok := by first | with_reducible rfl | omega | (simp only [Bool.and_eq_true, decide_eq_true_eq]; exact ⟨by omega, rfl⟩) | (exact decide_eq_true (Nat.le_trans (hgl _ _) (by decide))) | (simp; done) | (simp; omega) | rfl) ?_
  iterate 2 refine oS ?_
  refine oN ?_
  refine thenQ_normal ?_
  refine WI.seq ?_
  refine WI.regB tabCo9_ok [0, 2, 5, 6, 7, 8] ?_
  refine oS ?_
  refine oG (hok := by first | with_reducible rfl | omega | (simp only [Bool.and_eq_true, decide_eq_true_eq]; exact ⟨by omega, rfl⟩) | (exact decide_eq_true (Nat.le_trans (hgl _ _) (by decide))) | (simp; done) | (simp; omega) | rfl) ?_
  refine oC (hok := by first | with_reducible rfl | omega | (simp only [Bool.and_eq_true, decide_eq_true_eq]; exact ⟨by omega, rfl⟩) | (exact decide_eq_true (Nat.le_trans (hgl _ _) (by decide))) | (simp; done) | (simp; omega) | rfl) ?_
  refine oS ?_
  iterate 2 refine oG (hok := by first | with_reducible rfl | omega | (simp only [Bool.and_eq_true, decide_eq_true_eq]; exact ⟨by omega, rfl⟩) | (exact decide_eq_true (Nat.le_trans (hgl _ _) (by decide))) | (simp; done) | (simp; omega) | rfl) ?_
  iterate 2 refine oS ?_
  refine oN ?_
  refine thenQ_normal ?_
  refine WI.seq ?_
  refine WI.seq ?_
  refine WI.regB tabCo9_ok [0, 2, 7, 44] ?_
  refine oS ?_
  refine oG (hok := by first | with_reducible rfl | omega | (simp only [Bool.and_eq_true, decide_eq_true_eq]; exact ⟨by omega, rfl⟩) | (exact decide_eq_true (Nat.le_trans (hgl _ _) (by decide))) | (simp; done) | (simp; omega) | rfl) ?_
  refine oS ?_
  iterate 5 refine oG (hok := by first | with_reducible rfl | omega | (simp only [Bool.and_eq_true, decide_eq_true_eq]; exact ⟨by omega, rfl⟩) | (exact decide_eq_true (Nat.le_trans (hgl _ _) (by decide))) | (simp; done) | (simp; omega) | rfl) ?_
  refine oS ?_
  iterate 3 refine oG (hok := by first | with_reducible rfl | omega | (simp only [Bool.and_eq_true, decide_eq_true_eq]; exact ⟨by omega, rfl⟩) | (exact decide_eq_true (Nat.le_trans (hgl _ _) (by decide))) | (simp; done) | (simp; omega) | rfl) ?_
  refine oS ?_
  iterate 4 refine oG (hok := by first | with_reducible rfl | omega | (simp only [Bool.and_eq_true, decide_eq_true_eq]; exact ⟨by omega, rfl⟩) | (exact decide_eq_true (Nat.le_trans (hgl _ _) (by decide))) | (simp; done) | (simp; omega) | rfl) ?_
  refine oN ?_
  refine thenQ_normal ?_
  refine WI.cond (b := _) rfl rfl (fun h0 => ?_) (fun h0 => ?_)
  · try simp only [zB] at h0
    refine WI.seq ?_
    refine WI.regB tabCo9_ok [2, 3] ?_
    iterate 2 refine oG (hok := by first | with_reducible rfl | omega | (simp only [Bool.and_eq_true, decide_eq_true_eq]; exact ⟨by omega, rfl⟩) | (exact decide_eq_true (Nat.le_trans (hgl _ _) (by decide))) | (simp; done) | (simp; omega) | rfl) ?_
    refine oS ?_
    refine oN ?_
    refine thenQ_normal ?_
    refine WI.ret ?_
    refine thenQ_ret ?_
    first | refine lfR ?_ | refine lfR2 ?_
    rw [rdN_err s (fun h => by
      obtain ⟨a1, a2, a3, a4, _⟩ := hsh h
      rw [a3] at h0
      have := (candN_note a4).2
      simp only at h0
      rcases h0 with ((h0 | h0) | h0) | h0
      · exact h0 a1
      · omega
      · exact h0 trivial
      · omega)]; rfl -- leaf 0
  · try simp only [zB] at h0
    refine WI.skip ?_
    refine thenQ_normal ?_
    refine WI.seq ?_
    obtain ⟨L, hL⟩ : ∃ L, (allB (readB s).1.2.1).1 = L := ⟨_, rfl⟩
    have hno : (rdN s).2 = 0 → putN (candN L) = (s, 0) := fun h => by
      obtain ⟨a1, a2, a3, a4, a5⟩ := hsh h
      rw [a3] at hL
      rw [← hL, (candN_note a4).1]; exact a5
    clear hsh
    simp only [hL] at ha h0
    rw [hL]
    have hgl : ∀ (i : Nat) (h : i < L.length), L[i].2.1.length ≤ 65536 := fun i h => (ha.2 _ (List.getElem_mem h)).1.2.2
    have hl2 : 2 ≤ L.length := by omega
    have hg0 := hgl 0 (by omega)
    have hgk := hgl ((L.length : Int) - 1).toNat (by omega)
    refine WI.regB tabCo9_ok [0, 2, 7, 9] ?_
    refine oS ?_
    refine oG (hok := by first | with_reducible rfl | omega | (simp only [Bool.and_eq_true, decide_eq_true_eq]; exact ⟨by omega, rfl⟩) | (exact decide_eq_true (Nat.le_trans (hgl _ _) (by decide))) | (simp; done) | (simp; omega) | rfl) ?_
    refine oS ?_
    refine oG (hok := by first | with_reducible rfl | omega | (simp only [Bool.and_eq_true, decide_eq_true_eq]; exact ⟨by omega, rfl⟩) | (exact decide_eq_true (Nat.le_trans (hgl _ _) (by decide))) | (simp; done) | (simp; omega) | rfl) ?_
    refine oC (hok := by first | with_reducible rfl | omega | (simp only [Bool.and_eq_true, decide_eq_true_eq]; exact ⟨by omega, rfl⟩) | (exact decide_eq_true (Nat.le_trans (hgl _ _) (by decide))) | (simp; done) | (simp; omega) | rfl) ?_
    refine oS ?_
    iterate 2 refine oG (hok := by first | with_reducible rfl | omega | (simp only [Bool.and_eq_true, decide_eq_true_eq]; exact ⟨by omega, rfl⟩) | (exact decide_eq_true (Nat.le_trans (hgl _ _) (by decide))) | (simp; done) | (simp; omega) | rfl) ?_
    iterate 2 refine oS ?_
    refine oN ?_
    refine thenQ_normal ?_
    refine WI.seq ?_
    refine WI.regB tabCo9_ok [0, 2, 7, 9, 11] ?_
    iterate 2 refine oS ?_
    iterate 3 refine oG (hok := by first | with_reducible rfl | omega | (simp only [Bool.and_eq_true, decide_eq_true_eq]; exact ⟨by omega, rfl⟩) | (exact decide_eq_true (Nat.le_trans (hgl _ _) (by decide))) | (simp; done) | (simp; omega) | rfl) ?_
    refine oS ?_
    refine oG (hok := by first | with_reducible rfl | omega | (simp only [Bool.and_eq_true, decide_eq_true_eq]; exact ⟨by omega, rfl⟩) | (exact decide_eq_true (Nat.le_trans (hgl _ _) (by decide))) | (simp; done) | (simp; omega) | rfl) ?_
    refine oC (hok := by first | with_reducible rfl | omega | (simp only [Bool.and_eq_true, decide_eq_true_eq]; exact ⟨by omega, rfl⟩) | (exact decide_eq_true (Nat.le_trans (hgl _ _) (by decide))) | (simp; done) | (simp; omega) | rfl) ?_
    refine oS ?_
    iterate 2 refine oG (hok := by first | with_reducible rfl | omega | (simp only [Bool.and_eq_true, decide_eq_true_eq]; exact ⟨by omega, rfl⟩) | (exact decide_eq_true (Nat.le_trans (hgl _ _) (by decide))) | (simp; done) | (simp; omega) | rfl) ?_
    iterate 2 refine oS ?_
    refine oN ?_
    refine thenQ_normal ?_
    refine WI.seq ?_
    refine WI.regB tabCo9_ok [0, 2, 7, 13] ?_
    iterate 2 refine oS ?_
    iterate 3 refine oG (hok := by first | with_reducible rfl | omega | (simp only [Bool.and_eq_true, decide_eq_true_eq]; exact ⟨by omega, rfl⟩) | (exact decide_eq_true (Nat.le_trans (hgl _ _) (by decide))) | (simp; done) | (simp; omega) | rfl) ?_
    refine oN ?_
    refine thenQ_normal ?_
    refine WI.seq ?_
    refine WI.seq ?_
    refine WI.regB tabCo9_ok [0, 2, 7, 13, 70] ?_
    refine oS ?_
    iterate 2 refine oG (hok := by first | with_reducible rfl | omega | (simp only [Bool.and_eq_true, decide_eq_true_eq]; exact ⟨by omega, rfl⟩) | (exact decide_eq_true (Nat.le_trans (hgl _ _) (by decide))) | (simp; done) | (simp; omega) | rfl) ?_
    refine oN ?_
    refine thenQ_normal ?_
    refine WI.cond (b := _) rfl rfl (fun h1 => ?_) (fun h1 => ?_)
    · try simp only [zB] at h1
      have hx := candN_hi L (by omega) ((L.length : Int) - 1).toNat (by omega) (by omega)
      refine WI.regB tabCo9_ok [0, 2, 13] ?_
      refine oS ?_
      refine oG (hok := by first | with_reducible rfl | omega | (simp only [Bool.and_eq_true, decide_eq_true_eq]; exact ⟨by omega, rfl⟩) | (exact decide_eq_true (Nat.le_trans (hgl _ _) (by decide))) | (simp; done) | (simp; omega) | rfl) ?_
      refine oS ?_
      refine oG (hok := by first | with_reducible rfl | omega | (simp only [Bool.and_eq_true, decide_eq_true_eq]; exact ⟨by omega, rfl⟩) | (exact decide_eq_true (Nat.le_trans (hgl _ _) (by decide))) | (simp; done) | (simp; omega) | rfl) ?_
      refine oS ?_
      refine oG (hok := by first | with_reducible rfl | omega | (simp only [Bool.and_eq_true, decide_eq_true_eq]; exact ⟨by omega, rfl⟩) | (exact decide_eq_true (Nat.le_trans (hgl _ _) (by decide))) | (simp; done) | (simp; omega) | rfl) ?_
      refine oN ?_
      refine thenQ_normal ?_
      refine WI.seq ?_
      refine WI.seq ?_
      refine WI.regB tabCo9_ok [0, 2, 13, 14, 15] ?_
      refine oG (hok := by first | with_reducible rfl | omega | (simp only [Bool.and_eq_true, decide_eq_true_eq]; exact ⟨by omega, rfl⟩) | (exact decide_eq_true (Nat.le_trans (hgl _ _) (by decide))) | (simp; done) | (simp; omega) | rfl) ?_
      refine oC (hok := by first | with_reducible rfl | omega | (simp only [Bool.and_eq_true, decide_eq_true_eq]; exact ⟨by omega, rfl⟩) | (exact decide_eq_true (Nat.le_trans (hgl _ _) (by decide))) | (simp; done) | (simp; omega) | rfl) ?_
      refine oS ?_
      iterate 2 refine oG (hok := by first | with_reducible rfl | omega | (simp only [Bool.and_eq_true, decide_eq_true_eq]; exact ⟨by omega, rfl⟩) | (exact decide_eq_true (Nat.le_trans (hgl _ _) (by decide))) | (simp; done) | (simp; omega) | rfl) ?_
      iterate 2 refine oS ?_
      refine oN ?_
      refine thenQ_normal ?_
      refine WI.seq ?_
      refine WI.regB tabCo9_ok [2, 13, 87] ?_
      refine oS ?_
      refine oG (hok := by first | with_reducible rfl | omega | (simp only [Bool.and_eq_true, decide_eq_true_eq]; exact ⟨by omega, rfl⟩) | (exact decide_eq_true (Nat.le_trans (hgl _ _) (by decide))) | (simp; done) | (simp; omega) | rfl) ?_
      refine oS ?_
      iterate 4 refine oG (hok := by first | with_reducible rfl | omega | (simp only [Bool.and_eq_true, decide_eq_true_eq]; exact ⟨by omega, rfl⟩) | (exact decide_eq_true (Nat.le_trans (hgl _ _) (by decide))) | (simp; done) | (simp; omega) | rfl) ?_
      refine oN ?_
      refine thenQ_normal ?_
      refine WI.cond (b := _) rfl rfl (fun h2 => ?_) (fun h2 => ?_)
      · try simp only [zB] at h2
        refine WI.seq ?_
        refine WI.regB tabCo9_ok [2, 3] ?_
        iterate 2 refine oG (hok := by first | with_reducible rfl | omega | (simp only [Bool.and_eq_true, decide_eq_true_eq]; exact ⟨by omega, rfl⟩) | (exact decide_eq_true (Nat.le_trans (hgl _ _) (by decide))) | (simp; done) | (simp; omega) | rfl) ?_
        refine oS ?_
        refine oN ?_
        refine thenQ_normal ?_
        refine WI.ret ?_
        refine thenQ_ret ?_
        first | refine lfR ?_ | refine lfR2 ?_
        rw [← hx] at h2
        rw [rdN_err s (fun h => by rw [hno h] at h2; simp at h2)]; rfl -- leaf 1
      · try simp only [zB] at h2
        refine WI.skip ?_
        refine thenQ_normal ?_
        refine WI.seq ?_
        refine WI.regB tabCo9_ok [2, 3] ?_
        iterate 2 refine oG (hok := by first | with_reducible rfl | omega | (simp only [Bool.and_eq_true, decide_eq_true_eq]; exact ⟨by omega, rfl⟩) | (exact decide_eq_true (Nat.le_trans (hgl _ _) (by decide))) | (simp; done) | (simp; omega) | rfl) ?_
        refine oS ?_
        refine oN ?_
        refine thenQ_normal ?_
        refine WI.ret ?_
        first | refine lfR ?_ | refine lfR2 ?_
        rw [← hx] at h2
        rw [rdN_put (candN L) s (Prod.ext h2.2 h2.1), hx]; rfl -- leaf 2
    · try simp only [zB] at h1
      refine WI.skip ?_
      refine thenQ_normal ?_
      refine WI.seq ?_
      refine WI.seq ?_
      refine WI.regB tabCo9_ok [0, 2, 13, 14, 15] ?_
      refine oG (hok := by first | with_reducible rfl | omega | (simp only [Bool.and_eq_true, decide_eq_true_eq]; exact ⟨by omega, rfl⟩) | (exact decide_eq_true (Nat.le_trans (hgl _ _) (by decide))) | (simp; done) | (simp; omega) | rfl) ?_
      refine oC (hok := by first | with_reducible rfl | omega | (simp only [Bool.and_eq_true, decide_eq_true_eq]; exact ⟨by omega, rfl⟩) | (exact decide_eq_true (Nat.le_trans (hgl _ _) (by decide))) | (simp; done) | (simp; omega) | rfl) ?_
      refine oS ?_
      iterate 2 refine oG (hok := by first | with_reducible rfl | omega | (simp only [Bool.and_eq_true, decide_eq_true_eq]; exact ⟨by omega, rfl⟩) | (exact decide_eq_true (Nat.le_trans (hgl _ _) (by decide))) | (simp; done) | (simp; omega) | rfl) ?_
      iterate 2 refine oS ?_
      refine oN ?_
      refine thenQ_normal ?_
      refine WI.seq ?_
      refine WI.regB tabCo9_ok [2, 13, 87] ?_
      refine oS ?_
      refine oG (hok := by first | with_reducible rfl | omega | (simp only [Bool.and_eq_true, decide_eq_true_eq]; exact ⟨by omega, rfl⟩) | (exact decide_eq_true (Nat.le_trans (hgl _ _) (by decide))) | (simp; done) | (simp; omega) | rfl) ?_
      refine oS ?_
      iterate 4 refine oG (hok := by first | with_reducible rfl | omega | (simp only [Bool.and_eq_true, decide_eq_true_eq]; exact ⟨by omega, rfl⟩) | (exact decide_eq_true (Nat.le_trans (hgl _ _) (by decide))) | (simp; done) | (simp; omega) | rfl) ?_
      refine oN ?_
      refine thenQ_normal ?_
      refine WI.cond (b := _) rfl rfl (fun h2 => ?_) (fun h2 => ?_)
      · try simp only [zB] at h2
        refine WI.seq ?_
        refine WI.regB tabCo9_ok [2, 3] ?_
        iterate 2 refine oG (hok := by first | with_reducible rfl | omega | (simp only [Bool.and_eq_true, decide_eq_true_eq]; exact ⟨by omega, rfl⟩) | (exact decide_eq_true (Nat.le_trans (hgl _ _) (by decide))) | (simp; done) | (simp; omega) | rfl) ?_
        refine oS ?_
        refine oN ?_
        refine thenQ_normal ?_
        refine WI.ret ?_
        refine thenQ_ret ?_
        first | refine lfR ?_ | refine lfR2 ?_
        have hx := candN_lo L (by omega) hl2 ((L.length : Int) - 1).toNat (by omega) (by omega)
        rw [← hx] at h2
        rw [rdN_err s (fun h => by rw [hno h] at h2; simp at h2)]; rfl -- leaf 3
      · try simp only [zB] at h2
        refine WI.skip ?_
        refine thenQ_normal ?_
        refine WI.seq ?_
        refine WI.regB tabCo9_ok [2, 3] ?_
        iterate 2 refine oG (hok := by first | with_reducible rfl | omega | (simp only [Bool.and_eq_true, decide_eq_true_eq]; exact ⟨by omega, rfl⟩) | (exact decide_eq_true (Nat.le_trans (hgl _ _) (by decide))) | (simp; done) | (simp; omega) | rfl) ?_
        refine oS ?_
        refine oN ?_
        refine thenQ_normal ?_
        refine WI.ret ?_
        first | refine lfR ?_ | refine lfR2 ?_
        have hx := candN_lo L (by omega) hl2 ((L.length : Int) - 1).toNat (by omega) (by omega)
        rw [← hx] at h2
        rw [rdN_put (candN L) s (Prod.ext h2.2 h2.1), hx]; rfl -- leaf 4
def rdNoteG : List D → Option (Bool × D)
  | [.x (.str s)] => some (decide (s.length ≤ 9223372036854775807), noteD (rdN s))
  | _ => none
theorem rdNoteG_ok : ∀ args r, rdNoteG args = some (true, r) → PCalls Try.prog 35 args r := by
  intro args r h
  unfold rdNoteG at h
  split at h
  · rename_i s
    simp only [Option.some.injEq, Prod.mk.injEq, Bool.and_eq_true, decide_eq_true_eq, true_and] at h
    obtain ⟨h1, rfl⟩ := h
    exact rdN_c s h1
  · cases h
def rdNoteRG : List D → Option (Bool × D)
  | [.x (.str s)] => some (decide (s.length ≤ 9223372036854775807), noteD (rdN s))
  | _ => none
theorem rdNoteRG_ok : ∀ args r, rdNoteRG args = some (true, r) → PCalls Try.prog 36 args r := by
  intro args r h
  unfold rdNoteRG at h
  split at h
  · rename_i s
    simp only [Option.some.injEq, Prod.mk.injEq, Bool.and_eq_true, decide_eq_true_eq, true_and] at h
    obtain ⟨h1, rfl⟩ := h
    exact rdNR_c s h1
  · cases h
def dig (c : UInt8) : Bool := (decide (48 ≤ c.toNat) && decide (c.toNat ≤ 57)) || decide (c.toNat = 46)
def okO (o : List UInt8) : Bool := (decide (o ≠ []) && decide (o.length ≤ 64)) && o.all dig
def chkC (o v : List UInt8) : Int := if okO o = true then if 1024 < v.length then 3 else 0 else 13
theorem dig_int (c : UInt8) : ((decide ((c.toNat : Int) ≥ 48) && decide ((c.toNat : Int) ≤ 57)) || ((c.toNat : Int) == 46)) = dig c := by
  unfold dig
  rw [Bool.eq_iff_iff]
  simp only [Bool.or_eq_true, Bool.and_eq_true, decide_eq_true_eq, beq_iff_eq]
  omega
theorem all_succ (o : List UInt8) (j : Nat) (h : j < o.length) : (o.take (j + 1)).all dig = ((o.take j).all dig && dig o[j]) := by
  rw [← List.take_append_getElem h, List.all_append]
  simp
theorem checkC_c (o : List UInt8) (b : Bool) (v : List UInt8) (h : o.length ≤ 1099511627776 ∧ v.length ≤ 9223372036854775807) : PCalls Try.prog 31 [.agg [.x (.str o), .x (.bool b), .x (.str v)]] (.x (.int .i64 (chkC o v))) := by
  refine FCalls.pure (fcallsG (fz := true) G_ok (p := i31) rfl _ (Nat.le_of_ble_eq_true rfl) _ (fun C0 E0 => ?_)) rfl
  dsimp only [i31, argsφ]
  have uu := trivial
  refine WI.seq ?_
  refine WI.regB noTabs_ok [1] ?_
  refine oG (hok := by first | with_reducible rfl | omega | (cases ok <;> simp <;> omega) | (simp; done) | (simp; omega) | rfl) ?_
  refine oS ?_
  refine oN ?_
  refine thenQ_normal ?_
  refine WI.seq ?_
  refine WI.regB noTabs_ok [1, 3] ?_
  refine oS ?_
  iterate 2 refine oG (hok := by first | with_reducible rfl | omega | (cases ok <;> simp <;> omega) | (simp; done) | (simp; omega) | rfl) ?_
  refine oS ?_
  iterate 5 refine oG (hok := by first | with_reducible rfl | omega | (cases ok <;> simp <;> omega) | (simp; done) | (simp; omega) | rfl) ?_
  refine oS ?_
  refine oN ?_
  refine thenQ_normal ?_
  refine WI.seq ?_
  refine WI.seq ?_
  refine WI.regB noTabs_ok [1, 3, 17, 18, 19] ?_
  refine oS ?_
  iterate 3 refine oG (hok := by first | with_reducible rfl | omega | (cases ok <;> simp <;> omega) | (simp; done) | (simp; omega) | rfl) ?_
  refine oS ?_
  refine oN ?_
  refine thenQ_normal ?_
  refine WI.block ?_
  refine WI.loop (fun φ os => ∃ (j : Nat) (ok : Bool), φ = [(1, .ptr 0 0), (3, .x (.bool ok)), (17, .ref 1 o.length 0 o.length), (18, .x (.int .i64 o.length)), (19, .x (.int .i64 j))] ∧ os = [.box [.x (.str o), .x (.bool b), .x (.str v)], .rows true 5 1 (o.map byteRow)] ∧ j ≤ o.length ∧ ok = ((decide (o ≠ []) && decide (o.length ≤ 64)) && (o.take j).all dig)) (down o.length 19) ?_ (fun φ os hI => ?_)
  · exact ⟨0, _, rfl, rfl, by omega, by rw [Bool.eq_iff_iff]; cases o <;> simp <;> omega⟩
  · obtain ⟨j, ok, rfl, rfl, hj, hok⟩ := hI
    refine WI.seq ?_
    refine WI.regB noTabs_ok [1, 3, 17, 18, 19, 20] ?_
    refine oG (hok := by first | with_reducible rfl | omega | (cases ok <;> simp <;> omega) | (simp; done) | (simp; omega) | rfl) ?_
    refine oN ?_
    refine thenQ_normal ?_
    refine WI.seq ?_
    refine WI.cond (b := _) rfl rfl (fun h0 => ?_) (fun h0 => ?_)
    · try simp only [zB] at h0
      refine WI.skip ?_
      refine thenQ_normal ?_
      refine WI.seq ?_
      refine WI.block ?_
      refine WI.seq ?_
      refine WI.regB noTabs_ok [1, 3, 5, 17, 18, 19] ?_
      iterate 2 refine oG (hok := by first | with_reducible rfl | omega | (cases ok <;> simp <;> omega) | (simp; done) | (simp; omega) | rfl) ?_
      refine oS ?_
      refine oN ?_
      refine thenQ_normal ?_
      refine WI.regB noTabs_ok [1, 3, 17, 18, 19] ?_
      iterate 2 refine oS ?_
      iterate 11 refine oG (hok := by first | with_reducible rfl | omega | (cases ok <;> simp <;> omega) | (simp; done) | (simp; omega) | rfl) ?_
      refine oS ?_
      refine oN ?_
      refine blockQ_normal ?_
      refine thenQ_normal ?_
      refine WI.regB noTabs_ok [1, 3, 17, 18, 19] ?_
      refine oG (hok := by first | with_reducible rfl | omega | (cases ok <;> simp <;> omega) | (simp; done) | (simp; omega) | rfl) ?_
      refine oS ?_
      refine oN ?_
      refine thenQ_normal ?_
      exact ⟨⟨j + 1, (ok && ((decide (((o[j]'(by omega)).toNat : Int) ≥ 48) && decide (((o[j]'(by omega)).toNat : Int) ≤ 57)) || (((o[j]'(by omega)).toNat : Int) == 46))), by simp, rfl, by omega, by rw [dig_int, hok, all_succ o j (by omega), Bool.and_assoc]⟩, by simp [down, Ab.get, D.val, intOf?]; omega⟩
    · try simp only [zB] at h0
      refine WI.exit ?_
      refine thenQ_exit ?_
      refine thenQ_exit ?_
      refine blockQ_hit ?_
      refine thenQ_normal ?_
      refine WI.seq ?_
      refine WI.block ?_
      refine WI.seq ?_
      have hok' : okO o = ok := by rw [hok, List.take_of_length_le (by omega)]; rfl
      refine WI.regB noTabs_ok [1, 37] ?_
      refine oS ?_
      refine oG (hok := by first | with_reducible rfl | omega | (cases ok <;> simp <;> omega) | (simp; done) | (simp; omega) | rfl) ?_
      refine oS ?_
      refine oN ?_
      refine thenQ_normal ?_
      refine WI.cond (b := _) rfl rfl (fun h1 => ?_) (fun h1 => ?_)
      · try simp only [zB] at h1
        refine WI.seq ?_
        refine WI.regB noTabs_ok [2] ?_
        refine oS ?_
        refine oN ?_
        refine thenQ_normal ?_
        refine WI.ret ?_
        refine blockQ_ret ?_
        refine thenQ_ret ?_
        first | refine lfR ?_ | refine lfR2 ?_
        rw [chkC, if_neg (by rw [hok']; simpa using h1)] -- leaf 0
      · try simp only [zB] at h1
        refine WI.seq ?_
        refine WI.regB noTabs_ok [40] ?_
        refine oS ?_
        iterate 3 refine oG (hok := by first | with_reducible rfl | omega | (cases ok <;> simp <;> omega) | (simp; done) | (simp; omega) | rfl) ?_
        refine oS ?_
        refine oN ?_
        refine thenQ_normal ?_
        refine WI.cond (b := _) rfl rfl (fun h2 => ?_) (fun h2 => ?_)
        · try simp only [zB] at h2
          refine WI.seq ?_
          refine WI.regB noTabs_ok [2] ?_
          refine oS ?_
          refine oN ?_
          refine thenQ_normal ?_
          refine WI.ret ?_
          refine blockQ_ret ?_
          refine thenQ_ret ?_
          first | refine lfR ?_ | refine lfR2 ?_
          rw [chkC, if_pos (by rw [hok']; simpa using h1), if_pos (by omega)] -- leaf 1
        · try simp only [zB] at h2
          refine WI.skip ?_
          refine blockQ_normal ?_
          refine thenQ_normal ?_
          refine WI.seq ?_
          refine WI.regB noTabs_ok [2] ?_
          refine oS ?_
          refine oN ?_
          refine thenQ_normal ?_
          refine WI.ret ?_
          first | refine lfR ?_ | refine lfR2 ?_
          rw [chkC, if_pos (by rw [hok']; simpa using h1), if_neg (by omega)] -- leaf 2
theorem checkCR_c (o : List UInt8) (b : Bool) (v : List UInt8) (h : o.length ≤ 1099511627776 ∧ v.length ≤ 9223372036854775807) : PCalls Try.prog 32 [.agg [.x (.str o), .x (.bool b), .x (.str v)]] (.x (.int .i64 (chkC o v))) := by
  refine FCalls.pure (fcallsG (fz := true) G_ok (p := i32) rfl _ (Nat.le_of_ble_eq_true rfl) _ (fun C0 E0 => ?_)) rfl
  dsimp only [i32, argsφ]
  have uu := trivial
  refine WI.seq ?_
  refine WI.regB noTabs_ok [1] ?_
  refine oG (hok := by first | with_reducible rfl | omega | (cases ok <;> simp <;> omega) | (simp; done) | (simp; omega) | rfl) ?_
  refine oS ?_
  refine oN ?_
  refine thenQ_normal ?_
  refine WI.seq ?_
  refine WI.regB noTabs_ok [1, 3] ?_
  refine oS ?_
  iterate 3 refine oG (hok := by first | with_reducible rfl | omega | (cases ok <;> simp <;> omega) | (simp; done) | (simp; omega) | rfl) ?_
  refine oS ?_
  iterate 5 refine oG (hok := by first | with_reducible rfl | omega | (cases ok <;> simp <;> omega) | (simp; done) | (simp; omega) | rfl) ?_
  refine oS ?_
  refine oN ?_
  refine thenQ_normal ?_
  refine WI.seq ?_
  refine WI.seq ?_
  refine WI.regB noTabs_ok [1, 3, 4] ?_
  refine oS ?_
  refine oN ?_
  refine thenQ_normal ?_
  refine WI.block ?_
  refine WI.loop (fun φ os => ∃ (j : Nat) (ok : Bool), φ = [(1, .ptr 0 0), (3, .x (.bool ok)), (4, .x (.int .i64 j))] ∧ os = [.box [.x (.str o), .x (.bool b), .x (.str v)]] ∧ j ≤ o.length ∧ ok = ((decide (o ≠ []) && decide (o.length ≤ 64)) && (o.take j).all dig)) (down o.length 4) ?_ (fun φ os hI => ?_)
  · exact ⟨0, _, rfl, rfl, by omega, by rw [Bool.eq_iff_iff]; cases o <;> simp <;> omega⟩
  · obtain ⟨j, ok, rfl, rfl, hj, hok⟩ := hI
    refine WI.seq ?_
    refine WI.seq ?_
    refine WI.regB noTabs_ok [1, 3, 4, 19] ?_
    iterate 2 refine oS ?_
    iterate 3 refine oG (hok := by first | with_reducible rfl | omega | (cases ok <;> simp <;> omega) | (simp; done) | (simp; omega) | rfl) ?_
    refine oN ?_
    refine thenQ_normal ?_
    refine WI.cond (b := _) rfl rfl (fun h0 => ?_) (fun h0 => ?_)
    · try simp only [zB] at h0
      refine WI.skip ?_
      refine thenQ_normal ?_
      refine WI.seq ?_
      refine WI.block ?_
      refine WI.regB noTabs_ok [1, 3, 4] ?_
      iterate 2 refine oS ?_
      iterate 20 refine oG (hok := by first | with_reducible rfl | omega | (cases ok <;> simp <;> omega) | (simp; done) | (simp; omega) | rfl) ?_
      refine oS ?_
      refine oN ?_
      refine blockQ_normal ?_
      refine thenQ_normal ?_
      refine WI.regB noTabs_ok [1, 3, 4] ?_
      refine oS ?_
      refine oG (hok := by first | with_reducible rfl | omega | (cases ok <;> simp <;> omega) | (simp; done) | (simp; omega) | rfl) ?_
      refine oS ?_
      refine oN ?_
      refine thenQ_normal ?_
      exact ⟨⟨j + 1, (ok && ((decide (((o.getD j 0).toNat : Int) ≥ 48) && decide (((o.getD j 0).toNat : Int) ≤ 57)) || (((o.getD j 0).toNat : Int) == 46))), by simp, rfl, by omega, by rw [dig_int, hok, all_succ o j (by omega), Bool.and_assoc, List.getD_eq_getElem?_getD, List.getElem?_eq_getElem (by omega), Option.getD_some]⟩, by simp [down, Ab.get, D.val, intOf?]; omega⟩
    · try simp only [zB] at h0
      refine WI.exit ?_
      refine thenQ_exit ?_
      refine thenQ_exit ?_
      refine blockQ_hit ?_
      refine thenQ_normal ?_
      refine WI.seq ?_
      refine WI.block ?_
      refine WI.seq ?_
      have hok' : okO o = ok := by rw [hok, List.take_of_length_le (by omega)]; rfl
      refine WI.regB noTabs_ok [1, 44] ?_
      refine oS ?_
      refine oG (hok := by first | with_reducible rfl | omega | (cases ok <;> simp <;> omega) | (simp; done) | (simp; omega) | rfl) ?_
      refine oS ?_
      refine oN ?_
      refine thenQ_normal ?_
      refine WI.cond (b := _) rfl rfl (fun h1 => ?_) (fun h1 => ?_)
      · try simp only [zB] at h1
        refine WI.seq ?_
        refine WI.regB noTabs_ok [2] ?_
        refine oS ?_
        refine oN ?_
        refine thenQ_normal ?_
        refine WI.ret ?_
        refine blockQ_ret ?_
        refine thenQ_ret ?_
        first | refine lfR ?_ | refine lfR2 ?_
        rw [chkC, if_neg (by rw [hok']; simpa using h1)] -- leaf 0
      · try simp only [zB] at h1
        refine WI.seq ?_
        refine WI.regB noTabs_ok [47] ?_
        refine oS ?_
        iterate 3 refine oG (hok := by first | with_reducible rfl | omega | (cases ok <;> simp <;> omega) | (simp; done) | (simp; omega) | rfl) ?_
        refine oS ?_
        refine oN ?_
        refine thenQ_normal ?_
        refine WI.cond (b := _) rfl rfl (fun h2 => ?_) (fun h2 => ?_)
        · try simp only [zB] at h2
          refine WI.seq ?_
          refine WI.regB noTabs_ok [2] ?_
          refine oS ?_
          refine oN ?_
          refine thenQ_normal ?_
          refine WI.ret ?_
          refine blockQ_ret ?_
          refine thenQ_ret ?_
          first | refine lfR ?_ | refine lfR2 ?_
          rw [chkC, if_pos (by rw [hok']; simpa using h1), if_pos (by omega)] -- leaf 1
        · try simp only [zB] at h2
          refine WI.skip ?_
          refine blockQ_normal ?_
          refine thenQ_normal ?_
          refine WI.seq ?_
          refine WI.regB noTabs_ok [2] ?_
          refine oS ?_
          refine oN ?_
          refine thenQ_normal ?_
          refine WI.ret ?_
          first | refine lfR ?_ | refine lfR2 ?_
          rw [chkC, if_pos (by rw [hok']; simpa using h1), if_neg (by omega)] -- leaf 2
end Go.Proofs.Ytcffpndhodhncaa
end
section
/- Controls: the laws. -/
set_option linter.unusedSimpArgs false
set_option linter.unusedVariables false
namespace Go.Proofs.Ytcffpndhodhncaa
open Go.RowKit Go.Bo Go.Ab

def checkCG : List D → Option (Bool × D)
  | [.agg [.x (.str o), .x (.bool b), .x (.str v)]] => some (decide (o.length ≤ 1099511627776 ∧ v.length ≤ 9223372036854775807), .x (.int .i64 (chkC o v)))
  | _ => none
theorem checkCG_ok : ∀ args r, checkCG args = some (true, r) → PCalls Try.prog 31 args r := by
  intro args r h
  unfold checkCG at h
  split at h
  · rename_i o b v
    simp only [Option.some.injEq, Prod.mk.injEq, Bool.and_eq_true, decide_eq_true_eq, true_and] at h
    obtain ⟨h1, rfl⟩ := h
    exact checkC_c o b v h1
  · cases h
def checkCRG : List D → Option (Bool × D)
  | [.agg [.x (.str o), .x (.bool b), .x (.str v)]] => some (decide (o.length ≤ 1099511627776 ∧ v.length ≤ 9223372036854775807), .x (.int .i64 (chkC o v)))
  | _ => none
theorem checkCRG_ok : ∀ args r, checkCRG args = some (true, r) → PCalls Try.prog 32 args r := by
  intro args r h
  unfold checkCRG at h
  split at h
  · rename_i o b v
    simp only [Option.some.injEq, Prod.mk.injEq, Bool.and_eq_true, decide_eq_true_eq, true_and] at h
    obtain ⟨h1, rfl⟩ := h
    exact checkCR_c o b v h1
  · cases h
abbrev Ctl := List UInt8 × Bool × List UInt8 × Unit
abbrev rCtl : RC Ctl := rCat rStr (rCat rBool (rCat rStr rEnd))
theorem good_rCtl : rCtl.Good := good_rCat good_rStr (good_rCat good_rBool (good_rCat good_rStr good_rEnd))
abbrev oidP : List UInt8 := [50, 46, 49, 54, 46, 56, 52, 48, 46, 49, 46, 49, 49, 51, 55, 51, 48, 46, 51, 46, 52, 46, 51]
/-- What is asked for, whether it is, a code. -/
def fnd : List Ctl → Int → Pers × Bool × Int
  | [], code => ((0, false, false, ()), false, code)
  | c :: r, code => if c.1 = oidP then if (rdP c.2.2.1).2 = 0 then ((rdP c.2.2.1).1, true, 0) else ((0, false, false, ()), false, 2) else fnd r (if c.2.1 = true then 12 else code)
def fndD (f : Pers × Bool × Int) : D := .tup [.agg [.x (.int .i64 f.1.1), .x (.bool f.1.2.1), .x (.bool f.1.2.2.1)], .x (.bool f.2.1), .x (.int .i64 f.2.2)]
theorem fnd_step (l : List Ctl) (j : Nat) (code : Int) (h : j < l.length) : fnd (l.drop j) code = if l[j].1 = oidP then if (rdP l[j].2.2.1).2 = 0 then ((rdP l[j].2.2.1).1, true, 0) else ((0, false, false, ()), false, 2) else fnd (l.drop (j + 1)) (if l[j].2.1 = true then 12 else code) := by
  rw [List.drop_eq_getElem_cons h, fnd]
def tabCo10 : Tabs := addQ (noTabs) 33 rdPersG
theorem tabCo10_ok : SsOk Try.prog tabCo10 := addQ_ok (noTabs_ok) (G_enters G_ok (p := i33) rfl) rdPersG_ok
theorem tabCo10_q33 (a : List D) : tabCo10.q 33 a = rdPersG a := rfl
theorem tabCo10_r (f : FuncId) (a : List D) (o : List Ob) : tabCo10.r f a o = none := rfl
theorem tabCo10_k (f : FuncId) (a : List D) (o : List Ob) : tabCo10.k f a o = none := rfl
def tabCo11 : Tabs := addQ (noTabs) 34 rdPersRG
theorem tabCo11_ok : SsOk Try.prog tabCo11 := addQ_ok (noTabs_ok) (G_enters G_ok (p := i34) rfl) rdPersRG_ok
theorem tabCo11_q34 (a : List D) : tabCo11.q 34 a = rdPersRG a := rfl
theorem tabCo11_r (f : FuncId) (a : List D) (o : List Ob) : tabCo11.r f a o = none := rfl
theorem tabCo11_k (f : FuncId) (a : List D) (o : List Ob) : tabCo11.k f a o = none := rfl
theorem find_c (l : List Ctl) (h : ∀ c ∈ l, c.2.2.1.length ≤ 9223372036854775807) : PCalls Try.prog 37 [.x (.sl (rows rCtl l))] (fndD (fnd l 0)) := by
  refine PCalls.wf (fun hw => ?_)
  have hb : l.length ≤ maxLen := by have := (hw _ (List.mem_cons_self)).1; rwa [rows_len] at this
  clear hw
  simp only [maxLen] at hb
  refine FCalls.pure (fcallsG (fz := true) G_ok (p := i37) rfl _ (Nat.le_of_ble_eq_true rfl) _ (fun C0 E0 => ?_)) rfl
  dsimp only [i37, argsφ]
  have uu := And.intro @rdPersG.eq_1 (And.intro @rdPersG.eq_2 (And.intro @tabCo10_r (And.intro @tabCo10_k (@tabCo10_q33))))
  refine WI.seq ?_
  refine WI.regB tabCo10_ok [0, 2] ?_
  refine oG ?_
  iterate 2 refine oS ?_
  refine oN ?_
  refine thenQ_normal ?_
  refine WI.seq ?_
  refine WI.regB tabCo10_ok [0, 2, 5] ?_
  refine oS ?_
  refine oN ?_
  refine thenQ_normal ?_
  refine WI.seq ?_
  refine WI.seq ?_
  refine WI.regB tabCo10_ok [2, 5, 10, 11, 12] ?_
  refine oS ?_
  refine oG ?_
  refine oS ?_
  refine oN ?_
  refine thenQ_normal ?_
  refine WI.block ?_
  refine WI.loop (fun φ os => ∃ (j : Nat) (code : Int), φ = [(2, .ptr 0 0), (5, .x (.int .i64 code)), (10, .x (.sl (rows rCtl l))), (11, .x (.int .i64 l.length)), (12, .x (.int .i64 j))] ∧ os = [.box [.x (.int .i64 0), .x (.bool false), .x (.bool false)]] ∧ j ≤ l.length ∧ fnd (l.drop j) code = fnd l 0) (down l.length 12) ?_ (fun φ os hI => ?_)
  · exact ⟨0, 0, rfl, rfl, by omega, rfl⟩
  · obtain ⟨j, code, rfl, rfl, hj, hf⟩ := hI
    refine WI.seq ?_
    refine WI.regB tabCo10_ok [2, 5, 10, 11, 12, 13] ?_
    refine oG ?_
    refine oN ?_
    refine thenQ_normal ?_
    refine WI.seq ?_
    refine WI.cond (b := _) rfl rfl (fun h0 => ?_) (fun h0 => ?_)
    · try simp only [zB] at h0
      refine WI.skip ?_
      refine thenQ_normal ?_
      refine WI.seq ?_
      refine WI.block ?_
      refine WI.seq ?_
      refine WI.regB tabCo10_ok [2, 5, 7, 10, 11, 12] ?_
      iterate 4 refine oG ?_
      refine oN ?_
      refine thenQ_normal ?_
      refine WI.seq ?_
      refine WI.seq ?_
      refine WI.regB tabCo10_ok [2, 5, 7, 10, 11, 12, 18] ?_
      refine oS ?_
      iterate 2 refine oG ?_
      refine oN ?_
      refine thenQ_normal ?_
      refine WI.cond (b := _) rfl rfl (fun h1 => ?_) (fun h1 => ?_)
      · try simp only [zB] at h1
        refine WI.seq ?_
        refine WI.seq ?_
        refine WI.regB tabCo10_ok [2, 5, 10, 11, 12, 20] ?_
        refine oS ?_
        refine oG ?_
        refine oN ?_
        refine thenQ_normal ?_
        refine WI.cond (b := _) rfl rfl (fun h2 => ?_) (fun h2 => ?_)
        · try simp only [zB] at h2
          refine WI.regB tabCo10_ok [2, 5, 10, 11, 12] ?_
          refine oS ?_
          refine oN ?_
          refine thenQ_normal ?_
          refine WI.exit ?_
          refine thenQ_exit ?_
          refine blockQ_hit ?_
          refine thenQ_normal ?_
          refine WI.post ?_
          refine WI.regB tabCo10_ok [2, 5, 10, 11, 12] ?_
          refine oG ?_
          refine oS ?_
          refine oP ?_
          refine pPick [0] ?_
          refine pEnd ?_
          refine thenQ_normal ?_
          exact ⟨⟨j + 1, if (l[j]'(by omega)).2.1 = true then 12 else code, by simp [h2], rfl, by omega, by rw [← hf, fnd_step l j code (by omega), if_neg h1]⟩, by simp [down, Ab.get, D.val, intOf?]; omega⟩
        · try simp only [zB] at h2
          refine WI.skip ?_
          refine thenQ_normal ?_
          refine WI.exit ?_
          refine thenQ_exit ?_
          refine blockQ_hit ?_
          refine thenQ_normal ?_
          refine WI.post ?_
          refine WI.regB tabCo10_ok [2, 5, 10, 11, 12] ?_
          refine oG ?_
          refine oS ?_
          refine oP ?_
          refine pPick [0] ?_
          refine pEnd ?_
          refine thenQ_normal ?_
          exact ⟨⟨j + 1, if (l[j]'(by omega)).2.1 = true then 12 else code, by simp [h2], rfl, by omega, by rw [← hf, fnd_step l j code (by omega), if_neg h1]⟩, by simp [down, Ab.get, D.val, intOf?]; omega⟩
      · try simp only [zB] at h1
        refine WI.skip ?_
        refine thenQ_normal ?_
        refine WI.seq ?_
        have hl8 := h _ (List.getElem_mem (show j < l.length by omega))
        refine WI.regB tabCo10_ok [2, 8, 9] ?_
        refine oS ?_
        refine oG ?_
        refine oC ?_
        refine oS ?_
        iterate 4 refine oG ?_
        refine oS ?_
        refine oN ?_
        refine thenQ_normal ?_
        refine WI.seq ?_
        refine WI.seq ?_
        refine WI.regB tabCo10_ok [2, 8, 28] ?_
        refine oS ?_
        refine oG ?_
        refine oN ?_
        refine thenQ_normal ?_
        refine WI.cond (b := _) rfl rfl (fun h3 => ?_) (fun h3 => ?_)
        · try simp only [zB] at h3
          refine WI.seq ?_
          refine WI.regB tabCo10_ok [2, 3, 4] ?_
          iterate 2 refine oG ?_
          iterate 2 refine oS ?_
          refine oN ?_
          refine thenQ_normal ?_
          refine WI.ret ?_
          refine thenQ_ret ?_
          refine blockQ_ret ?_
          refine thenQ_ret ?_
          refine thenQ_ret ?_
          refine blockQ_ret ?_
          refine thenQ_ret ?_
          first | refine lfR ?_ | refine lfR2 ?_
          rw [← hf, fnd_step l j code (by omega), if_pos h1, if_neg h3]; rfl -- leaf 0
        · try simp only [zB] at h3
          refine WI.skip ?_
          refine thenQ_normal ?_
          refine WI.seq ?_
          refine WI.regB tabCo10_ok [2, 3, 4] ?_
          iterate 2 refine oG ?_
          iterate 2 refine oS ?_
          refine oN ?_
          refine thenQ_normal ?_
          refine WI.ret ?_
          refine blockQ_ret ?_
          refine thenQ_ret ?_
          refine thenQ_ret ?_
          refine blockQ_ret ?_
          refine thenQ_ret ?_
          first | refine lfR ?_ | refine lfR2 ?_
          rw [← hf, fnd_step l j code (by omega), if_pos h1, if_pos h3]; rfl -- leaf 1
    · try simp only [zB] at h0
      refine WI.exit ?_
      refine thenQ_exit ?_
      refine thenQ_exit ?_
      refine blockQ_hit ?_
      refine thenQ_normal ?_
      refine WI.seq ?_
      refine WI.regB tabCo10_ok [2, 3, 4] ?_
      refine oG ?_
      refine oS ?_
      refine oG ?_
      iterate 2 refine oS ?_
      refine oN ?_
      refine thenQ_normal ?_
      refine WI.ret ?_
      first | refine lfR ?_ | refine lfR2 ?_
      rw [← hf, List.drop_of_length_le (by omega)]; rfl -- leaf 2
theorem findR_c (l : List Ctl) (h : ∀ c ∈ l, c.2.2.1.length ≤ 9223372036854775807) : PCalls Try.prog 38 [.x (.sl (rows rCtl l))] (fndD (fnd l 0)) := by
  refine PCalls.wf (fun hw => ?_)
  have hb : l.length ≤ maxLen := by have := (hw _ (List.mem_cons_self)).1; rwa [rows_len] at this
  clear hw
  simp only [maxLen] at hb
  refine FCalls.pure (fcallsG (fz := true) G_ok (p := i38) rfl _ (Nat.le_of_ble_eq_true rfl) _ (fun C0 E0 => ?_)) rfl
  dsimp only [i38, argsφ]
  have uu := And.intro @rdPersRG.eq_1 (And.intro @rdPersRG.eq_2 (And.intro @tabCo11_r (And.intro @tabCo11_k (@tabCo11_q34))))
  refine WI.seq ?_
  refine WI.regB tabCo11_ok [0, 2] ?_
  refine oG ?_
  iterate 2 refine oS ?_
  refine oN ?_
  refine thenQ_normal ?_
  refine WI.seq ?_
  refine WI.regB tabCo11_ok [0, 2, 5] ?_
  refine oS ?_
  refine oN ?_
  refine thenQ_normal ?_
  refine WI.seq ?_
  refine WI.seq ?_
  refine WI.regB tabCo11_ok [0, 2, 5, 6] ?_
  refine oS ?_
  refine oN ?_
  refine thenQ_normal ?_
  refine WI.block ?_
  refine WI.loop (fun φ os => ∃ (j : Nat) (code : Int), φ = [(0, .x (.sl (rows rCtl l))), (2, .ptr 0 0), (5, .x (.int .i64 code)), (6, .x (.int .i64 j))] ∧ os = [.box [.x (.int .i64 0), .x (.bool false), .x (.bool false)]] ∧ j ≤ l.length ∧ fnd (l.drop j) code = fnd l 0) (down l.length 6) ?_ (fun φ os hI => ?_)
  · exact ⟨0, 0, rfl, rfl, by omega, rfl⟩
  · obtain ⟨j, code, rfl, rfl, hj, hf⟩ := hI
    refine WI.seq ?_
    refine WI.seq ?_
    refine WI.regB tabCo11_ok [0, 2, 5, 6, 12] ?_
    iterate 2 refine oS ?_
    iterate 2 refine oG ?_
    refine oN ?_
    refine thenQ_normal ?_
    refine WI.cond (b := _) rfl rfl (fun h0 => ?_) (fun h0 => ?_)
    · try simp only [zB] at h0
      refine WI.skip ?_
      refine thenQ_normal ?_
      refine WI.seq ?_
      refine WI.block ?_
      refine WI.seq ?_
      refine WI.seq ?_
      refine WI.regB tabCo11_ok [0, 2, 5, 6, 20] ?_
      iterate 2 refine oS ?_
      refine oG ?_
      refine oS ?_
      iterate 2 refine oG ?_
      refine oN ?_
      refine thenQ_normal ?_
      refine WI.cond (b := _) rfl rfl (fun h1 => ?_) (fun h1 => ?_)
      · try simp only [zB] at h1
        refine WI.seq ?_
        have hl8 := h _ (List.getElem_mem (show j < l.length by omega))
        refine WI.regB tabCo11_ok [2, 7, 8] ?_
        iterate 2 refine oS ?_
        refine oG ?_
        refine oS ?_
        refine oG ?_
        refine oC ?_
        refine oS ?_
        iterate 4 refine oG ?_
        refine oS ?_
        refine oN ?_
        refine thenQ_normal ?_
        refine WI.seq ?_
        refine WI.seq ?_
        refine WI.regB tabCo11_ok [2, 7, 31] ?_
        refine oS ?_
        refine oG ?_
        refine oN ?_
        refine thenQ_normal ?_
        refine WI.cond (b := _) rfl rfl (fun h2 => ?_) (fun h2 => ?_)
        · try simp only [zB] at h2
          refine WI.seq ?_
          refine WI.regB tabCo11_ok [2, 3, 4] ?_
          iterate 2 refine oG ?_
          iterate 2 refine oS ?_
          refine oN ?_
          refine thenQ_normal ?_
          refine WI.ret ?_
          refine thenQ_ret ?_
          refine thenQ_ret ?_
          refine blockQ_ret ?_
          refine thenQ_ret ?_
          refine thenQ_ret ?_
          refine blockQ_ret ?_
          refine thenQ_ret ?_
          first | refine lfR ?_ | refine lfR2 ?_
          rw [← hf, fnd_step l j code (by omega), if_pos h1, if_neg h2]; rfl -- leaf 0
        · try simp only [zB] at h2
          refine WI.skip ?_
          refine thenQ_normal ?_
          refine WI.seq ?_
          refine WI.regB tabCo11_ok [2, 3, 4] ?_
          iterate 2 refine oG ?_
          iterate 2 refine oS ?_
          refine oN ?_
          refine thenQ_normal ?_
          refine WI.ret ?_
          refine thenQ_ret ?_
          refine blockQ_ret ?_
          refine thenQ_ret ?_
          refine thenQ_ret ?_
          refine blockQ_ret ?_
          refine thenQ_ret ?_
          first | refine lfR ?_ | refine lfR2 ?_
          rw [← hf, fnd_step l j code (by omega), if_pos h1, if_pos h2]; rfl -- leaf 1
      · try simp only [zB] at h1
        refine WI.skip ?_
        refine thenQ_normal ?_
        refine WI.seq ?_
        refine WI.regB tabCo11_ok [0, 2, 5, 6, 38] ?_
        iterate 2 refine oS ?_
        refine oG ?_
        refine oS ?_
        refine oG ?_
        refine oN ?_
        refine thenQ_normal ?_
        refine WI.cond (b := _) rfl rfl (fun h3 => ?_) (fun h3 => ?_)
        · try simp only [zB] at h3
          refine WI.regB tabCo11_ok [0, 2, 5, 6] ?_
          refine oS ?_
          refine oN ?_
          refine blockQ_normal ?_
          refine thenQ_normal ?_
          refine WI.regB tabCo11_ok [0, 2, 5, 6] ?_
          refine oS ?_
          refine oG ?_
          refine oS ?_
          refine oN ?_
          refine thenQ_normal ?_
          exact ⟨⟨j + 1, if (l[j]'(by omega)).2.1 = true then 12 else code, by simp [h3], rfl, by omega, by rw [← hf, fnd_step l j code (by omega), if_neg h1]⟩, by simp [down, Ab.get, D.val, intOf?]; omega⟩
        · try simp only [zB] at h3
          refine WI.skip ?_
          refine blockQ_normal ?_
          refine thenQ_normal ?_
          refine WI.regB tabCo11_ok [0, 2, 5, 6] ?_
          refine oS ?_
          refine oG ?_
          refine oS ?_
          refine oN ?_
          refine thenQ_normal ?_
          exact ⟨⟨j + 1, if (l[j]'(by omega)).2.1 = true then 12 else code, by simp [h3], rfl, by omega, by rw [← hf, fnd_step l j code (by omega), if_neg h1]⟩, by simp [down, Ab.get, D.val, intOf?]; omega⟩
    · try simp only [zB] at h0
      refine WI.exit ?_
      refine thenQ_exit ?_
      refine thenQ_exit ?_
      refine blockQ_hit ?_
      refine thenQ_normal ?_
      refine WI.seq ?_
      refine WI.regB tabCo11_ok [2, 3, 4] ?_
      refine oG ?_
      refine oS ?_
      refine oG ?_
      iterate 2 refine oS ?_
      refine oN ?_
      refine thenQ_normal ?_
      refine WI.ret ?_
      first | refine lfR ?_ | refine lfR2 ?_
      rw [← hf, List.drop_of_length_le (by omega)]; rfl -- leaf 2
def findG : List D → Option (Bool × D)
  | [.x (.sl L)] => (unrows rCtl L).bind fun l => some (decide (∀ c ∈ l, c.2.2.1.length ≤ 9223372036854775807), fndD (fnd l 0))
  | _ => none
theorem findG_ok : ∀ args r, findG args = some (true, r) → PCalls Try.prog 37 args r := by
  intro args r h
  unfold findG at h
  split at h
  · rename_i L
    obtain ⟨l, hr0, h⟩ := Option.bind_eq_some_iff.1 h
    simp only [Option.some.injEq, Prod.mk.injEq, Bool.and_eq_true, decide_eq_true_eq, true_and] at h
    obtain ⟨h1, rfl⟩ := h
    rw [← rows_unrows good_rCtl hr0]
    exact find_c l h1
  · cases h
def findRG : List D → Option (Bool × D)
  | [.x (.sl L)] => (unrows rCtl L).bind fun l => some (decide (∀ c ∈ l, c.2.2.1.length ≤ 9223372036854775807), fndD (fnd l 0))
  | _ => none
theorem findRG_ok : ∀ args r, findRG args = some (true, r) → PCalls Try.prog 38 args r := by
  intro args r h
  unfold findRG at h
  split at h
  · rename_i L
    obtain ⟨l, hr0, h⟩ := Option.bind_eq_some_iff.1 h
    simp only [Option.some.injEq, Prod.mk.injEq, Bool.and_eq_true, decide_eq_true_eq, true_and] at h
    obtain ⟨h1, rfl⟩ := h
    rw [← rows_unrows good_rCtl hr0]
    exact findR_c l h1
  · cases h
theorem un_ctl (l : List Ctl) : unrows rCtl (rows rCtl l) = some l := unrows_rows good_rCtl l
def tabCo12 : Tabs := addT (addQ (addT (addQ (addQ (addQ (addQ (addQ (addQ (addQ (addQ (addQ (addQ (addQ (noTabs) 27 putPersG) 28 putPersRG) 33 rdPersG) 34 rdPersRG) 29 putNoteG) 30 putNoteRG) 35 rdNoteG) 36 rdNoteRG) 31 checkCG) 32 checkCRG) 37 findG) 37 (frzT findG)) 38 findRG) 38 (frzT findRG)
theorem tabCo12_ok : SsOk Try.prog tabCo12 := addT_ok (addQ_ok (addT_ok (addQ_ok (addQ_ok (addQ_ok (addQ_ok (addQ_ok (addQ_ok (addQ_ok (addQ_ok (addQ_ok (addQ_ok (addQ_ok (noTabs_ok) (G_enters G_ok (p := i27) rfl) putPersG_ok) (G_enters G_ok (p := i28) rfl) putPersRG_ok) (G_enters G_ok (p := i33) rfl) rdPersG_ok) (G_enters G_ok (p := i34) rfl) rdPersRG_ok) (G_enters G_ok (p := i29) rfl) putNoteG_ok) (G_enters G_ok (p := i30) rfl) putNoteRG_ok) (G_enters G_ok (p := i35) rfl) rdNoteG_ok) (G_enters G_ok (p := i36) rfl) rdNoteRG_ok) (G_enters G_ok (p := i31) rfl) checkCG_ok) (G_enters G_ok (p := i32) rfl) checkCRG_ok) (G_enters G_ok (p := i37) rfl) findG_ok) (G_enters G_ok (p := i37) rfl) (frzT_ok findG_ok)) (G_enters G_ok (p := i38) rfl) findRG_ok) (G_enters G_ok (p := i38) rfl) (frzT_ok findRG_ok)
theorem tabCo12_q27 (a : List D) : tabCo12.q 27 a = putPersG a := rfl
theorem tabCo12_q28 (a : List D) : tabCo12.q 28 a = putPersRG a := rfl
theorem tabCo12_q33 (a : List D) : tabCo12.q 33 a = rdPersG a := rfl
theorem tabCo12_q34 (a : List D) : tabCo12.q 34 a = rdPersRG a := rfl
theorem tabCo12_q29 (a : List D) : tabCo12.q 29 a = putNoteG a := rfl
theorem tabCo12_q30 (a : List D) : tabCo12.q 30 a = putNoteRG a := rfl
theorem tabCo12_q35 (a : List D) : tabCo12.q 35 a = rdNoteG a := rfl
theorem tabCo12_q36 (a : List D) : tabCo12.q 36 a = rdNoteRG a := rfl
theorem tabCo12_q31 (a : List D) : tabCo12.q 31 a = checkCG a := rfl
theorem tabCo12_q32 (a : List D) : tabCo12.q 32 a = checkCRG a := rfl
theorem tabCo12_q37 (a : List D) : tabCo12.q 37 a = findG a := rfl
theorem tabCo12_t37 (a : List D) (o : List Ob) : tabCo12.t 37 a o = liftT (frzT findG) a o := rfl
theorem tabCo12_q38 (a : List D) : tabCo12.q 38 a = findRG a := rfl
theorem tabCo12_t38 (a : List D) (o : List Ob) : tabCo12.t 38 a o = liftT (frzT findRG) a o := rfl
theorem tabCo12_r (f : FuncId) (a : List D) (o : List Ob) : tabCo12.r f a o = none := rfl
theorem tabCo12_k (f : FuncId) (a : List D) (o : List Ob) : tabCo12.k f a o = none := rfl
theorem s8a : putP (1, false, true, ()) = ([48, 9, 2, 1, 1, 1, 1, 0, 1, 1, 255], 0) := by kernel_rfl
theorem s8b : rdP [48, 9, 2, 1, 1, 1, 1, 0, 1, 1, 255] = ((1, false, true, ()), 0) := by kernel_rfl
theorem s8c : putN (8, [97], 5, ()) = ([48, 9, 10, 1, 8, 4, 1, 97, 2, 1, 5], 0) := by kernel_rfl
theorem s8d : rdN [48, 9, 10, 1, 8, 4, 1, 97, 2, 1, 5] = ((8, [97], 5, ()), 0) := by kernel_rfl
theorem s8e : rdN [48, 9, 10, 1, 8, 4, 1, 97, 2, 1, 5, 120] = (noN, 5) := by kernel_rfl
theorem s8f : fnd [(oidP, false, [48, 9, 2, 1, 1, 1, 1, 0, 1, 1, 255], ())] 0 = ((1, false, true, ()), true, 0) := by kernel_rfl
theorem s8g : fnd [([49], true, [], ())] 0 = ((0, false, false, ()), false, 12) := by kernel_rfl
theorem s8h : chkC [97] [] = 13 := by kernel_rfl
theorem s8u (o : List UInt8) (b : Bool) (v : List UInt8) : unrows rCtl [[.str o, .bool b, .str v]] = some [(o, b, v, ())] := rfl
theorem awake18_c : PCalls Try.prog 26 [] (.x (.bool true)) := by
  refine FCalls.pure (fcallsG (fz := true) G_ok (p := i26) rfl _ (Nat.le_of_ble_eq_true rfl) _ (fun C0 E0 => ?_)) rfl
  dsimp only [i26, argsφ]
  have uu := And.intro @putPersG.eq_1 (And.intro @putPersG.eq_2 (And.intro @rdPersG.eq_1 (And.intro @rdPersG.eq_2 (And.intro @putNoteG.eq_1 (And.intro @putNoteG.eq_2 (And.intro @rdNoteG.eq_1 (And.intro @rdNoteG.eq_2 (And.intro @checkCG.eq_1 (And.intro @checkCG.eq_2 (And.intro @findG.eq_1 (And.intro @findG.eq_2 (And.intro @noteD.eq_1 (And.intro @noN.eq_1 (And.intro @fndD.eq_1 (And.intro @s8a (And.intro @s8b (And.intro @s8c (And.intro @s8d (And.intro @s8e (And.intro @s8f (And.intro @s8g (And.intro @s8h (And.intro @s8u (And.intro @tabCo12_r (And.intro @tabCo12_k (And.intro @tabCo12_q27 (And.intro @tabCo12_q28 (And.intro @tabCo12_q29 (And.intro @tabCo12_q30 (And.intro @tabCo12_q31 (And.intro @tabCo12_q32 (And.intro @tabCo12_q33 (And.intro @tabCo12_q34 (And.intro @tabCo12_q35 (And.intro @tabCo12_q36 (And.intro @tabCo12_q37 (And.intro @tabCo12_q38 (And.intro @tabCo12_t37 (And.intro @tabCo12_t38 (And.intro @checkCRG.eq_1 (And.intro @checkCRG.eq_2 (And.intro @findRG.eq_1 (And.intro @findRG.eq_2 (And.intro @frzT.eq_1 (And.intro @putNoteRG.eq_1 (And.intro @putNoteRG.eq_2 (And.intro @putPersRG.eq_1 (And.intro @putPersRG.eq_2 (And.intro @rdNoteRG.eq_1 (And.intro @rdNoteRG.eq_2 (And.intro @rdPersRG.eq_1 (@rdPersRG.eq_2))))))))))))))))))))))))))))))))))))))))))))))))))))
  refine WI.seq ?_
  refine WI.regB tabCo12_ok [] ?_
  refine oS ?_
  refine oN ?_
  refine thenQ_normal ?_
  refine WI.seq ?_
  refine WI.regB tabCo12_ok [1, 2] ?_
  refine oG ?_
  refine oC ?_
  refine oS ?_
  iterate 2 refine oG ?_
  iterate 2 refine oS ?_
  refine oN ?_
  refine thenQ_normal ?_
  refine WI.seq ?_
  refine WI.regB tabCo12_ok [1, 2, 3, 4] ?_
  refine oS ?_
  refine oC ?_
  refine oS ?_
  iterate 4 refine oG ?_
  refine oS ?_
  refine oN ?_
  refine thenQ_normal ?_
  refine WI.seq ?_
  refine WI.regB tabCo12_ok [1, 2, 3, 4, 5, 6] ?_
  refine oG ?_
  refine oC ?_
  refine oS ?_
  iterate 2 refine oG ?_
  iterate 2 refine oS ?_
  refine oN ?_
  refine thenQ_normal ?_
  refine WI.seq ?_
  refine WI.regB tabCo12_ok [1, 2, 3, 4, 5, 6, 7, 8] ?_
  refine oS ?_
  refine oC ?_
  refine oS ?_
  iterate 4 refine oG ?_
  refine oS ?_
  refine oN ?_
  refine thenQ_normal ?_
  refine WI.seq ?_
  refine WI.regB tabCo12_ok [1, 2, 3, 4, 5, 6, 7, 8, 10] ?_
  refine oS ?_
  refine oG ?_
  refine oC ?_
  refine oS ?_
  iterate 4 refine oG ?_
  refine oS ?_
  refine oN ?_
  refine thenQ_normal ?_
  refine WI.seq ?_
  refine WI.regB tabCo12_ok [1, 2, 3, 4, 5, 6, 7, 8, 10, 11, 12, 13] ?_
  refine oS ?_
  iterate 2 refine oG ?_
  refine oC ?_
  refine oS ?_
  iterate 5 refine oG ?_
  iterate 2 refine oS ?_
  refine oN ?_
  refine thenQ_normal ?_
  refine WI.seq ?_
  refine WI.regB tabCo12_ok [1, 2, 3, 4, 5, 6, 7, 8, 10, 11, 12, 13, 15, 16] ?_
  iterate 2 refine oG ?_
  refine oC ?_
  refine oS ?_
  iterate 5 refine oG ?_
  iterate 2 refine oS ?_
  refine oN ?_
  refine thenQ_normal ?_
  refine WI.seq ?_
  refine WI.regB tabCo12_ok [0] ?_
  refine oS ?_
  refine oG ?_
  refine oS ?_
  iterate 3 refine oG ?_
  refine oS ?_
  iterate 4 refine oG ?_
  refine oS ?_
  iterate 3 refine oG ?_
  refine oS ?_
  iterate 3 refine oG ?_
  refine oS ?_
  iterate 3 refine oG ?_
  refine oS ?_
  iterate 4 refine oG ?_
  refine oS ?_
  iterate 3 refine oG ?_
  refine oS ?_
  iterate 3 refine oG ?_
  refine oS ?_
  iterate 4 refine oG ?_
  refine oS ?_
  iterate 2 refine oG ?_
  refine oS ?_
  iterate 3 refine oG ?_
  refine oS ?_
  iterate 3 refine oG ?_
  refine oS ?_
  iterate 3 refine oG ?_
  refine oS ?_
  refine oG ?_
  refine oC ?_
  iterate 2 refine oG ?_
  refine oS ?_
  refine oN ?_
  refine thenQ_normal ?_
  refine WI.ret ?_
  first | refine lfR ?_ | refine lfR2 ?_
  first | rfl | exact ⟨rfl, rfl⟩ | trivial -- leaf 0
end Go.Proofs.Ytcffpndhodhncaa
end
section
/- Controls: the laws. -/
set_option linter.unusedSimpArgs false
set_option linter.unusedVariables false
namespace Go.Proofs.Ytcffpndhodhncaa
open Go.RowKit Go.Bo Go.Ab

def awake18G : List D → Option (Bool × D)
  | [] => some (true, .x (.bool true))
  | _ => none
theorem awake18G_ok : ∀ args r, awake18G args = some (true, r) → PCalls Try.prog 26 args r := by
  intro args r h
  unfold awake18G at h
  split at h
  · simp only [Option.some.injEq, Prod.mk.injEq, Bool.and_eq_true, decide_eq_true_eq, true_and] at h
    obtain rfl := h
    exact awake18_c 
  · cases h
def tabCo13 : Tabs := addQ (addT (addQ (addT (addQ (addQ (addQ (addQ (addQ (addQ (addQ (addQ (addQ (addQ (addQ (noTabs) 27 putPersG) 28 putPersRG) 33 rdPersG) 34 rdPersRG) 29 putNoteG) 30 putNoteRG) 35 rdNoteG) 36 rdNoteRG) 31 checkCG) 32 checkCRG) 37 findG) 37 (frzT findG)) 38 findRG) 38 (frzT findRG)) 26 awake18G
theorem tabCo13_ok : SsOk Try.prog tabCo13 := addQ_ok (addT_ok (addQ_ok (addT_ok (addQ_ok (addQ_ok (addQ_ok (addQ_ok (addQ_ok (addQ_ok (addQ_ok (addQ_ok (addQ_ok (addQ_ok (addQ_ok (noTabs_ok) (G_enters G_ok (p := i27) rfl) putPersG_ok) (G_enters G_ok (p := i28) rfl) putPersRG_ok) (G_enters G_ok (p := i33) rfl) rdPersG_ok) (G_enters G_ok (p := i34) rfl) rdPersRG_ok) (G_enters G_ok (p := i29) rfl) putNoteG_ok) (G_enters G_ok (p := i30) rfl) putNoteRG_ok) (G_enters G_ok (p := i35) rfl) rdNoteG_ok) (G_enters G_ok (p := i36) rfl) rdNoteRG_ok) (G_enters G_ok (p := i31) rfl) checkCG_ok) (G_enters G_ok (p := i32) rfl) checkCRG_ok) (G_enters G_ok (p := i37) rfl) findG_ok) (G_enters G_ok (p := i37) rfl) (frzT_ok findG_ok)) (G_enters G_ok (p := i38) rfl) findRG_ok) (G_enters G_ok (p := i38) rfl) (frzT_ok findRG_ok)) (G_enters G_ok (p := i26) rfl) awake18G_ok
theorem tabCo13_q27 (a : List D) : tabCo13.q 27 a = putPersG a := rfl
theorem tabCo13_q28 (a : List D) : tabCo13.q 28 a = putPersRG a := rfl
theorem tabCo13_q33 (a : List D) : tabCo13.q 33 a = rdPersG a := rfl
theorem tabCo13_q34 (a : List D) : tabCo13.q 34 a = rdPersRG a := rfl
theorem tabCo13_q29 (a : List D) : tabCo13.q 29 a = putNoteG a := rfl
theorem tabCo13_q30 (a : List D) : tabCo13.q 30 a = putNoteRG a := rfl
theorem tabCo13_q35 (a : List D) : tabCo13.q 35 a = rdNoteG a := rfl
theorem tabCo13_q36 (a : List D) : tabCo13.q 36 a = rdNoteRG a := rfl
theorem tabCo13_q31 (a : List D) : tabCo13.q 31 a = checkCG a := rfl
theorem tabCo13_q32 (a : List D) : tabCo13.q 32 a = checkCRG a := rfl
theorem tabCo13_q37 (a : List D) : tabCo13.q 37 a = findG a := rfl
theorem tabCo13_t37 (a : List D) (o : List Ob) : tabCo13.t 37 a o = liftT (frzT findG) a o := rfl
theorem tabCo13_q38 (a : List D) : tabCo13.q 38 a = findRG a := rfl
theorem tabCo13_t38 (a : List D) (o : List Ob) : tabCo13.t 38 a o = liftT (frzT findRG) a o := rfl
theorem tabCo13_q26 (a : List D) : tabCo13.q 26 a = awake18G a := rfl
theorem tabCo13_r (f : FuncId) (a : List D) (o : List Ob) : tabCo13.r f a o = none := rfl
theorem tabCo13_k (f : FuncId) (a : List D) (o : List Ob) : tabCo13.k f a o = none := rfl
theorem controlPuts_c (p : Pers) (n : Note) (c : Ctl) : PCalls Try.prog 6 [.agg [.x (.int .i64 p.1), .x (.bool p.2.1), .x (.bool p.2.2.1)], .agg [.x (.int .i64 n.1), .x (.str n.2.1), .x (.int .i64 n.2.2.1)], .agg [.x (.str c.1), .x (.bool c.2.1), .x (.str c.2.2.1)]] (.x (.bool true)) := by
  refine FCalls.pure (fcallsG (fz := true) G_ok (p := i6) rfl _ (Nat.le_of_ble_eq_true rfl) _ (fun C0 E0 => ?_)) rfl
  dsimp only [i6, argsφ]
  have uu := And.intro @putPersG.eq_1 (And.intro @putPersG.eq_2 (And.intro @putPersRG.eq_1 (And.intro @putPersRG.eq_2 (And.intro @putNoteG.eq_1 (And.intro @putNoteG.eq_2 (And.intro @putNoteRG.eq_1 (And.intro @putNoteRG.eq_2 (And.intro @checkCG.eq_1 (And.intro @checkCG.eq_2 (And.intro @checkCRG.eq_1 (And.intro @checkCRG.eq_2 (And.intro @awake18G.eq_1 (And.intro @awake18G.eq_2 (And.intro @tabCo13_r (And.intro @tabCo13_k (And.intro @tabCo13_q26 (And.intro @tabCo13_q27 (And.intro @tabCo13_q28 (And.intro @tabCo13_q29 (And.intro @tabCo13_q30 (And.intro @tabCo13_q31 (And.intro @tabCo13_q32 (And.intro @tabCo13_q33 (And.intro @tabCo13_q34 (And.intro @tabCo13_q35 (And.intro @tabCo13_q36 (And.intro @tabCo13_q37 (And.intro @tabCo13_q38 (And.intro @tabCo13_t37 (And.intro @tabCo13_t38 (And.intro @findG.eq_1 (And.intro @findG.eq_2 (And.intro @findRG.eq_1 (And.intro @findRG.eq_2 (And.intro @frzT.eq_1 (And.intro @rdNoteG.eq_1 (And.intro @rdNoteG.eq_2 (And.intro @rdNoteRG.eq_1 (And.intro @rdNoteRG.eq_2 (And.intro @rdPersG.eq_1 (And.intro @rdPersG.eq_2 (And.intro @rdPersRG.eq_1 (@rdPersRG.eq_2)))))))))))))))))))))))))))))))))))))))))))
  refine WI.seq ?_
  refine WI.regB tabCo13_ok [3, 4, 5] ?_
  iterate 3 refine oG ?_
  refine oS ?_
  refine oN ?_
  refine thenQ_normal ?_
  refine WI.seq ?_
  refine WI.seq ?_
  refine WI.regB tabCo13_ok [3, 4, 5, 42] ?_
  refine oS ?_
  iterate 3 refine oG ?_
  refine oS ?_
  iterate 5 refine oG ?_
  refine oS ?_
  iterate 5 refine oG ?_
  refine oS ?_
  iterate 5 refine oG ?_
  refine oS ?_
  iterate 5 refine oG ?_
  refine oN ?_
  refine thenQ_normal ?_
  refine WI.cond (b := _) rfl rfl (fun h0 => ?_) (fun h0 => ?_)
  · try simp only [zB] at h0
    refine WI.seq ?_
    refine WI.regB tabCo13_ok [6] ?_
    refine oC ?_
    refine oS ?_
    refine oN ?_
    refine thenQ_normal ?_
    refine WI.ret ?_
    refine thenQ_ret ?_
    first | refine lfR ?_ | refine lfR2 ?_
    first | rfl | exact ⟨rfl, rfl⟩ | trivial -- leaf 0
  · try simp only [zB] at h0
    refine WI.skip ?_
    refine thenQ_normal ?_
    refine WI.seq ?_
    refine WI.regB tabCo13_ok [3, 4, 5, 7, 8] ?_
    refine oG ?_
    refine oC ?_
    refine oS ?_
    iterate 2 refine oG ?_
    iterate 2 refine oS ?_
    refine oN ?_
    refine thenQ_normal ?_
    refine WI.seq ?_
    refine WI.regB tabCo13_ok [4, 5, 7, 8, 9, 10] ?_
    refine oG ?_
    refine oC ?_
    refine oS ?_
    iterate 2 refine oG ?_
    iterate 2 refine oS ?_
    refine oN ?_
    refine thenQ_normal ?_
    refine WI.seq ?_
    refine WI.regB tabCo13_ok [4, 5, 7, 8, 9, 10, 11, 12] ?_
    refine oG ?_
    refine oC ?_
    refine oS ?_
    iterate 2 refine oG ?_
    iterate 2 refine oS ?_
    refine oN ?_
    refine thenQ_normal ?_
    refine WI.seq ?_
    refine WI.regB tabCo13_ok [5, 7, 8, 9, 10, 11, 12, 13, 14] ?_
    refine oG ?_
    refine oC ?_
    refine oS ?_
    iterate 2 refine oG ?_
    iterate 2 refine oS ?_
    refine oN ?_
    refine thenQ_normal ?_
    refine WI.seq ?_
    refine WI.dregB tabCo13_ok [6] ?_
    iterate 2 refine dFS ?_
    refine dFG ?_
    refine dFS ?_
    iterate 4 refine dFG ?_
    refine dFS ?_
    iterate 4 refine dFG ?_
    refine dFS ?_
    iterate 4 refine dFG ?_
    refine dFS ?_
    refine dQG ?_
    refine dQC ?_
    refine dQG ?_
    refine dAC ?_
    iterate 2 refine dFG ?_
    refine dFS ?_
    refine dAC ?_
    refine dFG ?_
    refine dFS ?_
    refine dN ?_
    refine thenQ_normal ?_
    refine WI.ret ?_
    first | refine lfR ?_ | refine lfR2 ?_
    first | rfl | exact ⟨rfl, rfl⟩ | trivial -- leaf 1
theorem putN_le (n : Note) : (putN n).1.length ≤ 20000 := by
  by_cases h : okN n
  · exact (putN_row h).2
  · unfold putN
    by_cases h1 : knownB n.1
    · rw [if_neg (fun k => k h1)]
      by_cases h2 : 4096 < n.2.1.length
      · rw [if_pos h2]; simp
      · rw [if_neg h2]
        by_cases h3 : n.2.2.1 < 0 ∨ 2147483647 < n.2.2.1
        · rw [if_pos h3]; simp
        · exact absurd ⟨h1, by omega, by omega, by omega⟩ h
    · rw [if_pos h1]; simp
theorem controlReads_c (s : List UInt8) (n : Note) : PCalls Try.prog 7 [.x (.str s), .agg [.x (.int .i64 n.1), .x (.str n.2.1), .x (.int .i64 n.2.2.1)]] (.x (.bool true)) := by
  have hl := putN_le (n.1, n.2.1, n.2.2.1, ())
  have hn : (putN (n.1, n.2.1, n.2.2.1, ())).2 = 0 → rdN (putN (n.1, n.2.1, n.2.2.1, ())).1 = ((n.1, n.2.1, n.2.2.1, ()), 0) := fun h => rdN_put _ _ (Prod.ext rfl h)
  have hs : (rdN s).2 = 0 → putN ((rdN s).1.1, (rdN s).1.2.1, (rdN s).1.2.2.1, ()) = (s, 0) := fun h => (putN_rd s h).2
  refine FCalls.pure (fcallsG (fz := true) G_ok (p := i7) rfl _ (Nat.le_of_ble_eq_true rfl) _ (fun C0 E0 => ?_)) rfl
  dsimp only [i7, argsφ]
  have uu := And.intro @rdPersG.eq_1 (And.intro @rdPersG.eq_2 (And.intro @rdPersRG.eq_1 (And.intro @rdPersRG.eq_2 (And.intro @putNoteG.eq_1 (And.intro @putNoteG.eq_2 (And.intro @rdNoteG.eq_1 (And.intro @rdNoteG.eq_2 (And.intro @rdNoteRG.eq_1 (And.intro @rdNoteRG.eq_2 (And.intro @noteD.eq_1 (And.intro @awake18G.eq_1 (And.intro @awake18G.eq_2 (And.intro @tabCo13_r (And.intro @tabCo13_k (And.intro @tabCo13_q26 (And.intro @tabCo13_q27 (And.intro @tabCo13_q28 (And.intro @tabCo13_q29 (And.intro @tabCo13_q30 (And.intro @tabCo13_q31 (And.intro @tabCo13_q32 (And.intro @tabCo13_q33 (And.intro @tabCo13_q34 (And.intro @tabCo13_q35 (And.intro @tabCo13_q36 (And.intro @tabCo13_q37 (And.intro @tabCo13_q38 (And.intro @tabCo13_t37 (And.intro @tabCo13_t38 (And.intro @checkCG.eq_1 (And.intro @checkCG.eq_2 (And.intro @checkCRG.eq_1 (And.intro @checkCRG.eq_2 (And.intro @findG.eq_1 (And.intro @findG.eq_2 (And.intro @findRG.eq_1 (And.intro @findRG.eq_2 (And.intro @frzT.eq_1 (And.intro @putNoteRG.eq_1 (And.intro @putNoteRG.eq_2 (And.intro @putPersG.eq_1 (And.intro @putPersG.eq_2 (And.intro @putPersRG.eq_1 (@putPersRG.eq_2))))))))))))))))))))))))))))))))))))))))))))
  refine WI.seq ?_
  refine WI.regB tabCo13_ok [0, 3] ?_
  refine oG ?_
  refine oS ?_
  refine oN ?_
  refine thenQ_normal ?_
  refine WI.seq ?_
  refine WI.seq ?_
  refine WI.regB tabCo13_ok [0, 3, 27] ?_
  refine oS ?_
  iterate 2 refine oG ?_
  refine oS ?_
  iterate 5 refine oG ?_
  refine oN ?_
  refine thenQ_normal ?_
  refine WI.cond (b := _) rfl rfl (fun h0 => ?_) (fun h0 => ?_)
  · try simp only [zB] at h0
    refine WI.seq ?_
    refine WI.regB tabCo13_ok [4] ?_
    refine oC ?_
    refine oS ?_
    refine oN ?_
    refine thenQ_normal ?_
    refine WI.ret ?_
    refine thenQ_ret ?_
    first | refine lfR ?_ | refine lfR2 ?_
    first | rfl | exact ⟨rfl, rfl⟩ | trivial -- leaf 0
  · try simp only [zB] at h0
    refine WI.skip ?_
    refine thenQ_normal ?_
    refine WI.seq ?_
    refine WI.regB tabCo13_ok [0, 3, 5, 6] ?_
    refine oS ?_
    refine oC ?_
    refine oS ?_
    iterate 4 refine oG ?_
    refine oS ?_
    refine oN ?_
    refine thenQ_normal ?_
    refine WI.seq ?_
    refine WI.regB tabCo13_ok [0, 3, 5, 6, 7, 8] ?_
    refine oS ?_
    refine oC ?_
    refine oS ?_
    iterate 4 refine oG ?_
    refine oS ?_
    refine oN ?_
    refine thenQ_normal ?_
    refine WI.seq ?_
    refine WI.regB tabCo13_ok [0, 3, 5, 6, 7, 8, 9, 10] ?_
    refine oS ?_
    refine oC ?_
    refine oS ?_
    iterate 4 refine oG ?_
    refine oS ?_
    refine oN ?_
    refine thenQ_normal ?_
    refine WI.seq ?_
    refine WI.regB tabCo13_ok [0, 3, 5, 6, 7, 8, 9, 10, 11, 12] ?_
    refine oS ?_
    refine oC ?_
    refine oS ?_
    iterate 4 refine oG ?_
    refine oS ?_
    refine oN ?_
    refine thenQ_normal ?_
    refine WI.seq ?_
    refine WI.regB tabCo13_ok [0, 3, 5, 6, 7, 8, 9, 10, 11, 12, 13, 14] ?_
    refine oG ?_
    refine oC ?_
    refine oS ?_
    iterate 2 refine oG ?_
    iterate 2 refine oS ?_
    refine oN ?_
    refine thenQ_normal ?_
    refine WI.seq ?_
    refine WI.regB tabCo13_ok [0, 3, 5, 6, 7, 8, 9, 10, 11, 12, 14, 15, 16] ?_
    refine oS ?_
    refine oC ?_
    refine oS ?_
    iterate 4 refine oG ?_
    refine oS ?_
    refine oN ?_
    refine thenQ_normal ?_
    refine WI.seq ?_
    refine WI.regB tabCo13_ok [0, 3, 5, 6, 7, 8, 9, 10, 11, 12, 14, 15, 16, 17, 18] ?_
    refine oG ?_
    refine oC ?_
    refine oS ?_
    iterate 2 refine oG ?_
    iterate 2 refine oS ?_
    refine oN ?_
    refine thenQ_normal ?_
    refine WI.seq ?_
    generalize putN (n.1, n.2.1, n.2.2.1, ()) = A at hn ⊢
    generalize rdN A.1 = M at hn ⊢
    generalize rdN s = N at hs ⊢
    generalize putN (N.1.1, N.1.2.1, N.1.2.2.1, ()) = P at hs ⊢
    refine WI.regB tabCo13_ok [4] ?_
    iterate 3 refine oG (hok := by first | with_reducible rfl | omega | (clear uu; by_cases hi : A.2 = 0 <;> by_cases hg : N.2 = 0 <;> simp_all) | (simp; done) | (simp; omega) | rfl) ?_
    refine oS ?_
    iterate 4 refine oG (hok := by first | with_reducible rfl | omega | (clear uu; by_cases hi : A.2 = 0 <;> by_cases hg : N.2 = 0 <;> simp_all) | (simp; done) | (simp; omega) | rfl) ?_
    refine oS ?_
    iterate 4 refine oG (hok := by first | with_reducible rfl | omega | (clear uu; by_cases hi : A.2 = 0 <;> by_cases hg : N.2 = 0 <;> simp_all) | (simp; done) | (simp; omega) | rfl) ?_
    refine oS ?_
    iterate 4 refine oG (hok := by first | with_reducible rfl | omega | (clear uu; by_cases hi : A.2 = 0 <;> by_cases hg : N.2 = 0 <;> simp_all) | (simp; done) | (simp; omega) | rfl) ?_
    refine oS ?_
    iterate 12 refine oG (hok := by first | with_reducible rfl | omega | (clear uu; by_cases hi : A.2 = 0 <;> by_cases hg : N.2 = 0 <;> simp_all) | (simp; done) | (simp; omega) | rfl) ?_
    refine oS ?_
    iterate 12 refine oG (hok := by first | with_reducible rfl | omega | (clear uu; by_cases hi : A.2 = 0 <;> by_cases hg : N.2 = 0 <;> simp_all) | (simp; done) | (simp; omega) | rfl) ?_
    refine oS ?_
    refine oC (hok := by first | with_reducible rfl | omega | (clear uu; by_cases hi : A.2 = 0 <;> by_cases hg : N.2 = 0 <;> simp_all) | (simp; done) | (simp; omega) | rfl) ?_
    refine oG (hok := by first | with_reducible rfl | omega | (clear uu; by_cases hi : A.2 = 0 <;> by_cases hg : N.2 = 0 <;> simp_all) | (simp; done) | (simp; omega) | rfl) ?_
    refine oS ?_
    refine oN ?_
    refine thenQ_normal ?_
    refine WI.ret ?_
    first | refine lfR ?_ | refine lfR2 ?_
    clear uu
    by_cases hi : A.2 = 0 <;> by_cases hg : N.2 = 0 <;> simp_all -- leaf 1
theorem takeAll {α : Type} {l : List α} {p : α → Prop} {j : Nat} (hj : j < l.length) (h : ∀ s ∈ l.take j, p s) (h1 : p l[j]) : ∀ s ∈ l.take (j + 1), p s := by
  rw [← List.take_append_getElem hj]
  intro s hs
  rcases List.mem_append.1 hs with hs | hs
  · exact h s hs
  · simp only [List.mem_singleton] at hs; subst hs; exact h1
theorem controlFinds_c (l : List Ctl) : PCalls Try.prog 8 [.x (.sl (rows rCtl l))] (.x (.bool true)) := by
  refine FCalls.pure (fcallsG (fz := true) G_ok (p := i8) rfl _ (Nat.le_of_ble_eq_true rfl) _ (fun C0 E0 => ?_)) rfl
  dsimp only [i8, argsφ]
  have uu := And.intro @findG.eq_1 (And.intro @findG.eq_2 (And.intro @findRG.eq_1 (And.intro @findRG.eq_2 (And.intro @un_ctl (And.intro @fndD.eq_1 (And.intro @awake18G.eq_1 (And.intro @awake18G.eq_2 (And.intro @tabCo13_r (And.intro @tabCo13_k (And.intro @tabCo13_q26 (And.intro @tabCo13_q27 (And.intro @tabCo13_q28 (And.intro @tabCo13_q29 (And.intro @tabCo13_q30 (And.intro @tabCo13_q31 (And.intro @tabCo13_q32 (And.intro @tabCo13_q33 (And.intro @tabCo13_q34 (And.intro @tabCo13_q35 (And.intro @tabCo13_q36 (And.intro @tabCo13_q37 (And.intro @tabCo13_q38 (And.intro @tabCo13_t37 (And.intro @tabCo13_t38 (And.intro @checkCG.eq_1 (And.intro @checkCG.eq_2 (And.intro @checkCRG.eq_1 (And.intro @checkCRG.eq_2 (And.intro @frzT.eq_1 (And.intro @putNoteG.eq_1 (And.intro @putNoteG.eq_2 (And.intro @putNoteRG.eq_1 (And.intro @putNoteRG.eq_2 (And.intro @putPersG.eq_1 (And.intro @putPersG.eq_2 (And.intro @putPersRG.eq_1 (And.intro @putPersRG.eq_2 (And.intro @rdNoteG.eq_1 (And.intro @rdNoteG.eq_2 (And.intro @rdNoteRG.eq_1 (And.intro @rdNoteRG.eq_2 (And.intro @rdPersG.eq_1 (And.intro @rdPersG.eq_2 (And.intro @rdPersRG.eq_1 (@rdPersRG.eq_2)))))))))))))))))))))))))))))))))))))))))))))
  refine WI.seq ?_
  refine WI.regB tabCo13_ok [0] ?_
  refine oS ?_
  refine oN ?_
  refine thenQ_normal ?_
  refine WI.seq ?_
  refine WI.seq ?_
  refine WI.regB tabCo13_ok [0, 12] ?_
  refine oS ?_
  iterate 2 refine oG (hok := by first | with_reducible rfl | omega | (exact decide_eq_true ha') | (simp; done) | (simp; omega) | rfl) ?_
  refine oN ?_
  refine thenQ_normal ?_
  refine WI.cond (b := _) rfl rfl (fun h0 => ?_) (fun h0 => ?_)
  · try simp only [zB] at h0
    refine WI.seq ?_
    refine WI.regB tabCo13_ok [2] ?_
    refine oC (hok := by first | with_reducible rfl | omega | (exact decide_eq_true ha') | (simp; done) | (simp; omega) | rfl) ?_
    refine oS ?_
    refine oN ?_
    refine thenQ_normal ?_
    refine WI.ret ?_
    refine thenQ_ret ?_
    first | refine lfR ?_ | refine lfR2 ?_
    first | rfl | exact ⟨rfl, rfl⟩ | trivial -- leaf 0
  · try simp only [zB] at h0
    refine WI.skip ?_
    refine thenQ_normal ?_
    refine WI.seq ?_
    refine WI.seq ?_
    refine WI.regB tabCo13_ok [0, 3] ?_
    refine oS ?_
    refine oN ?_
    refine thenQ_normal ?_
    refine WI.block ?_
    refine WI.loop (fun φ os => ∃ (j : Nat), φ = [(0, .x (.sl (rows rCtl l))), (3, .x (.int .i64 j))] ∧ os = [] ∧ j ≤ l.length ∧ ∀ c ∈ l.take j, c.2.2.1.length ≤ 300) (down l.length 3) ?_ (fun φ os hI => ?_)
    · exact ⟨0, rfl, rfl, by omega, by simp⟩
    · obtain ⟨j, rfl, rfl, hj, ha⟩ := hI
      refine WI.seq ?_
      refine WI.seq ?_
      refine WI.regB tabCo13_ok [0, 3, 17] ?_
      iterate 2 refine oS ?_
      iterate 2 refine oG (hok := by first | with_reducible rfl | omega | (exact decide_eq_true ha') | (simp; done) | (simp; omega) | rfl) ?_
      refine oN ?_
      refine thenQ_normal ?_
      refine WI.cond (b := _) rfl rfl (fun h1 => ?_) (fun h1 => ?_)
      · try simp only [zB] at h1
        refine WI.skip ?_
        refine thenQ_normal ?_
        refine WI.seq ?_
        refine WI.block ?_
        refine WI.seq ?_
        refine WI.regB tabCo13_ok [0, 3, 35] ?_
        iterate 2 refine oS ?_
        refine oG (hok := by first | with_reducible rfl | omega | (exact decide_eq_true ha') | (simp; done) | (simp; omega) | rfl) ?_
        refine oS ?_
        iterate 3 refine oG (hok := by first | with_reducible rfl | omega | (exact decide_eq_true ha') | (simp; done) | (simp; omega) | rfl) ?_
        refine oS ?_
        iterate 8 refine oG (hok := by first | with_reducible rfl | omega | (exact decide_eq_true ha') | (simp; done) | (simp; omega) | rfl) ?_
        refine oN ?_
        refine thenQ_normal ?_
        refine WI.cond (b := _) rfl rfl (fun h2 => ?_) (fun h2 => ?_)
        · try simp only [zB] at h2
          refine WI.seq ?_
          refine WI.regB tabCo13_ok [2] ?_
          refine oC (hok := by first | with_reducible rfl | omega | (exact decide_eq_true ha') | (simp; done) | (simp; omega) | rfl) ?_
          refine oS ?_
          refine oN ?_
          refine thenQ_normal ?_
          refine WI.ret ?_
          refine blockQ_ret ?_
          refine thenQ_ret ?_
          refine thenQ_ret ?_
          refine blockQ_ret ?_
          refine thenQ_ret ?_
          first | refine lfR ?_ | refine lfR2 ?_
          first | rfl | exact ⟨rfl, rfl⟩ | trivial -- leaf 1
        · try simp only [zB] at h2
          refine WI.skip ?_
          refine blockQ_normal ?_
          refine thenQ_normal ?_
          refine WI.regB tabCo13_ok [0, 3] ?_
          refine oS ?_
          refine oG (hok := by first | with_reducible rfl | omega | (exact decide_eq_true ha') | (simp; done) | (simp; omega) | rfl) ?_
          refine oS ?_
          refine oN ?_
          refine thenQ_normal ?_
          exact ⟨⟨j + 1, by simp, rfl, by omega, takeAll (by omega) ha (by omega)⟩, by simp [down, Ab.get, D.val, intOf?]; omega⟩
      · try simp only [zB] at h1
        refine WI.exit ?_
        refine thenQ_exit ?_
        refine thenQ_exit ?_
        refine blockQ_hit ?_
        refine thenQ_normal ?_
        refine WI.seq ?_
        rw [List.take_of_length_le (by omega)] at ha
        have ha' : ∀ c ∈ l, c.2.2.1.length ≤ 9223372036854775807 := fun c hc => by have := ha c hc; omega
        refine WI.regB tabCo13_ok [0, 4, 5, 6] ?_
        refine oS ?_
        refine oC (hok := by first | with_reducible rfl | omega | (exact decide_eq_true ha') | (simp; done) | (simp; omega) | rfl) ?_
        refine oS ?_
        iterate 5 refine oG (hok := by first | with_reducible rfl | omega | (exact decide_eq_true ha') | (simp; done) | (simp; omega) | rfl) ?_
        iterate 2 refine oS ?_
        refine oN ?_
        refine thenQ_normal ?_
        refine WI.seq ?_
        refine WI.regB tabCo13_ok [4, 5, 6, 7, 8, 9] ?_
        refine oS ?_
        refine oC (hok := by first | with_reducible rfl | omega | (exact decide_eq_true ha') | (simp; done) | (simp; omega) | rfl) ?_
        refine oS ?_
        iterate 5 refine oG (hok := by first | with_reducible rfl | omega | (exact decide_eq_true ha') | (simp; done) | (simp; omega) | rfl) ?_
        iterate 2 refine oS ?_
        refine oN ?_
        refine thenQ_normal ?_
        refine WI.seq ?_
        refine WI.regB tabCo13_ok [2] ?_
        iterate 3 refine oG (hok := by first | with_reducible rfl | omega | (exact decide_eq_true ha') | (simp; done) | (simp; omega) | rfl) ?_
        refine oS ?_
        iterate 4 refine oG (hok := by first | with_reducible rfl | omega | (exact decide_eq_true ha') | (simp; done) | (simp; omega) | rfl) ?_
        refine oS ?_
        iterate 4 refine oG (hok := by first | with_reducible rfl | omega | (exact decide_eq_true ha') | (simp; done) | (simp; omega) | rfl) ?_
        refine oS ?_
        refine oC (hok := by first | with_reducible rfl | omega | (exact decide_eq_true ha') | (simp; done) | (simp; omega) | rfl) ?_
        refine oG (hok := by first | with_reducible rfl | omega | (exact decide_eq_true ha') | (simp; done) | (simp; omega) | rfl) ?_
        refine oS ?_
        refine oN ?_
        refine thenQ_normal ?_
        refine WI.ret ?_
        first | refine lfR ?_ | refine lfR2 ?_
        first | rfl | exact ⟨rfl, rfl⟩ | trivial -- leaf 2
end Go.Proofs.Ytcffpndhodhncaa
end
