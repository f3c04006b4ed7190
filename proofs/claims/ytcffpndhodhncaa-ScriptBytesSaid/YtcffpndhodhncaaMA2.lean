/- MA2: CoP, ScP, Sc1, Sc2, Sc3, Sc4. -/
import Derived.Test.YtcffpndhodhncaaMA1
section
/- Controls as bytes: plain laws. -/
set_option linter.unusedSimpArgs false
set_option linter.unusedVariables false
namespace Go.Proofs.Ytcffpndhodhncaa
open Go.RowKit Go.Bo Go.Ab

theorem bool_tup {a : D} {x y : Bool} (h : x = y) : D.tup [a, .x (.bool x)] = D.tup [a, .x (.bool y)] := by rw [h]
theorem pt_def (t : Int) (b : List UInt8) : pt (t, b, ()) = (putB t b).1 := rfl
theorem gT_mk {t : Int} {b : List UInt8} (ht : tagB t = true) (hb : b.length ≤ 65536) : gT (t, b, ()) := by
  obtain ⟨n, rfl, hn⟩ := tagB_nat ht
  exact ⟨⟨by simp only; omega, by simp only; omega, hb⟩, ht⟩
theorem nbool_len (b : Bool) : (nbool b).length = 1 := by cases b <;> rfl
theorem nrb_nbool (b : Bool) : nrb (nbool b) = (b, 0) := by cases b <;> rfl
theorem nbool_nrb (s : List UInt8) (h : (nrb s).2 = 0) : nbool (nrb s).1 = s := by
  unfold nrb at h ⊢
  simp only at h ⊢
  split at h
  · cases h
  · split at h
    · rename_i h1; have := eq_of_beq h1; subst this; rfl
    · split at h
      · rename_i h1; have := eq_of_beq h1; subst this; rfl
      · cases h
/-- What is put in a row, of at most so many parts, no more than so long. -/
theorem row_ok (L : List Tlv) (n k : Nat) (hn : L.length ≤ n) (hk : ∀ x ∈ L, gT x ∧ x.2.1.length ≤ k) (h : n * (k + 6) ≤ 65536) : (putB 48 (L.map pt).flatten).2 = 0 ∧ (L.map pt).flatten.length ≤ n * (k + 6) := by
  have hf : (L.map pt).flatten.length ≤ n * (k + 6) := by
    clear h
    induction L generalizing n with
    | nil => simp
    | cons x r ih =>
      obtain ⟨n, rfl⟩ : ∃ m, n = m + 1 := ⟨n - 1, by simp at hn; omega⟩
      have h1 := ih n (by simpa using hn) (fun x hx => hk x (List.mem_cons_of_mem _ hx))
      obtain ⟨h2, h3⟩ := hk x List.mem_cons_self
      have h4 := pt_len h2
      rw [List.map_cons, List.flatten_cons, List.length_append, Nat.succ_mul]
      omega
  exact ⟨by rw [put_code _ _ (by omega)]; rfl, hf⟩
abbrev Pers := Int × Bool × Bool × Unit
abbrev rPers : RC Pers := rCat (rInt .i64) (rCat rBool (rCat rBool rEnd))
def persL (p : Pers) : List Tlv := [(2, (nput p.1).1, ()), (1, nbool p.2.1, ()), (1, nbool p.2.2.1, ())]
def rowB (l : List Tlv) : List UInt8 × Int := putB 48 (l.map pt).flatten
def putP (p : Pers) : List UInt8 × Int := if p.1 < 1 ∨ 15 < p.1 then ([], 2) else rowB (persL p)
def rdP (s : List UInt8) : Pers × Int :=
  match (prtB s [2, 1, 1]).1, (prtB s [2, 1, 1]).2 with
  | [a, b, c], 0 => if (nread a).2 = 0 ∧ (nrb b).2 = 0 ∧ (nrb c).2 = 0 ∧ 1 ≤ (nread a).1 ∧ (nread a).1 ≤ 15 then (((nread a).1, (nrb b).1, (nrb c).1, ()), 0) else ((0, false, false, ()), 5)
  | _, _ => ((0, false, false, ()), 5)
theorem persL_g (p : Pers) : ∀ x ∈ persL p, gT x ∧ x.2.1.length ≤ 4 := by
  intro x hx
  simp only [persL, List.mem_cons, List.not_mem_nil, or_false] at hx
  rcases hx with rfl | rfl | rfl
  · have := nput_len p.1; exact ⟨gT_mk rfl (by omega), this⟩
  · have := nbool_len p.2.1; exact ⟨gT_mk rfl (by omega), by simp only; omega⟩
  · have := nbool_len p.2.2.1; exact ⟨gT_mk rfl (by omega), by simp only; omega⟩
theorem prt3 {s : List UInt8} {t u v : Int} (h : (prtB s [t, u, v]).2 = 0) : ∃ a b c, prtB s [t, u, v] = ([a, b, c], 0) ∧ gT (t, a, ()) ∧ gT (u, b, ()) ∧ gT (v, c, ()) ∧ rowB [(t, a, ()), (u, b, ()), (v, c, ())] = (s, 0) := by
  obtain ⟨L, h1, h2, h3, h4, _⟩ := prtB_inv _ _ h
  match L, h1 with
  | [x, y, z], h1 =>
    simp only [List.map_cons, List.map_nil, List.cons.injEq, and_true] at h1
    obtain ⟨rfl, rfl, rfl⟩ := h1
    exact ⟨x.2.1, y.2.1, z.2.1, Prod.ext h2 h, h4 x (by simp), h4 y (by simp), h4 z (by simp), h3⟩
  | [], h1 => simp at h1
  | [_], h1 => simp at h1
  | [_, _], h1 => simp at h1
  | _ :: _ :: _ :: _ :: _, h1 => simp at h1
theorem prt2 {s : List UInt8} {t u : Int} (h : (prtB s [t, u]).2 = 0) : ∃ a b, prtB s [t, u] = ([a, b], 0) ∧ gT (t, a, ()) ∧ gT (u, b, ()) ∧ rowB [(t, a, ()), (u, b, ())] = (s, 0) := by
  obtain ⟨L, h1, h2, h3, h4, _⟩ := prtB_inv _ _ h
  match L, h1 with
  | [x, y], h1 =>
    simp only [List.map_cons, List.map_nil, List.cons.injEq, and_true] at h1
    obtain ⟨rfl, rfl⟩ := h1
    exact ⟨x.2.1, y.2.1, Prod.ext h2 h, h4 x (by simp), h4 y (by simp), h3⟩
  | [], h1 => simp at h1
  | [_], h1 => simp at h1
  | _ :: _ :: _ :: _, h1 => simp at h1
theorem putP_ok (p : Pers) (h : 1 ≤ p.1 ∧ p.1 ≤ 15) : putP p = ((putP p).1, 0) ∧ rowB (persL p) = putP p ∧ (putP p).1.length ≤ 100 := by
  obtain ⟨h1, h2⟩ := row_ok (persL p) 3 4 (by simp [persL]) (persL_g p) (by omega)
  have e : putP p = rowB (persL p) := by unfold putP; rw [if_neg (by omega)]
  have h0 : (putP p).2 = 0 := by rw [e]; exact h1
  refine ⟨Prod.ext rfl h0, e.symm, ?_⟩
  rw [e]
  have h3 := put_len 48 ((persL p).map pt).flatten h1
  have h4 := lenB_le ((persL p).map pt).flatten.length (by omega)
  unfold rowB
  omega
theorem rdP_put (p : Pers) (h : 1 ≤ p.1 ∧ p.1 ≤ 15) : rdP (putP p).1 = (p, 0) := by
  obtain ⟨h1, h2, _⟩ := putP_ok p h
  have h3 := prtB_put (persL p) (fun x hx => (persL_g p x hx).1) (by simp [persL]) (putP p).1 (h2.trans h1)
  unfold rdP
  rw [show ([2, 1, 1] : List Int) = (persL p).map (·.1) from rfl, h3]
  simp only [persL, List.map_cons, List.map_nil]
  rw [nread_put _ ⟨by omega, by omega⟩, nrb_nbool, nrb_nbool]
  simp only
  rw [if_pos ⟨trivial, trivial, trivial, h.1, h.2⟩]
theorem putP_rd (s : List UInt8) (h : (rdP s).2 = 0) : putP (rdP s).1 = (s, 0) ∧ 1 ≤ (rdP s).1.1 ∧ (rdP s).1.1 ≤ 15 := by
  by_cases hp : (prtB s [2, 1, 1]).2 = 0
  · obtain ⟨a, b, c, h1, h2, h3, h4, h5⟩ := prt3 hp
    unfold rdP at h ⊢
    rw [h1] at h ⊢
    simp only at h ⊢
    split at h
    · rename_i h6
      rw [if_pos h6]
      obtain ⟨k1, k2, k3, k4, k5⟩ := h6
      refine ⟨?_, k4, k5⟩
      unfold putP
      rw [if_neg (by simp only; omega)]
      unfold persL
      simp only
      rw [(nput_read a k1).2, nbool_nrb b k2, nbool_nrb c k3]
      exact h5
    · cases h
  · unfold rdP at h
    split at h
    · rename_i h1; exact absurd h1 hp
    · cases h
theorem rdP_prt (s : List UInt8) (h : (rdP s).2 = 0) : (prtB s [2, 1, 1]).2 = 0 := by
  unfold rdP at h
  split at h
  · rename_i h1; exact h1
  · cases h
theorem rdP_err (s : List UInt8) (h : ¬ (rdP s).2 = 0) : rdP s = ((0, false, false, ()), 5) := by
  unfold rdP at h ⊢
  split at h
  · split at h
    · exact absurd rfl h
    · rename_i h1; rw [if_neg h1]
  · rfl
end Go.Proofs.Ytcffpndhodhncaa
end
section
/- Scripts as bytes: plain laws. -/
set_option linter.unusedSimpArgs false
set_option linter.unusedVariables false
namespace Go.Proofs.Ytcffpndhodhncaa
open Go.RowKit Go.Bo Go.Ab

abbrev Act := Int × Int × List UInt8 × Int × Unit
abbrev rAct : RC Act := rCat (rInt .i64) (rCat (rInt .i64) (rCat rStr (rCat (rInt .i64) rEnd)))
theorem good_rAct : rAct.Good := good_rCat (good_rInt .i64) (good_rCat (good_rInt .i64) (good_rCat good_rStr (good_rCat (good_rInt .i64) good_rEnd)))
def okA (a : Act) : Prop := 1 ≤ a.1 ∧ a.1 ≤ 5 ∧ 0 ≤ a.2.1 ∧ a.2.1 ≤ 255 ∧ 0 ≤ a.2.2.2.1 ∧ a.2.2.2.1 ≤ 2147483647 ∧ a.2.2.1.length ≤ 4096
instance decOkA (a : Act) : Decidable (okA a) := inferInstanceAs (Decidable (_ ∧ _ ∧ _ ∧ _ ∧ _ ∧ _ ∧ _))
def actL (a : Act) : List Tlv := [(10, (nput a.1).1, ()), (2, (nput a.2.1).1, ()), (4, a.2.2.1, ()), (2, (nput a.2.2.2.1).1, ())]
def rowT (a : Act) : Tlv := (48, ((actL a).map pt).flatten, ())
def oneB (a : Act) : List UInt8 := pt (rowT a)
theorem actL_g {a : Act} (h : a.2.2.1.length ≤ 4096) : ∀ x ∈ actL a, gT x ∧ x.2.1.length ≤ 4096 := by
  intro x hx
  have h1 := nput_len a.1
  have h2 := nput_len a.2.1
  have h3 := nput_len a.2.2.2.1
  simp only [actL, List.mem_cons, List.not_mem_nil, or_false] at hx
  rcases hx with rfl | rfl | rfl | rfl
  · exact ⟨gT_mk rfl (by omega), by simp only; omega⟩
  · exact ⟨gT_mk rfl (by omega), by simp only; omega⟩
  · exact ⟨gT_mk rfl (by omega), h⟩
  · exact ⟨gT_mk rfl (by omega), by simp only; omega⟩
theorem rowT_g {a : Act} (h : a.2.2.1.length ≤ 4096) : gT (rowT a) ∧ (rowT a).2.1.length ≤ 16408 := by
  obtain ⟨h1, h2⟩ := row_ok (actL a) 4 4096 (by simp [actL]) (actL_g h) (by omega)
  exact ⟨gT_mk rfl (by omega), by simpa [rowT] using h2⟩
theorem oneB_len {a : Act} (h : a.2.2.1.length ≤ 4096) : (oneB a).length ≤ 16414 := by
  obtain ⟨h1, h2⟩ := rowT_g h
  have := pt_len h1
  unfold oneB
  omega
def putA (l : List Act) : List UInt8 × Int := if 1024 < l.length then ([], 3) else if ∀ a ∈ l, okA a then putB 48 (l.map oneB).flatten else ([], 1)
/-- What a part of a script tells; whether it does. -/
def actV (x : Tlv) : Act × Bool :=
  match (prtB (pt x) [10, 2, 4, 2]).1, (prtB (pt x) [10, 2, 4, 2]).2 with
  | [a, b, c, d], 0 => (((nread a).1, (nread b).1, c, (nread d).1, ()), decide ((nread a).2 = 0 ∧ (nread b).2 = 0 ∧ (nread d).2 = 0 ∧ okA ((nread a).1, (nread b).1, c, (nread d).1, ())))
  | _, _ => ((0, 0, [], 0, ()), false)
def rdA (s : List UInt8) : List Act × Int :=
  if ((readB s).2.2 = 0 ∧ (readB s).2.1 = s.length ∧ (readB s).1.1 = 48) ∧ (allB (readB s).1.2.1).2 = 0 ∧ ∀ x ∈ (allB (readB s).1.2.1).1, (actV x).2 = true then ((allB (readB s).1.2.1).1.map fun x => (actV x).1, 0) else ([], 5)
theorem prt4 {s : List UInt8} {t u v w : Int} (h : (prtB s [t, u, v, w]).2 = 0) : ∃ a b c d, prtB s [t, u, v, w] = ([a, b, c, d], 0) ∧ gT (t, a, ()) ∧ gT (u, b, ()) ∧ gT (v, c, ()) ∧ gT (w, d, ()) ∧ rowB [(t, a, ()), (u, b, ()), (v, c, ()), (w, d, ())] = (s, 0) := by
  obtain ⟨L, h1, h2, h3, h4, _⟩ := prtB_inv _ _ h
  match L, h1 with
  | [x, y, z, q], h1 =>
    simp only [List.map_cons, List.map_nil, List.cons.injEq, and_true] at h1
    obtain ⟨rfl, rfl, rfl, rfl⟩ := h1
    exact ⟨x.2.1, y.2.1, z.2.1, q.2.1, Prod.ext h2 h, h4 x (by simp), h4 y (by simp), h4 z (by simp), h4 q (by simp), h3⟩
  | [], h1 => simp at h1
  | [_], h1 => simp at h1
  | [_, _], h1 => simp at h1
  | [_, _, _], h1 => simp at h1
  | _ :: _ :: _ :: _ :: _ :: _, h1 => simp at h1
theorem actV_rowT {a : Act} (h : okA a) : actV (rowT a) = (a, true) := by
  obtain ⟨h1, h2, h3, h4, h5, h6, h7⟩ := h
  have hp := prtB_put (actL a) (fun x hx => (actL_g h7 x hx).1) (by simp [actL]) (pt (rowT a)) (pt_ok (rowT_g h7).1)
  unfold actV
  rw [show ([10, 2, 4, 2] : List Int) = (actL a).map (·.1) from rfl, hp]
  simp only [actL, List.map_cons, List.map_nil]
  rw [nread_put _ ⟨by omega, by omega⟩, nread_put _ ⟨by omega, by omega⟩, nread_put _ ⟨by omega, by omega⟩]
  simp only [Prod.mk.injEq, decide_eq_true_eq, true_and]
  exact ⟨h1, h2, h3, h4, h5, h6, h7⟩
theorem actV_ok {x : Tlv} (hg : gT x) (h : (actV x).2 = true) : okA (actV x).1 ∧ pt x = oneB (actV x).1 := by
  by_cases hp : (prtB (pt x) [10, 2, 4, 2]).2 = 0
  · obtain ⟨a, b, c, d, h1, h2, h3, h4, h5, h6⟩ := prt4 hp
    unfold actV at h ⊢
    rw [h1] at h ⊢
    simp only at h ⊢
    obtain ⟨k1, k2, k3, k4⟩ := of_decide_eq_true h
    refine ⟨k4, ?_⟩
    have e : actL ((nread a).1, (nread b).1, c, (nread d).1, ()) = [(10, a, ()), (2, b, ()), (4, c, ()), (2, d, ())] := by
      unfold actL
      simp only
      rw [(nput_read a k1).2, (nput_read b k2).2, (nput_read d k3).2]
    unfold oneB rowT
    rw [e]
    have : pt (48, ([(10, a, ()), (2, b, ()), (4, c, ()), (2, d, ())].map pt).flatten, ()) = (rowB [(10, a, ()), (2, b, ()), (4, c, ()), (2, d, ())]).1 := rfl
    rw [this, h6]
  · unfold actV at h
    split at h
    · rename_i h1; exact absurd h1 hp
    · cases h
theorem rdA_put (l : List Act) (s : List UInt8) (h : putA l = (s, 0)) : rdA s = (l, 0) := by
  unfold putA at h
  split at h
  · cases h
  · rename_i h1
    split at h
    · rename_i h2
      have hg : ∀ x ∈ l.map rowT, gT x := fun x hx => by
        obtain ⟨a, ha, rfl⟩ := List.mem_map.1 hx
        exact (rowT_g (h2 a ha).2.2.2.2.2.2).1
      have e : l.map oneB = (l.map rowT).map pt := by rw [List.map_map]; rfl
      rw [e] at h
      have hr := read_put 48 ((l.map rowT).map pt).flatten [] (by rw [h])
      rw [List.append_nil, h] at hr
      simp only at hr
      have ha := allB_put (l.map rowT) hg (by rw [List.length_map]; omega)
      unfold rdA
      rw [hr]
      simp only
      rw [ha]
      simp only
      rw [if_pos ⟨⟨trivial, trivial, trivial⟩, trivial, fun x hx => by
        obtain ⟨a, ha, rfl⟩ := List.mem_map.1 hx
        rw [actV_rowT (h2 a ha)]⟩]
      congr 1
      rw [List.map_map]
      conv => rhs; rw [← List.map_id l]
      refine List.map_congr_left fun a ha => ?_
      show (actV (rowT a)).1 = a
      rw [actV_rowT (h2 a ha)]
    · cases h
theorem rdA_ok (s : List UInt8) (h : (rdA s).2 = 0) : ((readB s).2.2 = 0 ∧ (readB s).2.1 = s.length ∧ (readB s).1.1 = 48) ∧ (allB (readB s).1.2.1).2 = 0 ∧ (∀ x ∈ (allB (readB s).1.2.1).1, (actV x).2 = true) ∧ (rdA s).1 = (allB (readB s).1.2.1).1.map fun x => (actV x).1 := by
  unfold rdA at h ⊢
  split at h
  · rename_i h1; rw [if_pos h1]; exact ⟨h1.1, h1.2.1, h1.2.2, rfl⟩
  · cases h
theorem putA_rd (s : List UInt8) (h : (rdA s).2 = 0) : putA (rdA s).1 = (s, 0) := by
  obtain ⟨⟨h1, h2, h3⟩, h4, h5, h6⟩ := rdA_ok s h
  have hg := (allB_okT (readB s).1.2.1).2
  rw [h6]
  unfold putA
  have hlen := (allB_okT (readB s).1.2.1).1
  rw [if_neg (by rw [List.length_map]; omega), if_pos (fun a ha => by
    obtain ⟨x, hx, rfl⟩ := List.mem_map.1 ha
    exact (actV_ok (hg x hx) (h5 x hx)).1)]
  rw [List.map_map]
  have e : (allB (readB s).1.2.1).1.map (oneB ∘ fun x => (actV x).1) = (allB (readB s).1.2.1).1.map pt :=
    List.map_congr_left fun x hx => (actV_ok (hg x hx) (h5 x hx)).2.symm
  rw [e, ← allB_inv _ h4]
  have hp := put_read s h1
  rw [h3, h2, List.take_length] at hp
  exact hp
theorem rdA_err (s : List UInt8) (h : ¬ (rdA s).2 = 0) : rdA s = ([], 5) := by
  unfold rdA at h ⊢
  split at h
  · exact absurd rfl h
  · rename_i h1; rw [if_neg h1]
/-- What the document's reading of a part tries. -/
def actC (p : List Tlv) : Act := ((nread (p.getD 0 (0, [], ())).2.1).1, (nread (p.getD 1 (0, [], ())).2.1).1, (p.getD 2 (0, [], ())).2.1, (nread (p.getD 3 (0, [], ())).2.1).1, ())
theorem actC_act {a : Act} (h : okA a) : actC (actL a) = a := by
  obtain ⟨h1, h2, h3, h4, h5, h6, h7⟩ := h
  unfold actC actL
  simp only [List.getD_cons_zero, List.getD_cons_succ]
  rw [nread_put _ ⟨by omega, by omega⟩, nread_put _ ⟨by omega, by omega⟩, nread_put _ ⟨by omega, by omega⟩]
/-- If a script is read: what the document's reading meets. -/
theorem rdA_shape (s : List UInt8) (h : (rdA s).2 = 0) : (readB s).2.2 = 0 ∧ allB (readB s).1.2.1 = ((rdA s).1.map rowT, 0) ∧ (∀ a ∈ (rdA s).1, okA a ∧ allB (rowT a).2.1 = (actL a, 0)) := by
  have hp := putA_rd s h
  have hok : ∀ a ∈ (rdA s).1, okA a := by
    obtain ⟨_, _, h5, h6⟩ := rdA_ok s h
    intro a ha
    rw [h6] at ha
    obtain ⟨x, hx, rfl⟩ := List.mem_map.1 ha
    exact (actV_ok ((allB_okT (readB s).1.2.1).2 x hx) (h5 x hx)).1
  have hl : (rdA s).1.length ≤ 1024 := by
    obtain ⟨_, _, h5, h6⟩ := rdA_ok s h
    rw [h6, List.length_map]; exact (allB_okT (readB s).1.2.1).1
  have hr := (rdA_ok s h).1.1
  refine ⟨hr, ?_, fun a ha => ⟨hok a ha, ?_⟩⟩
  · unfold putA at hp
    rw [if_neg (by omega), if_pos hok] at hp
    have e : (rdA s).1.map oneB = ((rdA s).1.map rowT).map pt := by rw [List.map_map]; rfl
    rw [e] at hp
    have hr2 := read_put 48 (((rdA s).1.map rowT).map pt).flatten [] (by rw [hp])
    rw [List.append_nil, hp] at hr2
    simp only at hr2
    rw [hr2]
    exact allB_put _ (fun x hx => by
      obtain ⟨a, ha, rfl⟩ := List.mem_map.1 hx
      exact (rowT_g (hok a ha).2.2.2.2.2.2).1) (by rw [List.length_map]; exact hl)
  · exact allB_put (actL a) (fun x hx => (actL_g (hok a ha).2.2.2.2.2.2 x hx).1) (by simp [actL])
end Go.Proofs.Ytcffpndhodhncaa
end
section
/- Scripts: steps. -/
set_option linter.unusedSimpArgs false
set_option linter.unusedVariables false
namespace Go.Proofs.Ytcffpndhodhncaa
open Go.RowKit Go.Bo Go.Ab

theorem tags_c : PCalls Try.prog 70 [] (.agg [.x (.int .i64 10), .x (.int .i64 2), .x (.int .i64 4), .x (.int .i64 2)]) := by
  refine FCalls.pure (fcallsG (fz := true) G_ok (p := i70) rfl _ (Nat.le_of_ble_eq_true rfl) _ (fun C0 E0 => ?_)) rfl
  dsimp only [i70, argsφ]
  have uu := trivial
  refine WI.seq ?_
  refine WI.regB noTabs_ok [0] ?_
  refine oG ?_
  refine oN ?_
  refine thenQ_normal ?_
  refine WI.seq ?_
  refine WI.regB noTabs_ok [0] ?_
  iterate 2 refine oG ?_
  refine oN ?_
  refine thenQ_normal ?_
  refine WI.ret ?_
  first | refine lfR ?_ | refine lfR2 ?_
  first | rfl | exact ⟨rfl, rfl⟩ | trivial -- leaf 0
def tagsG : List D → Option (Bool × D)
  | [] => some (true, .agg [.x (.int .i64 10), .x (.int .i64 2), .x (.int .i64 4), .x (.int .i64 2)])
  | _ => none
theorem tagsG_ok : ∀ args r, tagsG args = some (true, r) → PCalls Try.prog 70 args r := by
  intro args r h
  unfold tagsG at h
  split at h
  · simp only [Option.some.injEq, Prod.mk.injEq, Bool.and_eq_true, decide_eq_true_eq, true_and] at h
    obtain rfl := h
    exact tags_c 
  · cases h
theorem okA_and (a : Act) : (decide (a.1 ≥ 1) && decide (a.1 ≤ 5) && decide (a.2.1 ≥ 0) && decide (a.2.1 ≤ 255) && decide (a.2.2.2.1 ≥ 0) && decide (a.2.2.2.1 ≤ 2147483647) && decide ((a.2.2.1.length : Int) ≤ 4096)) = decide (okA a) := by
  rw [Bool.eq_iff_iff]
  simp only [Bool.and_eq_true, decide_eq_true_eq]
  unfold okA
  omega
theorem checkA_c (a : Act) : PCalls Try.prog 39 [.agg [.x (.int .i64 a.1), .x (.int .i64 a.2.1), .x (.str a.2.2.1), .x (.int .i64 a.2.2.2.1)]] (.x (.bool (decide (okA a)))) := by
  refine FCalls.pure (fcallsG (fz := true) G_ok (p := i39) rfl _ (Nat.le_of_ble_eq_true rfl) _ (fun C0 E0 => ?_)) rfl
  dsimp only [i39, argsφ]
  have uu := trivial
  refine WI.seq ?_
  refine WI.regB noTabs_ok [1] ?_
  refine oG ?_
  refine oS ?_
  refine oN ?_
  refine thenQ_normal ?_
  refine WI.seq ?_
  refine WI.regB noTabs_ok [2] ?_
  refine oS ?_
  iterate 2 refine oG ?_
  refine oS ?_
  iterate 4 refine oG ?_
  refine oS ?_
  iterate 4 refine oG ?_
  refine oS ?_
  iterate 4 refine oG ?_
  refine oS ?_
  iterate 4 refine oG ?_
  refine oS ?_
  iterate 4 refine oG ?_
  refine oS ?_
  iterate 5 refine oG ?_
  refine oS ?_
  refine oN ?_
  refine thenQ_normal ?_
  refine WI.ret ?_
  first | refine lfR ?_ | refine lfR2 ?_
  rw [← okA_and] -- leaf 0
theorem checkAR_c (a : Act) : PCalls Try.prog 42 [.agg [.x (.int .i64 a.1), .x (.int .i64 a.2.1), .x (.str a.2.2.1), .x (.int .i64 a.2.2.2.1)]] (.x (.bool (decide (okA a)))) := by
  refine FCalls.pure (fcallsG (fz := true) G_ok (p := i42) rfl _ (Nat.le_of_ble_eq_true rfl) _ (fun C0 E0 => ?_)) rfl
  dsimp only [i42, argsφ]
  have uu := trivial
  refine WI.seq ?_
  refine WI.regB noTabs_ok [1] ?_
  refine oG ?_
  refine oS ?_
  refine oN ?_
  refine thenQ_normal ?_
  refine WI.seq ?_
  refine WI.regB noTabs_ok [2] ?_
  refine oS ?_
  iterate 2 refine oG ?_
  refine oS ?_
  iterate 4 refine oG ?_
  refine oS ?_
  iterate 4 refine oG ?_
  refine oS ?_
  iterate 4 refine oG ?_
  refine oS ?_
  iterate 4 refine oG ?_
  refine oS ?_
  iterate 4 refine oG ?_
  refine oS ?_
  iterate 5 refine oG ?_
  refine oS ?_
  refine oN ?_
  refine thenQ_normal ?_
  refine WI.ret ?_
  first | refine lfR ?_ | refine lfR2 ?_
  rw [← okA_and] -- leaf 0
def checkAG : List D → Option (Bool × D)
  | [.agg [.x (.int .i64 a), .x (.int .i64 b), .x (.str c), .x (.int .i64 d)]] => some (true, .x (.bool (decide (okA (a, b, c, d, ())))))
  | _ => none
theorem checkAG_ok : ∀ args r, checkAG args = some (true, r) → PCalls Try.prog 39 args r := by
  intro args r h
  unfold checkAG at h
  split at h
  · rename_i a b c d
    simp only [Option.some.injEq, Prod.mk.injEq, Bool.and_eq_true, decide_eq_true_eq, true_and] at h
    obtain rfl := h
    exact checkA_c (a, b, c, d, ())
  · cases h
def checkARG : List D → Option (Bool × D)
  | [.agg [.x (.int .i64 a), .x (.int .i64 b), .x (.str c), .x (.int .i64 d)]] => some (true, .x (.bool (decide (okA (a, b, c, d, ())))))
  | _ => none
theorem checkARG_ok : ∀ args r, checkARG args = some (true, r) → PCalls Try.prog 42 args r := by
  intro args r h
  unfold checkARG at h
  split at h
  · rename_i a b c d
    simp only [Option.some.injEq, Prod.mk.injEq, Bool.and_eq_true, decide_eq_true_eq, true_and] at h
    obtain rfl := h
    exact checkAR_c (a, b, c, d, ())
  · cases h
def tabSc1 : Tabs := addT (addQ (addQ (addQ (addQ (noTabs) 69 nputG) 71 putG) 70 tagsG) 41 (viaNN tseqG)) 41 (frzT (viaNN tseqG))
theorem tabSc1_ok : SsOk Try.prog tabSc1 := addT_ok (addQ_ok (addQ_ok (addQ_ok (addQ_ok (noTabs_ok) (G_enters G_ok (p := i69) rfl) nputG_ok) (G_enters G_ok (p := i71) rfl) putG_ok) (G_enters G_ok (p := i70) rfl) tagsG_ok) (G_enters G_ok (p := i41) rfl) (viaNN_ok tseqG_ok)) (G_enters G_ok (p := i41) rfl) (frzT_ok (viaNN_ok tseqG_ok))
theorem tabSc1_q69 (a : List D) : tabSc1.q 69 a = nputG a := rfl
theorem tabSc1_q71 (a : List D) : tabSc1.q 71 a = putG a := rfl
theorem tabSc1_q70 (a : List D) : tabSc1.q 70 a = tagsG a := rfl
theorem tabSc1_q41 (a : List D) : tabSc1.q 41 a = viaNN tseqG a := rfl
theorem tabSc1_t41 (a : List D) (o : List Ob) : tabSc1.t 41 a o = liftT (frzT (viaNN tseqG)) a o := rfl
theorem tabSc1_r (f : FuncId) (a : List D) (o : List Ob) : tabSc1.r f a o = none := rfl
theorem tabSc1_k (f : FuncId) (a : List D) (o : List Ob) : tabSc1.k f a o = none := rfl
theorem one_c (a : Act) (h : a.2.2.1.length ≤ 4096) : PCalls Try.prog 40 [.agg [.x (.int .i64 a.1), .x (.int .i64 a.2.1), .x (.str a.2.2.1), .x (.int .i64 a.2.2.2.1)]] (.x (.str (oneB a))) := by
  have g1 := pt_len (gT_mk (t := 10) (b := (nput a.1).1) rfl (by have := nput_len a.1; omega))
  have g2 := pt_len (gT_mk (t := 2) (b := (nput a.2.1).1) rfl (by have := nput_len a.2.1; omega))
  have g3 := pt_len (gT_mk (t := 4) (b := a.2.2.1) rfl (by omega))
  have g4 := pt_len (gT_mk (t := 2) (b := (nput a.2.2.2.1).1) rfl (by have := nput_len a.2.2.2.1; omega))
  have k1 := nput_len a.1
  have k2 := nput_len a.2.1
  have k4 := nput_len a.2.2.2.1
  simp only [pt_def] at g1 g2 g3 g4
  refine FCalls.pure (fcallsG (fz := true) G_ok (p := i40) rfl _ (Nat.le_of_ble_eq_true rfl) _ (fun C0 E0 => ?_)) rfl
  dsimp only [i40, argsφ]
  have uu := And.intro @nputG.eq_1 (And.intro @nputG.eq_2 (And.intro @putG.eq_1 (And.intro @putG.eq_2 (And.intro @tagsG.eq_1 (And.intro @tagsG.eq_2 (And.intro @tseqG.eq_1 (And.intro @tseqG.eq_2 (And.intro @un_str (And.intro @tabSc1_r (And.intro @tabSc1_k (And.intro @tabSc1_q41 (And.intro @tabSc1_q69 (And.intro @tabSc1_q70 (And.intro @tabSc1_q71 (And.intro @tabSc1_t41 (@frzT.eq_1))))))))))))))))
  refine WI.seq ?_
  refine WI.regB tabSc1_ok [1] ?_
  refine oG (hok := by first | with_reducible rfl | omega | (simp only [List.length_append, decide_eq_true_eq]; omega) | (simp only [List.reverse_cons, List.reverse_nil, List.nil_append, List.flatten_cons, List.flatten_nil, List.append_nil, List.length_append, List.length_cons, List.length_nil, Bool.and_eq_true, decide_eq_true_eq]; omega) | (simp; done) | (simp; omega) | rfl) ?_
  refine oS ?_
  refine oN ?_
  refine thenQ_normal ?_
  refine WI.seq ?_
  refine WI.regB tabSc1_ok [1, 3] ?_
  refine oG (hok := by first | with_reducible rfl | omega | (simp only [List.length_append, decide_eq_true_eq]; omega) | (simp only [List.reverse_cons, List.reverse_nil, List.nil_append, List.flatten_cons, List.flatten_nil, List.append_nil, List.length_append, List.length_cons, List.length_nil, Bool.and_eq_true, decide_eq_true_eq]; omega) | (simp; done) | (simp; omega) | rfl) ?_
  refine oN ?_
  refine thenQ_normal ?_
  refine WI.seq ?_
  refine WI.regB tabSc1_ok [1, 3] ?_
  refine oS ?_
  refine oG (hok := by first | with_reducible rfl | omega | (simp only [List.length_append, decide_eq_true_eq]; omega) | (simp only [List.reverse_cons, List.reverse_nil, List.nil_append, List.flatten_cons, List.flatten_nil, List.append_nil, List.length_append, List.length_cons, List.length_nil, Bool.and_eq_true, decide_eq_true_eq]; omega) | (simp; done) | (simp; omega) | rfl) ?_
  refine oC (hok := by first | with_reducible rfl | omega | (simp only [List.length_append, decide_eq_true_eq]; omega) | (simp only [List.reverse_cons, List.reverse_nil, List.nil_append, List.flatten_cons, List.flatten_nil, List.append_nil, List.length_append, List.length_cons, List.length_nil, Bool.and_eq_true, decide_eq_true_eq]; omega) | (simp; done) | (simp; omega) | rfl) ?_
  refine oS ?_
  iterate 4 refine oG (hok := by first | with_reducible rfl | omega | (simp only [List.length_append, decide_eq_true_eq]; omega) | (simp only [List.reverse_cons, List.reverse_nil, List.nil_append, List.flatten_cons, List.flatten_nil, List.append_nil, List.length_append, List.length_cons, List.length_nil, Bool.and_eq_true, decide_eq_true_eq]; omega) | (simp; done) | (simp; omega) | rfl) ?_
  refine oN ?_
  refine thenQ_normal ?_
  refine WI.seq ?_
  refine WI.regB tabSc1_ok [1, 3] ?_
  refine oS ?_
  refine oG (hok := by first | with_reducible rfl | omega | (simp only [List.length_append, decide_eq_true_eq]; omega) | (simp only [List.reverse_cons, List.reverse_nil, List.nil_append, List.flatten_cons, List.flatten_nil, List.append_nil, List.length_append, List.length_cons, List.length_nil, Bool.and_eq_true, decide_eq_true_eq]; omega) | (simp; done) | (simp; omega) | rfl) ?_
  refine oC (hok := by first | with_reducible rfl | omega | (simp only [List.length_append, decide_eq_true_eq]; omega) | (simp only [List.reverse_cons, List.reverse_nil, List.nil_append, List.flatten_cons, List.flatten_nil, List.append_nil, List.length_append, List.length_cons, List.length_nil, Bool.and_eq_true, decide_eq_true_eq]; omega) | (simp; done) | (simp; omega) | rfl) ?_
  refine oS ?_
  iterate 4 refine oG (hok := by first | with_reducible rfl | omega | (simp only [List.length_append, decide_eq_true_eq]; omega) | (simp only [List.reverse_cons, List.reverse_nil, List.nil_append, List.flatten_cons, List.flatten_nil, List.append_nil, List.length_append, List.length_cons, List.length_nil, Bool.and_eq_true, decide_eq_true_eq]; omega) | (simp; done) | (simp; omega) | rfl) ?_
  refine oN ?_
  refine thenQ_normal ?_
  refine WI.seq ?_
  refine WI.regB tabSc1_ok [1, 3] ?_
  refine oS ?_
  iterate 3 refine oG (hok := by first | with_reducible rfl | omega | (simp only [List.length_append, decide_eq_true_eq]; omega) | (simp only [List.reverse_cons, List.reverse_nil, List.nil_append, List.flatten_cons, List.flatten_nil, List.append_nil, List.length_append, List.length_cons, List.length_nil, Bool.and_eq_true, decide_eq_true_eq]; omega) | (simp; done) | (simp; omega) | rfl) ?_
  refine oN ?_
  refine thenQ_normal ?_
  refine WI.seq ?_
  refine WI.regB tabSc1_ok [3] ?_
  refine oS ?_
  refine oG (hok := by first | with_reducible rfl | omega | (simp only [List.length_append, decide_eq_true_eq]; omega) | (simp only [List.reverse_cons, List.reverse_nil, List.nil_append, List.flatten_cons, List.flatten_nil, List.append_nil, List.length_append, List.length_cons, List.length_nil, Bool.and_eq_true, decide_eq_true_eq]; omega) | (simp; done) | (simp; omega) | rfl) ?_
  refine oC (hok := by first | with_reducible rfl | omega | (simp only [List.length_append, decide_eq_true_eq]; omega) | (simp only [List.reverse_cons, List.reverse_nil, List.nil_append, List.flatten_cons, List.flatten_nil, List.append_nil, List.length_append, List.length_cons, List.length_nil, Bool.and_eq_true, decide_eq_true_eq]; omega) | (simp; done) | (simp; omega) | rfl) ?_
  refine oS ?_
  iterate 4 refine oG (hok := by first | with_reducible rfl | omega | (simp only [List.length_append, decide_eq_true_eq]; omega) | (simp only [List.reverse_cons, List.reverse_nil, List.nil_append, List.flatten_cons, List.flatten_nil, List.append_nil, List.length_append, List.length_cons, List.length_nil, Bool.and_eq_true, decide_eq_true_eq]; omega) | (simp; done) | (simp; omega) | rfl) ?_
  refine oN ?_
  refine thenQ_normal ?_
  refine WI.seq ?_
  refine WI.regB tabSc1_ok [3, 4] ?_
  refine oS ?_
  refine oN ?_
  refine thenQ_normal ?_
  refine WI.seq ?_
  refine WI.seq ?_
  refine WI.regB tabSc1_ok [3, 4, 35, 36] ?_
  refine oC (hok := by first | with_reducible rfl | omega | (simp only [List.length_append, decide_eq_true_eq]; omega) | (simp only [List.reverse_cons, List.reverse_nil, List.nil_append, List.flatten_cons, List.flatten_nil, List.append_nil, List.length_append, List.length_cons, List.length_nil, Bool.and_eq_true, decide_eq_true_eq]; omega) | (simp; done) | (simp; omega) | rfl) ?_
  refine oS ?_
  refine oN ?_
  refine thenQ_normal ?_
  refine WI.block ?_
  refine WI.loopN 5 ?_
  refine WI.round ?_
  refine WI.seq ?_
  refine WI.regB tabSc1_ok [3, 4, 35, 36, 37] ?_
  refine oG (hok := by first | with_reducible rfl | omega | (simp only [List.length_append, decide_eq_true_eq]; omega) | (simp only [List.reverse_cons, List.reverse_nil, List.nil_append, List.flatten_cons, List.flatten_nil, List.append_nil, List.length_append, List.length_cons, List.length_nil, Bool.and_eq_true, decide_eq_true_eq]; omega) | (simp; done) | (simp; omega) | rfl) ?_
  refine oN ?_
  refine thenQ_normal ?_
  refine WI.seq ?_
  refine WI.cond (b := _) rfl rfl (fun h0 => ?_) (fun h0 => ?_)
  · try simp only [zB] at h0
    refine WI.skip ?_
    refine thenQ_normal ?_
    refine WI.seq ?_
    refine WI.block ?_
    refine WI.seq ?_
    refine WI.regB tabSc1_ok [3, 4, 5, 6, 35, 36] ?_
    refine oS ?_
    refine oG (hok := by first | with_reducible rfl | omega | (simp only [List.length_append, decide_eq_true_eq]; omega) | (simp only [List.reverse_cons, List.reverse_nil, List.nil_append, List.flatten_cons, List.flatten_nil, List.append_nil, List.length_append, List.length_cons, List.length_nil, Bool.and_eq_true, decide_eq_true_eq]; omega) | (simp; done) | (simp; omega) | rfl) ?_
    iterate 2 refine oS ?_
    refine oN ?_
    refine thenQ_normal ?_
    refine WI.seq ?_
    refine WI.regB tabSc1_ok [3, 4, 7, 35, 36] ?_
    iterate 2 refine oS ?_
    iterate 2 refine oG (hok := by first | with_reducible rfl | omega | (simp only [List.length_append, decide_eq_true_eq]; omega) | (simp only [List.reverse_cons, List.reverse_nil, List.nil_append, List.flatten_cons, List.flatten_nil, List.append_nil, List.length_append, List.length_cons, List.length_nil, Bool.and_eq_true, decide_eq_true_eq]; omega) | (simp; done) | (simp; omega) | rfl) ?_
    refine oC (hok := by first | with_reducible rfl | omega | (simp only [List.length_append, decide_eq_true_eq]; omega) | (simp only [List.reverse_cons, List.reverse_nil, List.nil_append, List.flatten_cons, List.flatten_nil, List.append_nil, List.length_append, List.length_cons, List.length_nil, Bool.and_eq_true, decide_eq_true_eq]; omega) | (simp; done) | (simp; omega) | rfl) ?_
    refine oS ?_
    iterate 2 refine oG (hok := by first | with_reducible rfl | omega | (simp only [List.length_append, decide_eq_true_eq]; omega) | (simp only [List.reverse_cons, List.reverse_nil, List.nil_append, List.flatten_cons, List.flatten_nil, List.append_nil, List.length_append, List.length_cons, List.length_nil, Bool.and_eq_true, decide_eq_true_eq]; omega) | (simp; done) | (simp; omega) | rfl) ?_
    iterate 2 refine oS ?_
    refine oN ?_
    refine thenQ_normal ?_
    refine WI.regB tabSc1_ok [3, 4, 35, 36] ?_
    iterate 2 refine oS ?_
    refine oG (hok := by first | with_reducible rfl | omega | (simp only [List.length_append, decide_eq_true_eq]; omega) | (simp only [List.reverse_cons, List.reverse_nil, List.nil_append, List.flatten_cons, List.flatten_nil, List.append_nil, List.length_append, List.length_cons, List.length_nil, Bool.and_eq_true, decide_eq_true_eq]; omega) | (simp; done) | (simp; omega) | rfl) ?_
    refine oS ?_
    refine oN ?_
    refine blockQ_normal ?_
    refine thenQ_normal ?_
    refine WI.regB tabSc1_ok [3, 4, 35, 36] ?_
    refine oG (hok := by first | with_reducible rfl | omega | (simp only [List.length_append, decide_eq_true_eq]; omega) | (simp only [List.reverse_cons, List.reverse_nil, List.nil_append, List.flatten_cons, List.flatten_nil, List.append_nil, List.length_append, List.length_cons, List.length_nil, Bool.and_eq_true, decide_eq_true_eq]; omega) | (simp; done) | (simp; omega) | rfl) ?_
    refine oS ?_
    refine oN ?_
    refine thenQ_normal ?_
    refine WI.round ?_
    refine WI.seq ?_
    refine WI.regB tabSc1_ok [3, 4, 35, 36, 37] ?_
    refine oG (hok := by first | with_reducible rfl | omega | (simp only [List.length_append, decide_eq_true_eq]; omega) | (simp only [List.reverse_cons, List.reverse_nil, List.nil_append, List.flatten_cons, List.flatten_nil, List.append_nil, List.length_append, List.length_cons, List.length_nil, Bool.and_eq_true, decide_eq_true_eq]; omega) | (simp; done) | (simp; omega) | rfl) ?_
    refine oN ?_
    refine thenQ_normal ?_
    refine WI.seq ?_
    refine WI.cond (b := _) rfl rfl (fun h0 => ?_) (fun h0 => ?_)
    · try simp only [zB] at h0
      refine WI.skip ?_
      refine thenQ_normal ?_
      refine WI.seq ?_
      refine WI.block ?_
      refine WI.seq ?_
      refine WI.regB tabSc1_ok [3, 4, 5, 6, 35, 36] ?_
      refine oS ?_
      refine oG (hok := by first | with_reducible rfl | omega | (simp only [List.length_append, decide_eq_true_eq]; omega) | (simp only [List.reverse_cons, List.reverse_nil, List.nil_append, List.flatten_cons, List.flatten_nil, List.append_nil, List.length_append, List.length_cons, List.length_nil, Bool.and_eq_true, decide_eq_true_eq]; omega) | (simp; done) | (simp; omega) | rfl) ?_
      iterate 2 refine oS ?_
      refine oN ?_
      refine thenQ_normal ?_
      refine WI.seq ?_
      refine WI.regB tabSc1_ok [3, 4, 7, 35, 36] ?_
      iterate 2 refine oS ?_
      iterate 2 refine oG (hok := by first | with_reducible rfl | omega | (simp only [List.length_append, decide_eq_true_eq]; omega) | (simp only [List.reverse_cons, List.reverse_nil, List.nil_append, List.flatten_cons, List.flatten_nil, List.append_nil, List.length_append, List.length_cons, List.length_nil, Bool.and_eq_true, decide_eq_true_eq]; omega) | (simp; done) | (simp; omega) | rfl) ?_
      refine oC (hok := by first | with_reducible rfl | omega | (simp only [List.length_append, decide_eq_true_eq]; omega) | (simp only [List.reverse_cons, List.reverse_nil, List.nil_append, List.flatten_cons, List.flatten_nil, List.append_nil, List.length_append, List.length_cons, List.length_nil, Bool.and_eq_true, decide_eq_true_eq]; omega) | (simp; done) | (simp; omega) | rfl) ?_
      refine oS ?_
      iterate 2 refine oG (hok := by first | with_reducible rfl | omega | (simp only [List.length_append, decide_eq_true_eq]; omega) | (simp only [List.reverse_cons, List.reverse_nil, List.nil_append, List.flatten_cons, List.flatten_nil, List.append_nil, List.length_append, List.length_cons, List.length_nil, Bool.and_eq_true, decide_eq_true_eq]; omega) | (simp; done) | (simp; omega) | rfl) ?_
      iterate 2 refine oS ?_
      refine oN ?_
      refine thenQ_normal ?_
      refine WI.regB tabSc1_ok [3, 4, 35, 36] ?_
      iterate 2 refine oS ?_
      refine oG (hok := by first | with_reducible rfl | omega | (simp only [List.length_append, decide_eq_true_eq]; omega) | (simp only [List.reverse_cons, List.reverse_nil, List.nil_append, List.flatten_cons, List.flatten_nil, List.append_nil, List.length_append, List.length_cons, List.length_nil, Bool.and_eq_true, decide_eq_true_eq]; omega) | (simp; done) | (simp; omega) | rfl) ?_
      refine oS ?_
      refine oN ?_
      refine blockQ_normal ?_
      refine thenQ_normal ?_
      refine WI.regB tabSc1_ok [3, 4, 35, 36] ?_
      refine oG (hok := by first | with_reducible rfl | omega | (simp only [List.length_append, decide_eq_true_eq]; omega) | (simp only [List.reverse_cons, List.reverse_nil, List.nil_append, List.flatten_cons, List.flatten_nil, List.append_nil, List.length_append, List.length_cons, List.length_nil, Bool.and_eq_true, decide_eq_true_eq]; omega) | (simp; done) | (simp; omega) | rfl) ?_
      refine oS ?_
      refine oN ?_
      refine thenQ_normal ?_
      refine WI.round ?_
      refine WI.seq ?_
      refine WI.regB tabSc1_ok [3, 4, 35, 36, 37] ?_
      refine oG (hok := by first | with_reducible rfl | omega | (simp only [List.length_append, decide_eq_true_eq]; omega) | (simp only [List.reverse_cons, List.reverse_nil, List.nil_append, List.flatten_cons, List.flatten_nil, List.append_nil, List.length_append, List.length_cons, List.length_nil, Bool.and_eq_true, decide_eq_true_eq]; omega) | (simp; done) | (simp; omega) | rfl) ?_
      refine oN ?_
      refine thenQ_normal ?_
      refine WI.seq ?_
      refine WI.cond (b := _) rfl rfl (fun h0 => ?_) (fun h0 => ?_)
      · try simp only [zB] at h0
        refine WI.skip ?_
        refine thenQ_normal ?_
        refine WI.seq ?_
        refine WI.block ?_
        refine WI.seq ?_
        refine WI.regB tabSc1_ok [3, 4, 5, 6, 35, 36] ?_
        refine oS ?_
        refine oG (hok := by first | with_reducible rfl | omega | (simp only [List.length_append, decide_eq_true_eq]; omega) | (simp only [List.reverse_cons, List.reverse_nil, List.nil_append, List.flatten_cons, List.flatten_nil, List.append_nil, List.length_append, List.length_cons, List.length_nil, Bool.and_eq_true, decide_eq_true_eq]; omega) | (simp; done) | (simp; omega) | rfl) ?_
        iterate 2 refine oS ?_
        refine oN ?_
        refine thenQ_normal ?_
        refine WI.seq ?_
        refine WI.regB tabSc1_ok [3, 4, 7, 35, 36] ?_
        iterate 2 refine oS ?_
        iterate 2 refine oG (hok := by first | with_reducible rfl | omega | (simp only [List.length_append, decide_eq_true_eq]; omega) | (simp only [List.reverse_cons, List.reverse_nil, List.nil_append, List.flatten_cons, List.flatten_nil, List.append_nil, List.length_append, List.length_cons, List.length_nil, Bool.and_eq_true, decide_eq_true_eq]; omega) | (simp; done) | (simp; omega) | rfl) ?_
        refine oC (hok := by first | with_reducible rfl | omega | (simp only [List.length_append, decide_eq_true_eq]; omega) | (simp only [List.reverse_cons, List.reverse_nil, List.nil_append, List.flatten_cons, List.flatten_nil, List.append_nil, List.length_append, List.length_cons, List.length_nil, Bool.and_eq_true, decide_eq_true_eq]; omega) | (simp; done) | (simp; omega) | rfl) ?_
        refine oS ?_
        iterate 2 refine oG (hok := by first | with_reducible rfl | omega | (simp only [List.length_append, decide_eq_true_eq]; omega) | (simp only [List.reverse_cons, List.reverse_nil, List.nil_append, List.flatten_cons, List.flatten_nil, List.append_nil, List.length_append, List.length_cons, List.length_nil, Bool.and_eq_true, decide_eq_true_eq]; omega) | (simp; done) | (simp; omega) | rfl) ?_
        iterate 2 refine oS ?_
        refine oN ?_
        refine thenQ_normal ?_
        refine WI.regB tabSc1_ok [3, 4, 35, 36] ?_
        iterate 2 refine oS ?_
        refine oG (hok := by first | with_reducible rfl | omega | (simp only [List.length_append, decide_eq_true_eq]; omega) | (simp only [List.reverse_cons, List.reverse_nil, List.nil_append, List.flatten_cons, List.flatten_nil, List.append_nil, List.length_append, List.length_cons, List.length_nil, Bool.and_eq_true, decide_eq_true_eq]; omega) | (simp; done) | (simp; omega) | rfl) ?_
        refine oS ?_
        refine oN ?_
        refine blockQ_normal ?_
        refine thenQ_normal ?_
        refine WI.regB tabSc1_ok [3, 4, 35, 36] ?_
        refine oG (hok := by first | with_reducible rfl | omega | (simp only [List.length_append, decide_eq_true_eq]; omega) | (simp only [List.reverse_cons, List.reverse_nil, List.nil_append, List.flatten_cons, List.flatten_nil, List.append_nil, List.length_append, List.length_cons, List.length_nil, Bool.and_eq_true, decide_eq_true_eq]; omega) | (simp; done) | (simp; omega) | rfl) ?_
        refine oS ?_
        refine oN ?_
        refine thenQ_normal ?_
        refine WI.round ?_
        refine WI.seq ?_
        refine WI.regB tabSc1_ok [3, 4, 35, 36, 37] ?_
        refine oG (hok := by first | with_reducible rfl | omega | (simp only [List.length_append, decide_eq_true_eq]; omega) | (simp only [List.reverse_cons, List.reverse_nil, List.nil_append, List.flatten_cons, List.flatten_nil, List.append_nil, List.length_append, List.length_cons, List.length_nil, Bool.and_eq_true, decide_eq_true_eq]; omega) | (simp; done) | (simp; omega) | rfl) ?_
        refine oN ?_
        refine thenQ_normal ?_
        refine WI.seq ?_
        refine WI.cond (b := _) rfl rfl (fun h0 => ?_) (fun h0 => ?_)
        · try simp only [zB] at h0
          refine WI.skip ?_
          refine thenQ_normal ?_
          refine WI.seq ?_
          refine WI.block ?_
          refine WI.seq ?_
          refine WI.regB tabSc1_ok [3, 4, 5, 6, 35, 36] ?_
          refine oS ?_
          refine oG (hok := by first | with_reducible rfl | omega | (simp only [List.length_append, decide_eq_true_eq]; omega) | (simp only [List.reverse_cons, List.reverse_nil, List.nil_append, List.flatten_cons, List.flatten_nil, List.append_nil, List.length_append, List.length_cons, List.length_nil, Bool.and_eq_true, decide_eq_true_eq]; omega) | (simp; done) | (simp; omega) | rfl) ?_
          iterate 2 refine oS ?_
          refine oN ?_
          refine thenQ_normal ?_
          refine WI.seq ?_
          refine WI.regB tabSc1_ok [3, 4, 7, 35, 36] ?_
          iterate 2 refine oS ?_
          iterate 2 refine oG (hok := by first | with_reducible rfl | omega | (simp only [List.length_append, decide_eq_true_eq]; omega) | (simp only [List.reverse_cons, List.reverse_nil, List.nil_append, List.flatten_cons, List.flatten_nil, List.append_nil, List.length_append, List.length_cons, List.length_nil, Bool.and_eq_true, decide_eq_true_eq]; omega) | (simp; done) | (simp; omega) | rfl) ?_
          refine oC (hok := by first | with_reducible rfl | omega | (simp only [List.length_append, decide_eq_true_eq]; omega) | (simp only [List.reverse_cons, List.reverse_nil, List.nil_append, List.flatten_cons, List.flatten_nil, List.append_nil, List.length_append, List.length_cons, List.length_nil, Bool.and_eq_true, decide_eq_true_eq]; omega) | (simp; done) | (simp; omega) | rfl) ?_
          refine oS ?_
          iterate 2 refine oG (hok := by first | with_reducible rfl | omega | (simp only [List.length_append, decide_eq_true_eq]; omega) | (simp only [List.reverse_cons, List.reverse_nil, List.nil_append, List.flatten_cons, List.flatten_nil, List.append_nil, List.length_append, List.length_cons, List.length_nil, Bool.and_eq_true, decide_eq_true_eq]; omega) | (simp; done) | (simp; omega) | rfl) ?_
          iterate 2 refine oS ?_
          refine oN ?_
          refine thenQ_normal ?_
          refine WI.regB tabSc1_ok [3, 4, 35, 36] ?_
          iterate 2 refine oS ?_
          refine oG (hok := by first | with_reducible rfl | omega | (simp only [List.length_append, decide_eq_true_eq]; omega) | (simp only [List.reverse_cons, List.reverse_nil, List.nil_append, List.flatten_cons, List.flatten_nil, List.append_nil, List.length_append, List.length_cons, List.length_nil, Bool.and_eq_true, decide_eq_true_eq]; omega) | (simp; done) | (simp; omega) | rfl) ?_
          refine oS ?_
          refine oN ?_
          refine blockQ_normal ?_
          refine thenQ_normal ?_
          refine WI.regB tabSc1_ok [3, 4, 35, 36] ?_
          refine oG (hok := by first | with_reducible rfl | omega | (simp only [List.length_append, decide_eq_true_eq]; omega) | (simp only [List.reverse_cons, List.reverse_nil, List.nil_append, List.flatten_cons, List.flatten_nil, List.append_nil, List.length_append, List.length_cons, List.length_nil, Bool.and_eq_true, decide_eq_true_eq]; omega) | (simp; done) | (simp; omega) | rfl) ?_
          refine oS ?_
          refine oN ?_
          refine thenQ_normal ?_
          refine WI.round ?_
          refine WI.seq ?_
          refine WI.regB tabSc1_ok [3, 4, 35, 36, 37] ?_
          refine oG (hok := by first | with_reducible rfl | omega | (simp only [List.length_append, decide_eq_true_eq]; omega) | (simp only [List.reverse_cons, List.reverse_nil, List.nil_append, List.flatten_cons, List.flatten_nil, List.append_nil, List.length_append, List.length_cons, List.length_nil, Bool.and_eq_true, decide_eq_true_eq]; omega) | (simp; done) | (simp; omega) | rfl) ?_
          refine oN ?_
          refine thenQ_normal ?_
          refine WI.seq ?_
          refine WI.cond (b := _) rfl rfl (fun h0 => ?_) (fun h0 => ?_)
          · exact absurd h0 (by decide)
          · try simp only [zB] at h0
            refine WI.exit ?_
            refine thenQ_exit ?_
            refine thenQ_exit ?_
            refine blockQ_hit ?_
            refine thenQ_normal ?_
            refine WI.seq ?_
            refine WI.regB tabSc1_ok [9] ?_
            refine oS ?_
            refine oG (hok := by first | with_reducible rfl | omega | (simp only [List.length_append, decide_eq_true_eq]; omega) | (simp only [List.reverse_cons, List.reverse_nil, List.nil_append, List.flatten_cons, List.flatten_nil, List.append_nil, List.length_append, List.length_cons, List.length_nil, Bool.and_eq_true, decide_eq_true_eq]; omega) | (simp; done) | (simp; omega) | rfl) ?_
            refine oC (hok := by first | with_reducible rfl | omega | (simp only [List.length_append, decide_eq_true_eq]; omega) | (simp only [List.reverse_cons, List.reverse_nil, List.nil_append, List.flatten_cons, List.flatten_nil, List.append_nil, List.length_append, List.length_cons, List.length_nil, Bool.and_eq_true, decide_eq_true_eq]; omega) | (simp; done) | (simp; omega) | rfl) ?_
            refine oS ?_
            iterate 2 refine oG (hok := by first | with_reducible rfl | omega | (simp only [List.length_append, decide_eq_true_eq]; omega) | (simp only [List.reverse_cons, List.reverse_nil, List.nil_append, List.flatten_cons, List.flatten_nil, List.append_nil, List.length_append, List.length_cons, List.length_nil, Bool.and_eq_true, decide_eq_true_eq]; omega) | (simp; done) | (simp; omega) | rfl) ?_
            iterate 2 refine oS ?_
            refine oN ?_
            refine thenQ_normal ?_
            refine WI.seq ?_
            refine WI.regB tabSc1_ok [2] ?_
            iterate 2 refine oS ?_
            refine oN ?_
            refine thenQ_normal ?_
            refine WI.ret ?_
            first | refine lfR ?_ | refine lfR2 ?_
            simp [seqB, oneB, rowT, actL, pt_def] -- leaf 0
        · exact absurd h0 (by decide)
      · exact absurd h0 (by decide)
    · exact absurd h0 (by decide)
  · exact absurd h0 (by decide)
def oneG : List D → Option (Bool × D)
  | [.agg [.x (.int .i64 a), .x (.int .i64 b), .x (.str c), .x (.int .i64 d)]] => some (decide (c.length ≤ 4096), .x (.str (oneB (a, b, c, d, ()))))
  | _ => none
theorem oneG_ok : ∀ args r, oneG args = some (true, r) → PCalls Try.prog 40 args r := by
  intro args r h
  unfold oneG at h
  split at h
  · rename_i a b c d
    simp only [Option.some.injEq, Prod.mk.injEq, Bool.and_eq_true, decide_eq_true_eq, true_and] at h
    obtain ⟨h1, rfl⟩ := h
    exact one_c (a, b, c, d, ()) h1
  · cases h
def tabSc2 : Tabs := addT (addQ (addQ (addQ (addQ (addQ (noTabs) 71 putG) 66 nreadG) 70 tagsG) 39 checkAG) 65 (viaNN tpartsG)) 65 (frzT (viaNN tpartsG))
theorem tabSc2_ok : SsOk Try.prog tabSc2 := addT_ok (addQ_ok (addQ_ok (addQ_ok (addQ_ok (addQ_ok (noTabs_ok) (G_enters G_ok (p := i71) rfl) putG_ok) (G_enters G_ok (p := i66) rfl) nreadG_ok) (G_enters G_ok (p := i70) rfl) tagsG_ok) (G_enters G_ok (p := i39) rfl) checkAG_ok) (G_enters G_ok (p := i65) rfl) (viaNN_ok tpartsG_ok)) (G_enters G_ok (p := i65) rfl) (frzT_ok (viaNN_ok tpartsG_ok))
theorem tabSc2_q71 (a : List D) : tabSc2.q 71 a = putG a := rfl
theorem tabSc2_q66 (a : List D) : tabSc2.q 66 a = nreadG a := rfl
theorem tabSc2_q70 (a : List D) : tabSc2.q 70 a = tagsG a := rfl
theorem tabSc2_q39 (a : List D) : tabSc2.q 39 a = checkAG a := rfl
theorem tabSc2_q65 (a : List D) : tabSc2.q 65 a = viaNN tpartsG a := rfl
theorem tabSc2_t65 (a : List D) (o : List Ob) : tabSc2.t 65 a o = liftT (frzT (viaNN tpartsG)) a o := rfl
theorem tabSc2_r (f : FuncId) (a : List D) (o : List Ob) : tabSc2.r f a o = none := rfl
theorem tabSc2_k (f : FuncId) (a : List D) (o : List Ob) : tabSc2.k f a o = none := rfl
theorem un_i4 (a b c d : Int) : unrows rI64 [[.int .i64 a], [.int .i64 b], [.int .i64 c], [.int .i64 d]] = some [a, b, c, d] := rfl
theorem rows4 (a b c d : List UInt8) : rows rStr [a, b, c, d] = [[.str a], [.str b], [.str c], [.str d]] := rfl
theorem readA_c (x : Tlv) (h : gT x) : PCalls Try.prog 47 [.agg [.x (.int .i64 x.1), .x (.str x.2.1)]] (.tup [.agg [.x (.int .i64 (actV x).1.1), .x (.int .i64 (actV x).1.2.1), .x (.str (actV x).1.2.2.1), .x (.int .i64 (actV x).1.2.2.2.1)], .x (.bool (actV x).2)]) := by
  have hl := pt_len h
  have hx := h.1.2.2
  have hpt : (putB x.1 x.2.1).1 = pt x := rfl
  by_cases hp : (prtB (pt x) [10, 2, 4, 2]).2 = 0
  · obtain ⟨a, b, c, d, hp, ha, hb, hc, hd, _⟩ := prt4 hp
    have ha2 : a.length ≤ 65536 := ha.1.2.2
    have hb2 : b.length ≤ 65536 := hb.1.2.2
    have hd2 : d.length ≤ 65536 := hd.1.2.2
    have hv : actV x = (((nread a).1, (nread b).1, c, (nread d).1, ()), decide ((nread a).2 = 0 ∧ (nread b).2 = 0 ∧ (nread d).2 = 0 ∧ okA ((nread a).1, (nread b).1, c, (nread d).1, ()))) := by unfold actV; rw [hp]; rfl
    refine FCalls.pure (fcallsG (fz := true) G_ok (p := i47) rfl _ (Nat.le_of_ble_eq_true rfl) _ (fun C0 E0 => ?_)) rfl
    dsimp only [i47, argsφ]
    have uu := And.intro @putG.eq_1 (And.intro @putG.eq_2 (And.intro @nreadG.eq_1 (And.intro @nreadG.eq_2 (And.intro @tagsG.eq_1 (And.intro @tagsG.eq_2 (And.intro @checkAG.eq_1 (And.intro @checkAG.eq_2 (And.intro @tpartsG.eq_1 (And.intro @tpartsG.eq_2 (And.intro hpt (And.intro hp (And.intro @un_i4 (And.intro @rows4 (And.intro @tabSc2_r (And.intro @tabSc2_k (And.intro @tabSc2_q39 (And.intro @tabSc2_q65 (And.intro @tabSc2_q66 (And.intro @tabSc2_q70 (And.intro @tabSc2_q71 (And.intro @tabSc2_t65 (@frzT.eq_1))))))))))))))))))))))
    refine WI.seq ?_
    refine WI.regB tabSc2_ok [1, 2] ?_
    iterate 2 refine oG ?_
    refine oS ?_
    refine oN ?_
    refine thenQ_normal ?_
    refine WI.seq ?_
    refine WI.regB tabSc2_ok [2, 4] ?_
    refine oS ?_
    refine oG ?_
    refine oS ?_
    refine oG ?_
    refine oC ?_
    refine oS ?_
    iterate 2 refine oG ?_
    iterate 2 refine oS ?_
    refine oN ?_
    refine thenQ_normal ?_
    refine WI.seq ?_
    refine WI.regB tabSc2_ok [2, 4, 6] ?_
    refine oC ?_
    iterate 2 refine oG ?_
    refine oN ?_
    refine thenQ_normal ?_
    refine WI.seq ?_
    refine WI.regB tabSc2_ok [2, 7, 8] ?_
    refine oS ?_
    refine oG ?_
    refine oC ?_
    refine oS ?_
    iterate 2 refine oG ?_
    iterate 2 refine oS ?_
    refine oN ?_
    refine thenQ_normal ?_
    refine WI.seq ?_
    refine WI.seq ?_
    refine WI.regB tabSc2_ok [2, 7, 32] ?_
    refine oS ?_
    refine oG ?_
    refine oN ?_
    refine thenQ_normal ?_
    refine WI.cond (b := _) rfl rfl (fun h0 => ?_) (fun h0 => ?_)
    · exfalso
      simp at h0
    · try simp only [zB] at h0
      refine WI.skip ?_
      refine thenQ_normal ?_
      refine WI.seq ?_
      refine WI.regB tabSc2_ok [2, 7, 9, 10] ?_
      refine oS ?_
      iterate 2 refine oG ?_
      refine oC ?_
      refine oS ?_
      iterate 2 refine oG ?_
      iterate 2 refine oS ?_
      refine oN ?_
      refine thenQ_normal ?_
      refine WI.seq ?_
      refine WI.regB tabSc2_ok [2, 7, 9, 10, 11, 12] ?_
      refine oS ?_
      iterate 2 refine oG ?_
      refine oC ?_
      refine oS ?_
      iterate 2 refine oG ?_
      iterate 2 refine oS ?_
      refine oN ?_
      refine thenQ_normal ?_
      refine WI.seq ?_
      refine WI.regB tabSc2_ok [2, 7, 9, 10, 11, 12, 13, 14] ?_
      refine oS ?_
      iterate 2 refine oG ?_
      refine oC ?_
      refine oS ?_
      iterate 2 refine oG ?_
      iterate 2 refine oS ?_
      refine oN ?_
      refine thenQ_normal ?_
      refine WI.seq ?_
      refine WI.regB tabSc2_ok [2, 10, 12, 14, 15] ?_
      iterate 3 refine oS ?_
      iterate 2 refine oG ?_
      refine oS ?_
      iterate 3 refine oG ?_
      refine oN ?_
      refine thenQ_normal ?_
      refine WI.seq ?_
      refine WI.dregB tabSc2_ok [2, 3] ?_
      refine dQG ?_
      refine dFS ?_
      refine dFG ?_
      refine dFS ?_
      iterate 3 refine dFG ?_
      refine dFS ?_
      iterate 3 refine dFG ?_
      refine dFS ?_
      refine dQG ?_
      refine dQC ?_
      refine dFG ?_
      refine dAG ?_
      refine dFS ?_
      refine dN ?_
      refine thenQ_normal ?_
      refine WI.ret ?_
      first | refine lfR ?_ | refine lfR2 ?_
      rw [hv]; refine bool_tup ?_; rw [Bool.eq_iff_iff]; simp only [Bool.and_eq_true, decide_eq_true_eq, beq_iff_eq]; simp only [and_assoc] -- leaf 0
  · obtain ⟨e1, hp, he1, he2, he3⟩ := prtB_err _ _ hp
    have hv : actV x = ((0, 0, [], 0, ()), false) := by
      unfold actV; rw [hp]
    refine FCalls.pure (fcallsG (fz := true) G_ok (p := i47) rfl _ (Nat.le_of_ble_eq_true rfl) _ (fun C0 E0 => ?_)) rfl
    dsimp only [i47, argsφ]
    have uu := And.intro @putG.eq_1 (And.intro @putG.eq_2 (And.intro @nreadG.eq_1 (And.intro @nreadG.eq_2 (And.intro @tagsG.eq_1 (And.intro @tagsG.eq_2 (And.intro @checkAG.eq_1 (And.intro @checkAG.eq_2 (And.intro @tpartsG.eq_1 (And.intro @tpartsG.eq_2 (And.intro hpt (And.intro hp (And.intro @un_i4 (And.intro he2 (And.intro he3 (And.intro @tabSc2_r (And.intro @tabSc2_k (And.intro @tabSc2_q39 (And.intro @tabSc2_q65 (And.intro @tabSc2_q66 (And.intro @tabSc2_q70 (And.intro @tabSc2_q71 (And.intro @tabSc2_t65 (@frzT.eq_1)))))))))))))))))))))))
    refine WI.seq ?_
    refine WI.regB tabSc2_ok [1, 2] ?_
    iterate 2 refine oG ?_
    refine oS ?_
    refine oN ?_
    refine thenQ_normal ?_
    refine WI.seq ?_
    refine WI.regB tabSc2_ok [2, 4] ?_
    refine oS ?_
    refine oG ?_
    refine oS ?_
    refine oG ?_
    refine oC ?_
    refine oS ?_
    iterate 2 refine oG ?_
    iterate 2 refine oS ?_
    refine oN ?_
    refine thenQ_normal ?_
    refine WI.seq ?_
    refine WI.regB tabSc2_ok [2, 4, 6] ?_
    refine oC ?_
    iterate 2 refine oG ?_
    refine oN ?_
    refine thenQ_normal ?_
    refine WI.seq ?_
    refine WI.regB tabSc2_ok [2, 7, 8] ?_
    refine oS ?_
    refine oG ?_
    refine oC ?_
    refine oS ?_
    iterate 2 refine oG ?_
    iterate 2 refine oS ?_
    refine oN ?_
    refine thenQ_normal ?_
    refine WI.seq ?_
    refine WI.seq ?_
    refine WI.regB tabSc2_ok [2, 7, 32] ?_
    refine oS ?_
    refine oG ?_
    refine oN ?_
    refine thenQ_normal ?_
    refine WI.cond (b := _) rfl rfl (fun h0 => ?_) (fun h0 => ?_)
    · try simp only [zB] at h0
      refine WI.seq ?_
      refine WI.regB tabSc2_ok [2, 3] ?_
      iterate 2 refine oG ?_
      refine oS ?_
      refine oN ?_
      refine thenQ_normal ?_
      refine WI.ret ?_
      refine thenQ_ret ?_
      first | refine lfR ?_ | refine lfR2 ?_
      rw [hv] -- leaf 0
    · exfalso
      simp_all
end Go.Proofs.Ytcffpndhodhncaa
end
section
/- Scripts: their bytes. -/
set_option linter.unusedSimpArgs false
set_option linter.unusedVariables false
namespace Go.Proofs.Ytcffpndhodhncaa
open Go.RowKit Go.Bo Go.Ab

theorem un_act (l : List Act) : unrows rAct (rows rAct l) = some l := unrows_rows good_rAct l
theorem rows_act (l : List Act) (x : Act) : rows rAct l ++ [[X.int .i64 x.1, X.int .i64 x.2.1, X.str x.2.2.1, X.int .i64 x.2.2.2.1]] = rows rAct (l ++ [x]) := rows_app rAct l [x]
theorem okA_take {l : List Act} {j : Nat} (hj : j < l.length) (h : ∀ a ∈ l.take j, okA a) (h1 : okA l[j]) : ∀ a ∈ l.take (j + 1), okA a := by
  rw [← List.take_append_getElem hj]
  intro s hs
  rcases List.mem_append.1 hs with hs | hs
  · exact h s hs
  · simp only [List.mem_singleton] at hs; subst hs; exact h1
theorem ones_snoc (l : List Act) (j : Nat) (hj : j < l.length) : rows rStr ((l.take j).map oneB) ++ [[X.str (oneB l[j])]] = rows rStr ((l.take (j + 1)).map oneB) := by
  rw [← List.take_append_getElem hj, List.map_append, rows_str]; rfl
theorem ones_flat (l : List Act) (h : ∀ a ∈ l, okA a) (hl : l.length ≤ 1024) : (l.map oneB).flatten.length ≤ 16807936 := by
  have := flat_bound (l.map oneB) 16414 1024 (by simpa using hl) (fun s hs => by
    obtain ⟨a, ha, rfl⟩ := List.mem_map.1 hs
    exact oneB_len (h a ha).2.2.2.2.2.2)
  omega
def tabSc3 : Tabs := addT (addQ (addQ (addQ (noTabs) 39 checkAG) 40 oneG) 41 (viaNN tseqG)) 41 (frzT (viaNN tseqG))
theorem tabSc3_ok : SsOk Try.prog tabSc3 := addT_ok (addQ_ok (addQ_ok (addQ_ok (noTabs_ok) (G_enters G_ok (p := i39) rfl) checkAG_ok) (G_enters G_ok (p := i40) rfl) oneG_ok) (G_enters G_ok (p := i41) rfl) (viaNN_ok tseqG_ok)) (G_enters G_ok (p := i41) rfl) (frzT_ok (viaNN_ok tseqG_ok))
theorem tabSc3_q39 (a : List D) : tabSc3.q 39 a = checkAG a := rfl
theorem tabSc3_q40 (a : List D) : tabSc3.q 40 a = oneG a := rfl
theorem tabSc3_q41 (a : List D) : tabSc3.q 41 a = viaNN tseqG a := rfl
theorem tabSc3_t41 (a : List D) (o : List Ob) : tabSc3.t 41 a o = liftT (frzT (viaNN tseqG)) a o := rfl
theorem tabSc3_r (f : FuncId) (a : List D) (o : List Ob) : tabSc3.r f a o = none := rfl
theorem tabSc3_k (f : FuncId) (a : List D) (o : List Ob) : tabSc3.k f a o = none := rfl
theorem putA_c (l : List Act) : PCalls Try.prog 11 [.x (.sl (rows rAct l))] (.tup [.x (.str (putA l).1), .x (.int .i64 (putA l).2)]) := by
  refine FCalls.pure (fcallsG (fz := true) G_ok (p := i11) rfl _ (Nat.le_of_ble_eq_true rfl) _ (fun C0 E0 => ?_)) rfl
  dsimp only [i11, argsφ]
  have uu := And.intro @checkAG.eq_1 (And.intro @checkAG.eq_2 (And.intro @oneG.eq_1 (And.intro @oneG.eq_2 (And.intro @tseqG.eq_1 (And.intro @tseqG.eq_2 (And.intro @un_str (And.intro @tk_len (And.intro @tabSc3_r (And.intro @tabSc3_k (And.intro @tabSc3_q39 (And.intro @tabSc3_q40 (And.intro @tabSc3_q41 (And.intro @tabSc3_t41 (@frzT.eq_1))))))))))))))
  refine WI.seq ?_
  refine WI.regB tabSc3_ok [0] ?_
  iterate 2 refine oS ?_
  refine oN ?_
  refine thenQ_normal ?_
  refine WI.seq ?_
  refine WI.seq ?_
  refine WI.regB tabSc3_ok [0, 9] ?_
  refine oS ?_
  iterate 2 refine oG (hok := by first | with_reducible rfl | omega | (simp only [Bool.and_eq_true, decide_eq_true_eq]; omega) | (simp; done) | (simp; omega) | rfl) ?_
  refine oN ?_
  refine thenQ_normal ?_
  refine WI.cond (b := _) rfl rfl (fun h0 => ?_) (fun h0 => ?_)
  · try simp only [zB] at h0
    refine WI.seq ?_
    refine WI.regB tabSc3_ok [2, 3] ?_
    iterate 2 refine oS ?_
    refine oN ?_
    refine thenQ_normal ?_
    refine WI.nnA ?_
    refine WI.ret ?_
    refine thenQ_ret ?_
    first | refine lfR ?_ | refine lfR2 ?_
    rw [putA, if_pos (by omega)] -- leaf 0
  · try simp only [zB] at h0
    refine WI.skip ?_
    refine thenQ_normal ?_
    refine WI.seq ?_
    refine WI.regB tabSc3_ok [0, 4] ?_
    refine oS ?_
    refine oN ?_
    refine thenQ_normal ?_
    refine WI.seq ?_
    refine WI.seq ?_
    refine WI.regB tabSc3_ok [4, 10, 11, 12] ?_
    refine oS ?_
    refine oG (hok := by first | with_reducible rfl | omega | (simp only [Bool.and_eq_true, decide_eq_true_eq]; omega) | (simp; done) | (simp; omega) | rfl) ?_
    refine oS ?_
    refine oN ?_
    refine thenQ_normal ?_
    refine WI.block ?_
    refine WI.ownA 4 9 1 ?_
    refine WI.loop (fun φ os => ∃ (j : Nat) (out : List (List UInt8)), φ = [(4, .ref 0 out.length 0 out.length), (10, .x (.sl (rows rAct l))), (11, .x (.int .i64 l.length)), (12, .x (.int .i64 j))] ∧ os = [.rows false 9 1 (rows rStr out)] ∧ j ≤ l.length ∧ (∀ a ∈ l.take j, okA a) ∧ out.length = j ∧ out = (l.take j).map oneB) (down l.length 12) ?_ (fun φ os hI => ?_)
    · exact ⟨0, [], rfl, rfl, by omega, by simp, rfl, rfl⟩
    · obtain ⟨j, out, rfl, rfl, hj, ha, ho, he⟩ := hI
      refine WI.seq ?_
      refine WI.regB tabSc3_ok [4, 10, 11, 12, 13] ?_
      refine oG (hok := by first | with_reducible rfl | omega | (simp only [Bool.and_eq_true, decide_eq_true_eq]; omega) | (simp; done) | (simp; omega) | rfl) ?_
      refine oN ?_
      refine thenQ_normal ?_
      refine WI.seq ?_
      refine WI.cond (b := _) rfl rfl (fun h1 => ?_) (fun h1 => ?_)
      · try simp only [zB] at h1
        refine WI.skip ?_
        refine thenQ_normal ?_
        refine WI.seq ?_
        refine WI.block ?_
        refine WI.seq ?_
        refine WI.regB tabSc3_ok [4, 6, 10, 11, 12] ?_
        iterate 4 refine oG (hok := by first | with_reducible rfl | omega | (simp only [Bool.and_eq_true, decide_eq_true_eq]; omega) | (simp; done) | (simp; omega) | rfl) ?_
        refine oN ?_
        refine thenQ_normal ?_
        refine WI.seq ?_
        refine WI.seq ?_
        refine WI.regB tabSc3_ok [4, 6, 10, 11, 12, 18] ?_
        refine oG (hok := by first | with_reducible rfl | omega | (simp only [Bool.and_eq_true, decide_eq_true_eq]; omega) | (simp; done) | (simp; omega) | rfl) ?_
        refine oC (hok := by first | with_reducible rfl | omega | (simp only [Bool.and_eq_true, decide_eq_true_eq]; omega) | (simp; done) | (simp; omega) | rfl) ?_
        refine oG (hok := by first | with_reducible rfl | omega | (simp only [Bool.and_eq_true, decide_eq_true_eq]; omega) | (simp; done) | (simp; omega) | rfl) ?_
        refine oN ?_
        refine thenQ_normal ?_
        refine WI.cond (b := _) rfl rfl (fun h2 => ?_) (fun h2 => ?_)
        · try simp only [zB] at h2
          refine WI.seq ?_
          refine WI.regB tabSc3_ok [2, 3] ?_
          iterate 2 refine oS ?_
          refine oN ?_
          refine thenQ_normal ?_
          refine WI.nnA ?_
          refine WI.ret ?_
          refine thenQ_ret ?_
          refine blockQ_ret ?_
          refine thenQ_ret ?_
          refine thenQ_ret ?_
          refine blockQ_ret ?_
          refine thenQ_ret ?_
          first | refine lfR ?_ | refine lfR2 ?_
          have hn : ¬ okA l[j] := by simpa using h2
          rw [putA, if_neg (by omega), if_neg (fun h => hn (h _ (List.getElem_mem _)))] -- leaf 1
        · try simp only [zB] at h2
          refine WI.skip ?_
          refine thenQ_normal ?_
          have hk : okA l[j] := by simpa using h2
          have hk1 := oneB_len hk.2.2.2.2.2.2
          have hk2 := hk.2.2.2.2.2.2
          refine WI.regB tabSc3_ok [4, 10, 11, 12] ?_
          refine oS ?_
          refine oG (hok := by first | with_reducible rfl | omega | (simp only [Bool.and_eq_true, decide_eq_true_eq]; omega) | (simp; done) | (simp; omega) | rfl) ?_
          refine oC (hok := by first | with_reducible rfl | omega | (simp only [Bool.and_eq_true, decide_eq_true_eq]; omega) | (simp; done) | (simp; omega) | rfl) ?_
          iterate 2 refine oG (hok := by first | with_reducible rfl | omega | (simp only [Bool.and_eq_true, decide_eq_true_eq]; omega) | (simp; done) | (simp; omega) | rfl) ?_
          refine oS ?_
          refine oN ?_
          refine blockQ_normal ?_
          refine thenQ_normal ?_
          refine WI.post ?_
          refine WI.regB tabSc3_ok [4, 10, 11, 12] ?_
          refine oG (hok := by first | with_reducible rfl | omega | (simp only [Bool.and_eq_true, decide_eq_true_eq]; omega) | (simp; done) | (simp; omega) | rfl) ?_
          refine oS ?_
          refine oP ?_
          refine pPick [0] ?_
          refine pEnd ?_
          refine thenQ_normal ?_
          exact ⟨⟨j + 1, out ++ [oneB l[j]], by simp, by rw [← rows_str], by omega, okA_take (by omega) ha hk, by simp [ho], by rw [← List.take_append_getElem (l := l) (i := j) (by omega), List.map_append, ← he]; rfl⟩, by simp [down, Ab.get, D.val, intOf?]; omega⟩
      · try simp only [zB] at h1
        refine WI.exit ?_
        refine thenQ_exit ?_
        refine thenQ_exit ?_
        refine blockQ_hit ?_
        refine thenQ_normal ?_
        refine WI.seq ?_
        rw [List.take_of_length_le (by omega)] at ha he
        have hf := ones_flat l ha (by omega)
        rw [← he] at hf
        refine WI.regB tabSc3_ok [2, 3] ?_
        refine oS ?_
        refine oC (hok := by first | with_reducible rfl | omega | (simp only [Bool.and_eq_true, decide_eq_true_eq]; omega) | (simp; done) | (simp; omega) | rfl) ?_
        iterate 2 refine oG (hok := by first | with_reducible rfl | omega | (simp only [Bool.and_eq_true, decide_eq_true_eq]; omega) | (simp; done) | (simp; omega) | rfl) ?_
        iterate 2 refine oS ?_
        refine oN ?_
        refine thenQ_normal ?_
        refine WI.nnA ?_
        refine WI.ret ?_
        first | refine lfR ?_ | refine lfR2 ?_
        rw [putA, if_neg (by omega), if_pos ha, ← he]; rfl -- leaf 2
theorem body_len31 (s : List UInt8) (hs : s.length ≤ 9223372036854775807) : (readB s).1.2.1.length ≤ 9223372036854775807 := by
  by_cases h : (readB s).2.2 = 0
  · have := (readB_okT s h).2.2; omega
  · unfold readB at h ⊢
    split
    · rename_i h0
      rw [if_pos h0] at h
      split
      · simp
      · rename_i h1; rw [if_neg h1] at h; exact absurd rfl h
    · simp
instance decGT (x : Tlv) : Decidable (gT x) := inferInstanceAs (Decidable ((_ ∧ _ ∧ _) ∧ _ = true))
def readAG : List D → Option (Bool × D)
  | [.agg [.x (.int .i64 a), .x (.str b)]] => some (decide (gT (a, b, ())), .tup [.agg [.x (.int .i64 (actV (a, b, ())).1.1), .x (.int .i64 (actV (a, b, ())).1.2.1), .x (.str (actV (a, b, ())).1.2.2.1), .x (.int .i64 (actV (a, b, ())).1.2.2.2.1)], .x (.bool (actV (a, b, ())).2)])
  | _ => none
theorem readAG_ok : ∀ args r, readAG args = some (true, r) → PCalls Try.prog 47 args r := by
  intro args r h
  unfold readAG at h
  split at h
  · rename_i a b
    simp only [Option.some.injEq, Prod.mk.injEq, Bool.and_eq_true, decide_eq_true_eq, true_and] at h
    obtain ⟨h1, rfl⟩ := h
    exact readA_c (a, b, ()) h1
  · cases h
def tabSc4 : Tabs := addQ (addQ (addQ (noTabs) 45 readG) 46 allG) 47 readAG
theorem tabSc4_ok : SsOk Try.prog tabSc4 := addQ_ok (addQ_ok (addQ_ok (noTabs_ok) (G_enters G_ok (p := i45) rfl) readG_ok) (G_enters G_ok (p := i46) rfl) allG_ok) (G_enters G_ok (p := i47) rfl) readAG_ok
theorem tabSc4_q45 (a : List D) : tabSc4.q 45 a = readG a := rfl
theorem tabSc4_q46 (a : List D) : tabSc4.q 46 a = allG a := rfl
theorem tabSc4_q47 (a : List D) : tabSc4.q 47 a = readAG a := rfl
theorem tabSc4_r (f : FuncId) (a : List D) (o : List Ob) : tabSc4.r f a o = none := rfl
theorem tabSc4_k (f : FuncId) (a : List D) (o : List Ob) : tabSc4.k f a o = none := rfl
theorem acts_take {L : List Tlv} {p : Tlv → Prop} {j : Nat} (hj : j < L.length) (h : ∀ a ∈ L.take j, p a) (h1 : p L[j]) : ∀ a ∈ L.take (j + 1), p a := by
  rw [← List.take_append_getElem hj]
  intro s hs
  rcases List.mem_append.1 hs with hs | hs
  · exact h s hs
  · simp only [List.mem_singleton] at hs; subst hs; exact h1
theorem rdA_c (s : List UInt8) (hs : s.length ≤ 9223372036854775807) : PCalls Try.prog 13 [.x (.str s)] (.tup [.x (.sl (rows rAct (rdA s).1)), .x (.int .i64 (rdA s).2)]) := by
  have hr := readB_okT s
  have hr2 := readB_ok s
  have ha := allB_okT (readB s).1.2.1
  have hb := body_len31 s hs
  refine FCalls.pure (fcallsG (fz := true) G_ok (p := i13) rfl _ (Nat.le_of_ble_eq_true rfl) _ (fun C0 E0 => ?_)) rfl
  dsimp only [i13, argsφ]
  have uu := And.intro @readG.eq_1 (And.intro @readG.eq_2 (And.intro @readD.eq_1 (And.intro @allG.eq_1 (And.intro @allG.eq_2 (And.intro @readAG.eq_1 (And.intro @readAG.eq_2 (And.intro @tabSc4_r (And.intro @tabSc4_k (And.intro @tabSc4_q45 (And.intro @tabSc4_q46 (@tabSc4_q47)))))))))))
  refine WI.seq ?_
  refine WI.regB tabSc4_ok [0] ?_
  iterate 2 refine oS ?_
  refine oN ?_
  refine thenQ_normal ?_
  refine WI.seq ?_
  refine WI.regB tabSc4_ok [0, 4, 5, 6] ?_
  refine oS ?_
  refine oC (hok := by first | with_reducible rfl | omega | (exact decide_eq_true (ha.2 _ (List.getElem_mem (by omega)))) | (simp; done) | (simp; omega) | rfl) ?_
  refine oS ?_
  iterate 5 refine oG (hok := by first | with_reducible rfl | omega | (exact decide_eq_true (ha.2 _ (List.getElem_mem (by omega)))) | (simp; done) | (simp; omega) | rfl) ?_
  iterate 2 refine oS ?_
  refine oN ?_
  refine thenQ_normal ?_
  refine WI.seq ?_
  refine WI.seq ?_
  refine WI.regB tabSc4_ok [4, 31] ?_
  refine oS ?_
  refine oG (hok := by first | with_reducible rfl | omega | (exact decide_eq_true (ha.2 _ (List.getElem_mem (by omega)))) | (simp; done) | (simp; omega) | rfl) ?_
  refine oS ?_
  iterate 5 refine oG (hok := by first | with_reducible rfl | omega | (exact decide_eq_true (ha.2 _ (List.getElem_mem (by omega)))) | (simp; done) | (simp; omega) | rfl) ?_
  refine oS ?_
  iterate 4 refine oG (hok := by first | with_reducible rfl | omega | (exact decide_eq_true (ha.2 _ (List.getElem_mem (by omega)))) | (simp; done) | (simp; omega) | rfl) ?_
  refine oN ?_
  refine thenQ_normal ?_
  refine WI.cond (b := _) rfl rfl (fun h0 => ?_) (fun h0 => ?_)
  · try simp only [zB] at h0
    refine WI.seq ?_
    refine WI.regB tabSc4_ok [2, 3] ?_
    iterate 2 refine oS ?_
    refine oN ?_
    refine thenQ_normal ?_
    refine WI.nnA ?_
    refine WI.ret ?_
    refine thenQ_ret ?_
    first | refine lfR ?_ | refine lfR2 ?_
    rw [rdA, if_neg (by rintro ⟨⟨k1, k2, k3⟩, _⟩; simp_all)]; rfl -- leaf 0
  · try simp only [zB] at h0
    refine WI.skip ?_
    refine thenQ_normal ?_
    refine WI.seq ?_
    refine WI.regB tabSc4_ok [6, 7] ?_
    refine oS ?_
    refine oG (hok := by first | with_reducible rfl | omega | (exact decide_eq_true (ha.2 _ (List.getElem_mem (by omega)))) | (simp; done) | (simp; omega) | rfl) ?_
    refine oC (hok := by first | with_reducible rfl | omega | (exact decide_eq_true (ha.2 _ (List.getElem_mem (by omega)))) | (simp; done) | (simp; omega) | rfl) ?_
    refine oS ?_
    iterate 2 refine oG (hok := by first | with_reducible rfl | omega | (exact decide_eq_true (ha.2 _ (List.getElem_mem (by omega)))) | (simp; done) | (simp; omega) | rfl) ?_
    iterate 2 refine oS ?_
    refine oN ?_
    refine thenQ_normal ?_
    refine WI.seq ?_
    refine WI.seq ?_
    refine WI.regB tabSc4_ok [7, 39] ?_
    refine oS ?_
    refine oG (hok := by first | with_reducible rfl | omega | (exact decide_eq_true (ha.2 _ (List.getElem_mem (by omega)))) | (simp; done) | (simp; omega) | rfl) ?_
    refine oN ?_
    refine thenQ_normal ?_
    refine WI.cond (b := _) rfl rfl (fun h1 => ?_) (fun h1 => ?_)
    · try simp only [zB] at h1
      refine WI.seq ?_
      refine WI.regB tabSc4_ok [2, 3] ?_
      iterate 2 refine oS ?_
      refine oN ?_
      refine thenQ_normal ?_
      refine WI.nnA ?_
      refine WI.ret ?_
      refine thenQ_ret ?_
      first | refine lfR ?_ | refine lfR2 ?_
      rw [rdA, if_neg (by rintro ⟨_, k1, _⟩; simp_all)]; rfl -- leaf 1
    · try simp only [zB] at h1
      refine WI.skip ?_
      refine thenQ_normal ?_
      refine WI.seq ?_
      refine WI.regB tabSc4_ok [7, 8] ?_
      refine oS ?_
      refine oN ?_
      refine thenQ_normal ?_
      refine WI.seq ?_
      refine WI.seq ?_
      refine WI.regB tabSc4_ok [8, 40, 41, 42] ?_
      refine oS ?_
      refine oG (hok := by first | with_reducible rfl | omega | (exact decide_eq_true (ha.2 _ (List.getElem_mem (by omega)))) | (simp; done) | (simp; omega) | rfl) ?_
      refine oS ?_
      refine oN ?_
      refine thenQ_normal ?_
      refine WI.block ?_
      refine WI.ownA 8 89 4 ?_
      refine WI.loop (fun φ os => ∃ (j : Nat) (out : List Act), φ = [(8, .ref 1 out.length 0 out.length), (40, .x (.sl (rows rTlv (allB (readB s).1.2.1).1))), (41, .x (.int .i64 (allB (readB s).1.2.1).1.length)), (42, .x (.int .i64 j))] ∧ os = [.box [.x (.int .i64 (readB s).1.1), .x (.str (readB s).1.2.1)], .rows false 89 4 (rows rAct out)] ∧ j ≤ (allB (readB s).1.2.1).1.length ∧ (∀ a ∈ (allB (readB s).1.2.1).1.take j, (actV a).2 = true) ∧ out.length = j ∧ out = ((allB (readB s).1.2.1).1.take j).map (fun x => (actV x).1)) (down (allB (readB s).1.2.1).1.length 42) ?_ (fun φ os hI => ?_)
      · exact ⟨0, [], rfl, rfl, by omega, by simp, rfl, rfl⟩
      · obtain ⟨j, out, rfl, rfl, hj, hv, ho, he⟩ := hI
        refine WI.seq ?_
        refine WI.regB tabSc4_ok [8, 40, 41, 42, 43] ?_
        refine oG (hok := by first | with_reducible rfl | omega | (exact decide_eq_true (ha.2 _ (List.getElem_mem (by omega)))) | (simp; done) | (simp; omega) | rfl) ?_
        refine oN ?_
        refine thenQ_normal ?_
        refine WI.seq ?_
        refine WI.cond (b := _) rfl rfl (fun h2 => ?_) (fun h2 => ?_)
        · try simp only [zB] at h2
          refine WI.skip ?_
          refine thenQ_normal ?_
          refine WI.seq ?_
          refine WI.block ?_
          refine WI.seq ?_
          refine WI.regB tabSc4_ok [8, 10, 40, 41, 42] ?_
          iterate 4 refine oG (hok := by first | with_reducible rfl | omega | (exact decide_eq_true (ha.2 _ (List.getElem_mem (by omega)))) | (simp; done) | (simp; omega) | rfl) ?_
          refine oN ?_
          refine thenQ_normal ?_
          refine WI.seq ?_
          refine WI.regB tabSc4_ok [8, 11, 12, 40, 41, 42] ?_
          refine oG (hok := by first | with_reducible rfl | omega | (exact decide_eq_true (ha.2 _ (List.getElem_mem (by omega)))) | (simp; done) | (simp; omega) | rfl) ?_
          refine oC (hok := by first | with_reducible rfl | omega | (exact decide_eq_true (ha.2 _ (List.getElem_mem (by omega)))) | (simp; done) | (simp; omega) | rfl) ?_
          refine oS ?_
          iterate 4 refine oG (hok := by first | with_reducible rfl | omega | (exact decide_eq_true (ha.2 _ (List.getElem_mem (by omega)))) | (simp; done) | (simp; omega) | rfl) ?_
          refine oS ?_
          refine oN ?_
          refine thenQ_normal ?_
          refine WI.seq ?_
          refine WI.seq ?_
          refine WI.regB tabSc4_ok [8, 11, 40, 41, 42, 52] ?_
          refine oS ?_
          refine oG (hok := by first | with_reducible rfl | omega | (exact decide_eq_true (ha.2 _ (List.getElem_mem (by omega)))) | (simp; done) | (simp; omega) | rfl) ?_
          refine oN ?_
          refine thenQ_normal ?_
          refine WI.cond (b := _) rfl rfl (fun h3 => ?_) (fun h3 => ?_)
          · try simp only [zB] at h3
            refine WI.seq ?_
            refine WI.regB tabSc4_ok [2, 3] ?_
            iterate 2 refine oS ?_
            refine oN ?_
            refine thenQ_normal ?_
            refine WI.nnA ?_
            refine WI.ret ?_
            refine thenQ_ret ?_
            refine blockQ_ret ?_
            refine thenQ_ret ?_
            refine thenQ_ret ?_
            refine blockQ_ret ?_
            refine thenQ_ret ?_
            first | refine lfR ?_ | refine lfR2 ?_
            rw [rdA, if_neg (by rintro ⟨_, _, k1⟩; have hj2 : j < (allB (readB s).1.2.1).1.length := (by omega); have := k1 _ (List.getElem_mem hj2); simp_all)]; rfl -- leaf 2
          · try simp only [zB] at h3
            refine WI.skip ?_
            refine thenQ_normal ?_
            refine WI.regB tabSc4_ok [8, 40, 41, 42] ?_
            refine oS ?_
            iterate 3 refine oG (hok := by first | with_reducible rfl | omega | (exact decide_eq_true (ha.2 _ (List.getElem_mem (by omega)))) | (simp; done) | (simp; omega) | rfl) ?_
            refine oS ?_
            refine oN ?_
            refine blockQ_normal ?_
            refine thenQ_normal ?_
            refine WI.post ?_
            refine WI.regB tabSc4_ok [8, 40, 41, 42] ?_
            refine oG (hok := by first | with_reducible rfl | omega | (exact decide_eq_true (ha.2 _ (List.getElem_mem (by omega)))) | (simp; done) | (simp; omega) | rfl) ?_
            refine oS ?_
            refine oP ?_
            refine pPick [0, 1] ?_
            refine pEnd ?_
            refine thenQ_normal ?_
            exact ⟨⟨j + 1, out ++ [(actV (allB (readB s).1.2.1).1[j]).1], by simp, by rw [← rows_act], by omega, acts_take (by omega) hv (by simpa using h3), by simp [ho], by rw [← List.take_append_getElem (i := j) (by omega), List.map_append, ← he]; rfl⟩, by simp [down, Ab.get, D.val, intOf?]; omega⟩
        · try simp only [zB] at h2
          refine WI.exit ?_
          refine thenQ_exit ?_
          refine thenQ_exit ?_
          refine blockQ_hit ?_
          refine thenQ_normal ?_
          refine WI.seq ?_
          refine WI.regB tabSc4_ok [2, 3] ?_
          iterate 3 refine oS ?_
          refine oN ?_
          refine thenQ_normal ?_
          refine WI.nnA ?_
          refine WI.ret ?_
          first | refine lfR ?_ | refine lfR2 ?_
          rw [List.take_of_length_le (by omega)] at hv he
          rw [rdA, if_pos ⟨⟨by omega, by omega, by omega⟩, by omega, hv⟩, ← he] -- leaf 3
def tabSc5 : Tabs := addQ (addQ (noTabs) 75 nputRG) 43 putRG
theorem tabSc5_ok : SsOk Try.prog tabSc5 := addQ_ok (addQ_ok (noTabs_ok) (G_enters G_ok (p := i75) rfl) nputRG_ok) (G_enters G_ok (p := i43) rfl) putRG_ok
theorem tabSc5_q75 (a : List D) : tabSc5.q 75 a = nputRG a := rfl
theorem tabSc5_q43 (a : List D) : tabSc5.q 43 a = putRG a := rfl
theorem tabSc5_r (f : FuncId) (a : List D) (o : List Ob) : tabSc5.r f a o = none := rfl
theorem tabSc5_k (f : FuncId) (a : List D) (o : List Ob) : tabSc5.k f a o = none := rfl
theorem num31_c (t n : Int) : PCalls Try.prog 44 [.x (.int .i64 t), .x (.int .i64 n)] (.x (.str (pt (t, (nput n).1, ())))) := by
  refine FCalls.pure (fcallsG (fz := true) G_ok (p := i44) rfl _ (Nat.le_of_ble_eq_true rfl) _ (fun C0 E0 => ?_)) rfl
  dsimp only [i44, argsφ]
  have uu := And.intro @nputRG.eq_1 (And.intro @nputRG.eq_2 (And.intro @putRG.eq_1 (And.intro @putRG.eq_2 (And.intro @tabSc5_r (And.intro @tabSc5_k (And.intro @tabSc5_q43 (@tabSc5_q75)))))))
  refine WI.seq ?_
  refine WI.regB tabSc5_ok [0, 1] ?_
  refine oS ?_
  refine oN ?_
  refine thenQ_normal ?_
  refine WI.seq ?_
  refine WI.regB tabSc5_ok [0, 5] ?_
  refine oS ?_
  refine oC ?_
  refine oS ?_
  iterate 2 refine oG ?_
  iterate 2 refine oS ?_
  refine oN ?_
  refine thenQ_normal ?_
  refine WI.seq ?_
  refine WI.regB tabSc5_ok [7] ?_
  iterate 2 refine oS ?_
  refine oC ?_
  refine oS ?_
  iterate 2 refine oG ?_
  iterate 2 refine oS ?_
  refine oN ?_
  refine thenQ_normal ?_
  refine WI.seq ?_
  refine WI.regB tabSc5_ok [4] ?_
  iterate 2 refine oS ?_
  refine oN ?_
  refine thenQ_normal ?_
  refine WI.ret ?_
  first | refine lfR ?_ | refine lfR2 ?_
  rfl -- leaf 0
def num31G : List D → Option (Bool × D)
  | [.x (.int .i64 t), .x (.int .i64 n)] => some (true, .x (.str (pt (t, (nput n).1, ()))))
  | _ => none
theorem num31G_ok : ∀ args r, num31G args = some (true, r) → PCalls Try.prog 44 args r := by
  intro args r h
  unfold num31G at h
  split at h
  · rename_i t n
    simp only [Option.some.injEq, Prod.mk.injEq, Bool.and_eq_true, decide_eq_true_eq, true_and] at h
    obtain rfl := h
    exact num31_c t n
  · cases h
theorem actC_idx (p : List Tlv) (h : p.length = 4) : actC p = ((nread p[0].2.1).1, (nread p[1].2.1).1, p[2].2.1, (nread p[3].2.1).1, ()) := by
  match p, h with
  | [a, b, c, d], _ => rfl
def putAG : List D → Option (Bool × D)
  | [.x (.sl L)] => (unrows rAct L).bind fun l => some (true, .tup [.x (.str (putA l).1), .x (.int .i64 (putA l).2)])
  | _ => none
theorem putAG_ok : ∀ args r, putAG args = some (true, r) → PCalls Try.prog 11 args r := by
  intro args r h
  unfold putAG at h
  split at h
  · rename_i L
    obtain ⟨l, hr0, h⟩ := Option.bind_eq_some_iff.1 h
    simp only [Option.some.injEq, Prod.mk.injEq, Bool.and_eq_true, decide_eq_true_eq, true_and] at h
    obtain rfl := h
    rw [← rows_unrows good_rAct hr0]
    exact putA_c l
  · cases h
def tabSc6 : Tabs := addQ (addQ (addQ (noTabs) 42 checkARG) 44 num31G) 43 putRG
theorem tabSc6_ok : SsOk Try.prog tabSc6 := addQ_ok (addQ_ok (addQ_ok (noTabs_ok) (G_enters G_ok (p := i42) rfl) checkARG_ok) (G_enters G_ok (p := i44) rfl) num31G_ok) (G_enters G_ok (p := i43) rfl) putRG_ok
theorem tabSc6_q42 (a : List D) : tabSc6.q 42 a = checkARG a := rfl
theorem tabSc6_q44 (a : List D) : tabSc6.q 44 a = num31G a := rfl
theorem tabSc6_q43 (a : List D) : tabSc6.q 43 a = putRG a := rfl
theorem tabSc6_r (f : FuncId) (a : List D) (o : List Ob) : tabSc6.r f a o = none := rfl
theorem tabSc6_k (f : FuncId) (a : List D) (o : List Ob) : tabSc6.k f a o = none := rfl
theorem oneB_eq (a : Act) : (putB 48 (((pt (10, (nput a.1).1, ()) ++ pt (2, (nput a.2.1).1, ())) ++ (putB 4 a.2.2.1).1) ++ pt (2, (nput a.2.2.2.1).1, ()))).1 = oneB a := by
  simp [oneB, rowT, actL, pt]
theorem ones_take_le (l : List Act) (h : ∀ a ∈ l, okA a) (hl : l.length ≤ 1024) (j : Nat) : ((l.take j).map oneB).flatten.length ≤ 16807936 := ones_flat _ (fun a ha => h a (List.mem_of_mem_take ha)) (by rw [List.length_take]; omega)
theorem ones_step (l : List Act) (j : Nat) (hj : j < l.length) : ((l.take (j + 1)).map oneB).flatten = ((l.take j).map oneB).flatten ++ oneB l[j] := by
  rw [← List.take_append_getElem hj, List.map_append, List.flatten_append]; simp
theorem putAR_c (l : List Act) (hw : l.length ≤ 9223372036854775807) : PCalls Try.prog 12 [.x (.sl (rows rAct l))] (.tup [.x (.str (putA l).1), .x (.int .i64 (putA l).2)]) := by
  refine FCalls.pure (fcallsG (fz := true) G_ok (p := i12) rfl _ (Nat.le_of_ble_eq_true rfl) _ (fun C0 E0 => ?_)) rfl
  dsimp only [i12, argsφ]
  have uu := And.intro @checkARG.eq_1 (And.intro @checkARG.eq_2 (And.intro @num31G.eq_1 (And.intro @num31G.eq_2 (And.intro @putRG.eq_1 (And.intro @putRG.eq_2 (And.intro @oneB_eq (And.intro @tabSc6_r (And.intro @tabSc6_k (And.intro @tabSc6_q42 (And.intro @tabSc6_q43 (@tabSc6_q44)))))))))))
  refine WI.seq ?_
  refine WI.regB tabSc6_ok [0] ?_
  iterate 2 refine oS ?_
  refine oN ?_
  refine thenQ_normal ?_
  refine WI.seq ?_
  refine WI.seq ?_
  refine WI.regB tabSc6_ok [0, 13] ?_
  refine oS ?_
  iterate 2 refine oG (hok := by first | with_reducible rfl | omega | (simp only [List.length_append, decide_eq_true_eq]; omega) | (simp; done) | (simp; omega) | rfl) ?_
  refine oN ?_
  refine thenQ_normal ?_
  refine WI.cond (b := _) rfl rfl (fun h0 => ?_) (fun h0 => ?_)
  · try simp only [zB] at h0
    refine WI.seq ?_
    refine WI.regB tabSc6_ok [2, 3] ?_
    iterate 2 refine oS ?_
    refine oN ?_
    refine thenQ_normal ?_
    refine WI.ret ?_
    refine thenQ_ret ?_
    first | refine lfR ?_ | refine lfR2 ?_
    rw [putA, if_pos (by omega)] -- leaf 0
  · try simp only [zB] at h0
    refine WI.skip ?_
    refine thenQ_normal ?_
    refine WI.seq ?_
    refine WI.seq ?_
    refine WI.regB tabSc6_ok [0, 4] ?_
    refine oS ?_
    refine oN ?_
    refine thenQ_normal ?_
    refine WI.block ?_
    refine WI.loop (fun φ os => ∃ (j : Nat), φ = [(0, .x (.sl (rows rAct l))), (4, .x (.int .i64 j))] ∧ os = [] ∧ j ≤ l.length ∧ (∀ a ∈ l.take j, okA a)) (down l.length 4) ?_ (fun φ os hI => ?_)
    · exact ⟨0, rfl, rfl, by omega, by simp⟩
    · obtain ⟨j, rfl, rfl, hj, ha⟩ := hI
      refine WI.seq ?_
      refine WI.seq ?_
      refine WI.regB tabSc6_ok [0, 4, 17] ?_
      iterate 2 refine oS ?_
      iterate 2 refine oG (hok := by first | with_reducible rfl | omega | (simp only [List.length_append, decide_eq_true_eq]; omega) | (simp; done) | (simp; omega) | rfl) ?_
      refine oN ?_
      refine thenQ_normal ?_
      refine WI.cond (b := _) rfl rfl (fun h1 => ?_) (fun h1 => ?_)
      · try simp only [zB] at h1
        refine WI.skip ?_
        refine thenQ_normal ?_
        refine WI.seq ?_
        refine WI.block ?_
        refine WI.seq ?_
        refine WI.regB tabSc6_ok [0, 4, 25] ?_
        iterate 2 refine oS ?_
        iterate 2 refine oG (hok := by first | with_reducible rfl | omega | (simp only [List.length_append, decide_eq_true_eq]; omega) | (simp; done) | (simp; omega) | rfl) ?_
        refine oC (hok := by first | with_reducible rfl | omega | (simp only [List.length_append, decide_eq_true_eq]; omega) | (simp; done) | (simp; omega) | rfl) ?_
        refine oG (hok := by first | with_reducible rfl | omega | (simp only [List.length_append, decide_eq_true_eq]; omega) | (simp; done) | (simp; omega) | rfl) ?_
        refine oN ?_
        refine thenQ_normal ?_
        refine WI.cond (b := _) rfl rfl (fun h2 => ?_) (fun h2 => ?_)
        · try simp only [zB] at h2
          refine WI.seq ?_
          refine WI.regB tabSc6_ok [2, 3] ?_
          iterate 2 refine oS ?_
          refine oN ?_
          refine thenQ_normal ?_
          refine WI.ret ?_
          refine blockQ_ret ?_
          refine thenQ_ret ?_
          refine thenQ_ret ?_
          refine blockQ_ret ?_
          refine thenQ_ret ?_
          first | refine lfR ?_ | refine lfR2 ?_
          have hn : ¬ okA l[j] := by simpa using h2
          rw [putA, if_neg (by omega), if_neg (fun h => hn (h _ (List.getElem_mem _)))] -- leaf 1
        · try simp only [zB] at h2
          refine WI.skip ?_
          refine blockQ_normal ?_
          refine thenQ_normal ?_
          refine WI.regB tabSc6_ok [0, 4] ?_
          refine oS ?_
          refine oG (hok := by first | with_reducible rfl | omega | (simp only [List.length_append, decide_eq_true_eq]; omega) | (simp; done) | (simp; omega) | rfl) ?_
          refine oS ?_
          refine oN ?_
          refine thenQ_normal ?_
          exact ⟨⟨j + 1, by simp, rfl, by omega, okA_take (by omega) ha (by simpa using h2)⟩, by simp [down, Ab.get, D.val, intOf?]; omega⟩
      · try simp only [zB] at h1
        refine WI.exit ?_
        refine thenQ_exit ?_
        refine thenQ_exit ?_
        refine blockQ_hit ?_
        refine thenQ_normal ?_
        refine WI.seq ?_
        rw [List.take_of_length_le (by omega)] at ha
        refine WI.regB tabSc6_ok [0, 5] ?_
        refine oS ?_
        refine oN ?_
        refine thenQ_normal ?_
        refine WI.seq ?_
        refine WI.seq ?_
        refine WI.regB tabSc6_ok [0, 5, 6] ?_
        refine oS ?_
        refine oN ?_
        refine thenQ_normal ?_
        refine WI.block ?_
        refine WI.loop (fun φ os => ∃ (j : Nat), φ = [(0, .x (.sl (rows rAct l))), (5, .x (.str ((l.take j).map oneB).flatten)), (6, .x (.int .i64 j))] ∧ os = [] ∧ j ≤ l.length) (down l.length 6) ?_ (fun φ os hI => ?_)
        · exact ⟨0, rfl, rfl, by omega⟩
        · obtain ⟨j, rfl, rfl, hj⟩ := hI
          refine WI.seq ?_
          refine WI.seq ?_
          refine WI.regB tabSc6_ok [0, 5, 6, 29] ?_
          iterate 2 refine oS ?_
          iterate 2 refine oG (hok := by first | with_reducible rfl | omega | (simp only [List.length_append, decide_eq_true_eq]; omega) | (simp; done) | (simp; omega) | rfl) ?_
          refine oN ?_
          refine thenQ_normal ?_
          refine WI.cond (b := _) rfl rfl (fun h3 => ?_) (fun h3 => ?_)
          · try simp only [zB] at h3
            refine WI.skip ?_
            refine thenQ_normal ?_
            refine WI.seq ?_
            refine WI.block ?_
            refine WI.seq ?_
            have hj4 : j < l.length := by omega
            have hok : okA l[j] := ha _ (List.getElem_mem _)
            have g1 := pt_len (gT_mk (t := 10) (b := (nput l[j].1).1) rfl (by have := nput_len l[j].1; omega))
            have g2 := pt_len (gT_mk (t := 2) (b := (nput l[j].2.1).1) rfl (by have := nput_len l[j].2.1; omega))
            have g3 := pt_len (gT_mk (t := 4) (b := l[j].2.2.1) rfl (by have := hok.2.2.2.2.2.2; omega))
            have g4 := pt_len (gT_mk (t := 2) (b := (nput l[j].2.2.2.1).1) rfl (by have := nput_len l[j].2.2.2.1; omega))
            have k1 := nput_len l[j].1
            have k2 := nput_len l[j].2.1
            have k3 := hok.2.2.2.2.2.2
            have k4 := nput_len l[j].2.2.2.1
            have k5 := oneB_len k3
            have k6 := ones_take_le l ha (by omega) j
            rw [pt_def 4] at g3
            simp only at g1 g2 g3 g4
            refine WI.regB tabSc6_ok [0, 5, 6, 7] ?_
            iterate 2 refine oS ?_
            refine oG (hok := by first | with_reducible rfl | omega | (simp only [List.length_append, decide_eq_true_eq]; omega) | (simp; done) | (simp; omega) | rfl) ?_
            refine oS ?_
            refine oG (hok := by first | with_reducible rfl | omega | (simp only [List.length_append, decide_eq_true_eq]; omega) | (simp; done) | (simp; omega) | rfl) ?_
            refine oC (hok := by first | with_reducible rfl | omega | (simp only [List.length_append, decide_eq_true_eq]; omega) | (simp; done) | (simp; omega) | rfl) ?_
            refine oS ?_
            iterate 2 refine oG (hok := by first | with_reducible rfl | omega | (simp only [List.length_append, decide_eq_true_eq]; omega) | (simp; done) | (simp; omega) | rfl) ?_
            iterate 2 refine oS ?_
            refine oN ?_
            refine thenQ_normal ?_
            refine WI.seq ?_
            refine WI.dregB tabSc6_ok [0, 5, 6, 9] ?_
            iterate 2 refine dFS ?_
            refine dQG (hok := by first | with_reducible rfl | omega | (simp only [List.length_append, decide_eq_true_eq]; omega) | (simp; done) | (simp; omega) | rfl) ?_
            refine dFS ?_
            refine dQG (hok := by first | with_reducible rfl | omega | (simp only [List.length_append, decide_eq_true_eq]; omega) | (simp; done) | (simp; omega) | rfl) ?_
            refine dQC (hok := by first | with_reducible rfl | omega | (simp only [List.length_append, decide_eq_true_eq]; omega) | (simp; done) | (simp; omega) | rfl) ?_
            iterate 2 refine dFS ?_
            refine dQG (hok := by first | with_reducible rfl | omega | (simp only [List.length_append, decide_eq_true_eq]; omega) | (simp; done) | (simp; omega) | rfl) ?_
            refine dFS ?_
            refine dQG (hok := by first | with_reducible rfl | omega | (simp only [List.length_append, decide_eq_true_eq]; omega) | (simp; done) | (simp; omega) | rfl) ?_
            refine dQC (hok := by first | with_reducible rfl | omega | (simp only [List.length_append, decide_eq_true_eq]; omega) | (simp; done) | (simp; omega) | rfl) ?_
            refine dFG (hok := by first | with_reducible rfl | omega | (simp only [List.length_append, decide_eq_true_eq]; omega) | (simp; done) | (simp; omega) | rfl) ?_
            refine dFS ?_
            refine dFG (hok := by first | with_reducible rfl | omega | (simp only [List.length_append, decide_eq_true_eq]; omega) | (simp; done) | (simp; omega) | rfl) ?_
            iterate 2 refine dFS ?_
            refine dQG (hok := by first | with_reducible rfl | omega | (simp only [List.length_append, decide_eq_true_eq]; omega) | (simp; done) | (simp; omega) | rfl) ?_
            refine dFS ?_
            refine dQG (hok := by first | with_reducible rfl | omega | (simp only [List.length_append, decide_eq_true_eq]; omega) | (simp; done) | (simp; omega) | rfl) ?_
            refine dAC (hok := by first | with_reducible rfl | omega | (simp only [List.length_append, decide_eq_true_eq]; omega) | (simp; done) | (simp; omega) | rfl) ?_
            refine dFG (hok := by first | with_reducible rfl | omega | (simp only [List.length_append, decide_eq_true_eq]; omega) | (simp; done) | (simp; omega) | rfl) ?_
            refine dAC (hok := by first | with_reducible rfl | omega | (simp only [List.length_append, decide_eq_true_eq]; omega) | (simp; done) | (simp; omega) | rfl) ?_
            refine dFS ?_
            iterate 2 refine dFG (hok := by first | with_reducible rfl | omega | (simp only [List.length_append, decide_eq_true_eq]; omega) | (simp; done) | (simp; omega) | rfl) ?_
            iterate 2 refine dFS ?_
            refine dN ?_
            refine thenQ_normal ?_
            refine WI.regB tabSc6_ok [0, 5, 6] ?_
            iterate 2 refine oS ?_
            refine oG (hok := by first | with_reducible rfl | omega | (simp only [List.length_append, decide_eq_true_eq]; omega) | (simp; done) | (simp; omega) | rfl) ?_
            refine oS ?_
            refine oN ?_
            refine blockQ_normal ?_
            refine thenQ_normal ?_
            refine WI.regB tabSc6_ok [0, 5, 6] ?_
            refine oS ?_
            refine oG (hok := by first | with_reducible rfl | omega | (simp only [List.length_append, decide_eq_true_eq]; omega) | (simp; done) | (simp; omega) | rfl) ?_
            refine oS ?_
            refine oN ?_
            refine thenQ_normal ?_
            exact ⟨⟨j + 1, by rw [ones_step l j (by omega)]; rfl, rfl, by omega⟩, by simp [down, Ab.get, D.val, intOf?]; omega⟩
          · try simp only [zB] at h3
            refine WI.exit ?_
            refine thenQ_exit ?_
            refine thenQ_exit ?_
            refine blockQ_hit ?_
            refine thenQ_normal ?_
            refine WI.seq ?_
            refine WI.regB tabSc6_ok [2, 3] ?_
            refine oS ?_
            refine oC (hok := by first | with_reducible rfl | omega | (simp only [List.length_append, decide_eq_true_eq]; omega) | (simp; done) | (simp; omega) | rfl) ?_
            iterate 2 refine oG (hok := by first | with_reducible rfl | omega | (simp only [List.length_append, decide_eq_true_eq]; omega) | (simp; done) | (simp; omega) | rfl) ?_
            iterate 2 refine oS ?_
            refine oN ?_
            refine thenQ_normal ?_
            refine WI.ret ?_
            first | refine lfR ?_ | refine lfR2 ?_
            rw [List.take_of_length_le (by omega), putA, if_neg (by omega), if_pos ha] -- leaf 2
end Go.Proofs.Ytcffpndhodhncaa
end
section
/- Scripts: the document's reading; whether two are the same. -/
set_option linter.unusedSimpArgs false
set_option linter.unusedVariables false
namespace Go.Proofs.Ytcffpndhodhncaa
open Go.RowKit Go.Bo Go.Ab

def putARG : List D → Option (Bool × D)
  | [.x (.sl L)] => (unrows rAct L).bind fun l => some (decide (l.length ≤ 9223372036854775807), .tup [.x (.str (putA l).1), .x (.int .i64 (putA l).2)])
  | _ => none
theorem putARG_ok : ∀ args r, putARG args = some (true, r) → PCalls Try.prog 12 args r := by
  intro args r h
  unfold putARG at h
  split at h
  · rename_i L
    obtain ⟨l, hr0, h⟩ := Option.bind_eq_some_iff.1 h
    simp only [Option.some.injEq, Prod.mk.injEq, Bool.and_eq_true, decide_eq_true_eq, true_and] at h
    obtain ⟨h1, rfl⟩ := h
    rw [← rows_unrows good_rAct hr0]
    exact putAR_c l h1
  · cases h
def tabSc7 : Tabs := addQ (addQ (addQ (addQ (noTabs) 48 readRG) 49 allRG) 50 nreadRG) 12 putARG
theorem tabSc7_ok : SsOk Try.prog tabSc7 := addQ_ok (addQ_ok (addQ_ok (addQ_ok (noTabs_ok) (G_enters G_ok (p := i48) rfl) readRG_ok) (G_enters G_ok (p := i49) rfl) allRG_ok) (G_enters G_ok (p := i50) rfl) nreadRG_ok) (G_enters G_ok (p := i12) rfl) putARG_ok
theorem tabSc7_q48 (a : List D) : tabSc7.q 48 a = readRG a := rfl
theorem tabSc7_q49 (a : List D) : tabSc7.q 49 a = allRG a := rfl
theorem tabSc7_q50 (a : List D) : tabSc7.q 50 a = nreadRG a := rfl
theorem tabSc7_q12 (a : List D) : tabSc7.q 12 a = putARG a := rfl
theorem tabSc7_r (f : FuncId) (a : List D) (o : List Ob) : tabSc7.r f a o = none := rfl
theorem tabSc7_k (f : FuncId) (a : List D) (o : List Ob) : tabSc7.k f a o = none := rfl
theorem act_ext {x y : Act} (h : x.1 = y.1 ∧ x.2.1 = y.2.1 ∧ x.2.2.1 = y.2.2.1 ∧ x.2.2.2.1 = y.2.2.2.1) : x = y := Prod.ext h.1 (Prod.ext h.2.1 (Prod.ext h.2.2.1 (Prod.ext h.2.2.2 rfl)))
theorem same31_c (a b : List Act) : PCalls Try.prog 15 [.x (.sl (rows rAct a)), .x (.sl (rows rAct b))] (.x (.bool (decide (a = b)))) := by
  refine PCalls.wf (fun hw => ?_)
  have ha : a.length ≤ maxLen := by have := (hw _ (List.mem_cons_self)).1; rwa [rows_len] at this
  have hb : b.length ≤ maxLen := by have := (hw _ (List.mem_cons_of_mem _ List.mem_cons_self)).1; rwa [rows_len] at this
  clear hw
  simp only [maxLen] at ha hb
  refine FCalls.pure (fcallsG (fz := true) G_ok (p := i15) rfl _ (Nat.le_of_ble_eq_true rfl) _ (fun C0 E0 => ?_)) rfl
  dsimp only [i15, argsφ]
  have uu := trivial
  refine WI.seq ?_
  refine WI.regB noTabs_ok [0, 1] ?_
  refine oS ?_
  refine oN ?_
  refine thenQ_normal ?_
  refine WI.seq ?_
  refine WI.seq ?_
  refine WI.regB noTabs_ok [0, 1, 10] ?_
  refine oS ?_
  refine oG ?_
  refine oS ?_
  iterate 2 refine oG ?_
  refine oN ?_
  refine thenQ_normal ?_
  refine WI.cond (b := _) rfl rfl (fun h0 => ?_) (fun h0 => ?_)
  · try simp only [zB] at h0
    refine WI.seq ?_
    refine WI.regB noTabs_ok [4] ?_
    refine oS ?_
    refine oN ?_
    refine thenQ_normal ?_
    refine WI.ret ?_
    refine thenQ_ret ?_
    first | refine lfR ?_ | refine lfR2 ?_
    rw [decide_eq_false (by rintro rfl; simp at h0)] -- leaf 0
  · try simp only [zB] at h0
    refine WI.skip ?_
    refine thenQ_normal ?_
    refine WI.seq ?_
    refine WI.seq ?_
    refine WI.regB noTabs_ok [0, 1, 5] ?_
    refine oS ?_
    refine oN ?_
    refine thenQ_normal ?_
    refine WI.block ?_
    refine WI.loop (fun φ os => ∃ j : Nat, φ = [(0, .x (.sl (rows rAct a))), (1, .x (.sl (rows rAct b))), (5, .x (.int .i64 j))] ∧ os = [] ∧ j ≤ a.length ∧ a.length = b.length ∧ a.take j = b.take j) (down a.length 5) ?_ (fun φ os hI => ?_)
    · exact ⟨0, rfl, rfl, by omega, by omega, rfl⟩
    · obtain ⟨j, rfl, rfl, hj, hl, he⟩ := hI
      refine WI.seq ?_
      refine WI.seq ?_
      refine WI.regB noTabs_ok [0, 1, 5, 14] ?_
      iterate 2 refine oS ?_
      iterate 2 refine oG ?_
      refine oN ?_
      refine thenQ_normal ?_
      refine WI.cond (b := _) rfl rfl (fun h1 => ?_) (fun h1 => ?_)
      · try simp only [zB] at h1
        refine WI.skip ?_
        refine thenQ_normal ?_
        refine WI.seq ?_
        refine WI.block ?_
        refine WI.seq ?_
        refine WI.dregB noTabs_ok [0, 1, 5, 25] ?_
        iterate 2 refine dFS ?_
        iterate 2 refine dQG ?_
        iterate 2 refine dFS ?_
        iterate 2 refine dQG ?_
        refine dFG ?_
        refine dN ?_
        refine thenQ_normal ?_
        refine WI.cond (b := _) rfl rfl (fun h2 => ?_) (fun h2 => ?_)
        · try simp only [zB] at h2
          refine WI.seq ?_
          refine WI.regB noTabs_ok [4] ?_
          refine oS ?_
          refine oN ?_
          refine thenQ_normal ?_
          refine WI.ret ?_
          refine blockQ_ret ?_
          refine thenQ_ret ?_
          refine thenQ_ret ?_
          refine blockQ_ret ?_
          refine thenQ_ret ?_
          first | refine lfR ?_ | refine lfR2 ?_
          rw [decide_eq_false (by rintro rfl; simp at h2)] -- leaf 1
        · try simp only [zB] at h2
          refine WI.skip ?_
          refine blockQ_normal ?_
          refine thenQ_normal ?_
          refine WI.regB noTabs_ok [0, 1, 5] ?_
          refine oS ?_
          refine oG ?_
          refine oS ?_
          refine oN ?_
          refine thenQ_normal ?_
          exact ⟨⟨j + 1, by simp, rfl, by omega, hl, take_ext he (by omega) (by omega) (act_ext h2)⟩, by simp [down, Ab.get, D.val, intOf?]; omega⟩
      · try simp only [zB] at h1
        refine WI.exit ?_
        refine thenQ_exit ?_
        refine thenQ_exit ?_
        refine blockQ_hit ?_
        refine thenQ_normal ?_
        refine WI.seq ?_
        refine WI.regB noTabs_ok [4] ?_
        refine oS ?_
        refine oN ?_
        refine thenQ_normal ?_
        refine WI.ret ?_
        first | refine lfR ?_ | refine lfR2 ?_
        rw [decide_eq_true]; rw [List.take_of_length_le (by omega), List.take_of_length_le (by omega)] at he; exact he -- leaf 2
theorem outs_acts (s : List UInt8) (h : (rdA s).2 = 0) : (allB (readB s).1.2.1).1.map (fun x => actC (allB x.2.1).1) = (rdA s).1 := by
  obtain ⟨h1, h2, h3⟩ := rdA_shape s h
  rw [h2]
  simp only [List.map_map]
  conv => rhs; rw [← List.map_id (rdA s).1]
  refine List.map_congr_left fun a ha => ?_
  show actC (allB (rowT a).2.1).1 = a
  rw [(h3 a ha).2]
  exact actC_act (h3 a ha).1
theorem outs_ok (s : List UInt8) (h : (rdA s).2 = 0) (j : Nat) (hj : j < (allB (readB s).1.2.1).1.length) : (allB (allB (readB s).1.2.1).1[j].2.1).2 = 0 ∧ (allB (allB (readB s).1.2.1).1[j].2.1).1.length = 4 := by
  obtain ⟨h1, h2, h3⟩ := rdA_shape s h
  have hm := List.getElem_mem hj
  generalize (allB (readB s).1.2.1).1[j] = x at hm ⊢
  rw [h2] at hm
  obtain ⟨a, ha, rfl⟩ := List.mem_map.1 hm
  rw [(h3 a ha).2]
  exact ⟨rfl, rfl⟩
theorem rdAR_c (s : List UInt8) (hs : s.length ≤ 9223372036854775807) : PCalls Try.prog 14 [.x (.str s)] (.tup [.x (.sl (rows rAct (rdA s).1)), .x (.int .i64 (rdA s).2)]) := by
  have hr := readB_okT s
  have hr2 := readB_ok s
  have ha := allB_okT (readB s).1.2.1
  have hb := body_len31 s hs
  have hsh := rdA_shape s
  refine FCalls.pure (fcallsG (fz := true) G_ok (p := i14) rfl _ (Nat.le_of_ble_eq_true rfl) _ (fun C0 E0 => ?_)) rfl
  dsimp only [i14, argsφ]
  have uu := And.intro @readRG.eq_1 (And.intro @readRG.eq_2 (And.intro @readD.eq_1 (And.intro @allRG.eq_1 (And.intro @allRG.eq_2 (And.intro @nreadRG.eq_1 (And.intro @nreadRG.eq_2 (And.intro @putARG.eq_1 (And.intro @putARG.eq_2 (And.intro @un_act (And.intro @tabSc7_r (And.intro @tabSc7_k (And.intro @tabSc7_q12 (And.intro @tabSc7_q48 (And.intro @tabSc7_q49 (@tabSc7_q50)))))))))))))))
  refine WI.seq ?_
  refine WI.regB tabSc7_ok [0] ?_
  iterate 2 refine oS ?_
  refine oN ?_
  refine thenQ_normal ?_
  refine WI.seq ?_
  refine WI.regB tabSc7_ok [0, 4, 6] ?_
  refine oS ?_
  refine oC (hok := by first | with_reducible rfl | omega | (simp only [List.length_append, decide_eq_true_eq]; omega) | (simp; done) | (simp; omega) | rfl) ?_
  refine oS ?_
  iterate 5 refine oG (hok := by first | with_reducible rfl | omega | (simp only [List.length_append, decide_eq_true_eq]; omega) | (simp; done) | (simp; omega) | rfl) ?_
  iterate 2 refine oS ?_
  refine oN ?_
  refine thenQ_normal ?_
  refine WI.seq ?_
  refine WI.regB tabSc7_ok [0, 6, 7, 8] ?_
  refine oS ?_
  refine oG (hok := by first | with_reducible rfl | omega | (simp only [List.length_append, decide_eq_true_eq]; omega) | (simp; done) | (simp; omega) | rfl) ?_
  refine oC (hok := by first | with_reducible rfl | omega | (simp only [List.length_append, decide_eq_true_eq]; omega) | (simp; done) | (simp; omega) | rfl) ?_
  refine oS ?_
  iterate 2 refine oG (hok := by first | with_reducible rfl | omega | (simp only [List.length_append, decide_eq_true_eq]; omega) | (simp; done) | (simp; omega) | rfl) ?_
  iterate 2 refine oS ?_
  refine oN ?_
  refine thenQ_normal ?_
  refine WI.seq ?_
  refine WI.seq ?_
  refine WI.regB tabSc7_ok [0, 7, 38] ?_
  refine oS ?_
  refine oG (hok := by first | with_reducible rfl | omega | (simp only [List.length_append, decide_eq_true_eq]; omega) | (simp; done) | (simp; omega) | rfl) ?_
  refine oS ?_
  iterate 3 refine oG (hok := by first | with_reducible rfl | omega | (simp only [List.length_append, decide_eq_true_eq]; omega) | (simp; done) | (simp; omega) | rfl) ?_
  refine oN ?_
  refine thenQ_normal ?_
  refine WI.cond (b := _) rfl rfl (fun h0 => ?_) (fun h0 => ?_)
  · try simp only [zB] at h0
    refine WI.seq ?_
    refine WI.regB tabSc7_ok [2, 3] ?_
    iterate 2 refine oS ?_
    refine oN ?_
    refine thenQ_normal ?_
    refine WI.nnA ?_
    refine WI.ret ?_
    refine thenQ_ret ?_
    first | refine lfR ?_ | refine lfR2 ?_
    rw [rdA_err s (fun h => by obtain ⟨k1, k2, k3⟩ := hsh h; exact h0.elim (fun h => h k1) (fun h => h (by rw [k2]))  )]; rfl -- leaf 0
  · try simp only [zB] at h0
    refine WI.skip ?_
    refine thenQ_normal ?_
    refine WI.seq ?_
    refine WI.regB tabSc7_ok [0, 7, 9] ?_
    refine oS ?_
    refine oN ?_
    refine thenQ_normal ?_
    refine WI.seq ?_
    refine WI.seq ?_
    refine WI.regB tabSc7_ok [0, 7, 9, 10] ?_
    refine oS ?_
    refine oN ?_
    refine thenQ_normal ?_
    refine WI.block ?_
    refine WI.ownA 9 89 4 ?_
    refine WI.loop (fun φ os => ∃ (j : Nat) (out : List Act), φ = [(0, .x (.str s)), (7, .x (.sl (rows rTlv (allB (readB s).1.2.1).1))), (9, .ref 1 out.length 0 out.length), (10, .x (.int .i64 j))] ∧ os = [.box [.x (.int .i64 (readB s).1.1), .x (.str (readB s).1.2.1)], .rows false 89 4 (rows rAct out)] ∧ j ≤ (allB (readB s).1.2.1).1.length ∧ (∀ a ∈ (allB (readB s).1.2.1).1.take j, (allB a.2.1).2 = 0 ∧ (allB a.2.1).1.length = 4) ∧ out.length = j ∧ out = ((allB (readB s).1.2.1).1.take j).map (fun x => actC (allB x.2.1).1)) (down (allB (readB s).1.2.1).1.length 10) ?_ (fun φ os hI => ?_)
    · exact ⟨0, [], rfl, rfl, by omega, by simp, rfl, rfl⟩
    · obtain ⟨j, out, rfl, rfl, hj, hv, ho, he⟩ := hI
      refine WI.seq ?_
      refine WI.seq ?_
      refine WI.regB tabSc7_ok [0, 7, 9, 10, 42] ?_
      iterate 2 refine oS ?_
      iterate 2 refine oG (hok := by first | with_reducible rfl | omega | (simp only [List.length_append, decide_eq_true_eq]; omega) | (simp; done) | (simp; omega) | rfl) ?_
      refine oN ?_
      refine thenQ_normal ?_
      refine WI.cond (b := _) rfl rfl (fun h1 => ?_) (fun h1 => ?_)
      · try simp only [zB] at h1
        refine WI.skip ?_
        refine thenQ_normal ?_
        refine WI.seq ?_
        refine WI.block ?_
        refine WI.seq ?_
        have hj4 : j < (allB (readB s).1.2.1).1.length := by omega
        have hx := (ha.2 _ (List.getElem_mem hj4)).1.2.2
        have hy := allB_okT (allB (readB s).1.2.1).1[j].2.1
        have hz := fun h => outs_ok s h j hj4
        refine WI.regB tabSc7_ok [0, 7, 9, 10, 11, 12] ?_
        iterate 2 refine oS ?_
        refine oG (hok := by first | with_reducible rfl | omega | (simp only [List.length_append, decide_eq_true_eq]; omega) | (simp; done) | (simp; omega) | rfl) ?_
        refine oS ?_
        refine oG (hok := by first | with_reducible rfl | omega | (simp only [List.length_append, decide_eq_true_eq]; omega) | (simp; done) | (simp; omega) | rfl) ?_
        refine oC (hok := by first | with_reducible rfl | omega | (simp only [List.length_append, decide_eq_true_eq]; omega) | (simp; done) | (simp; omega) | rfl) ?_
        refine oS ?_
        iterate 2 refine oG (hok := by first | with_reducible rfl | omega | (simp only [List.length_append, decide_eq_true_eq]; omega) | (simp; done) | (simp; omega) | rfl) ?_
        iterate 2 refine oS ?_
        refine oN ?_
        refine thenQ_normal ?_
        refine WI.seq ?_
        refine WI.seq ?_
        refine WI.regB tabSc7_ok [0, 7, 9, 10, 11, 60] ?_
        refine oS ?_
        refine oG (hok := by first | with_reducible rfl | omega | (simp only [List.length_append, decide_eq_true_eq]; omega) | (simp; done) | (simp; omega) | rfl) ?_
        refine oS ?_
        iterate 4 refine oG (hok := by first | with_reducible rfl | omega | (simp only [List.length_append, decide_eq_true_eq]; omega) | (simp; done) | (simp; omega) | rfl) ?_
        refine oN ?_
        refine thenQ_normal ?_
        refine WI.cond (b := _) rfl rfl (fun h2 => ?_) (fun h2 => ?_)
        · try simp only [zB] at h2
          refine WI.seq ?_
          refine WI.regB tabSc7_ok [2, 3] ?_
          iterate 2 refine oS ?_
          refine oN ?_
          refine thenQ_normal ?_
          refine WI.nnA ?_
          refine WI.ret ?_
          refine thenQ_ret ?_
          refine blockQ_ret ?_
          refine thenQ_ret ?_
          refine thenQ_ret ?_
          refine blockQ_ret ?_
          refine thenQ_ret ?_
          first | refine lfR ?_ | refine lfR2 ?_
          rw [rdA_err s (fun h => by have := hz h; omega)]; rfl -- leaf 1
        · try simp only [zB] at h2
          refine WI.skip ?_
          refine thenQ_normal ?_
          refine WI.seq ?_
          have hl4 : (allB (allB (readB s).1.2.1).1[j].2.1).1.length = 4 := by omega
          have h04 : (allB (allB (readB s).1.2.1).1[j].2.1).2 = 0 := by omega
          have hp := fun (i : Nat) (hi : i < (allB (allB (readB s).1.2.1).1[j].2.1).1.length) => (hy.2 _ (List.getElem_mem hi)).1.2.2
          have hp0 := hp 0 (by omega)
          have hp1 := hp 1 (by omega)
          have hp3 := hp 3 (by omega)
          refine WI.regB tabSc7_ok [0, 7, 9, 10, 11, 13] ?_
          refine oS ?_
          refine oG (hok := by first | with_reducible rfl | omega | (simp only [List.length_append, decide_eq_true_eq]; omega) | (simp; done) | (simp; omega) | rfl) ?_
          refine oS ?_
          refine oG (hok := by first | with_reducible rfl | omega | (simp only [List.length_append, decide_eq_true_eq]; omega) | (simp; done) | (simp; omega) | rfl) ?_
          refine oC (hok := by first | with_reducible rfl | omega | (simp only [List.length_append, decide_eq_true_eq]; omega) | (simp; done) | (simp; omega) | rfl) ?_
          refine oS ?_
          iterate 2 refine oG (hok := by first | with_reducible rfl | omega | (simp only [List.length_append, decide_eq_true_eq]; omega) | (simp; done) | (simp; omega) | rfl) ?_
          iterate 2 refine oS ?_
          refine oN ?_
          refine thenQ_normal ?_
          refine WI.seq ?_
          refine WI.regB tabSc7_ok [0, 7, 9, 10, 11, 13, 15] ?_
          refine oS ?_
          refine oG (hok := by first | with_reducible rfl | omega | (simp only [List.length_append, decide_eq_true_eq]; omega) | (simp; done) | (simp; omega) | rfl) ?_
          refine oS ?_
          refine oG (hok := by first | with_reducible rfl | omega | (simp only [List.length_append, decide_eq_true_eq]; omega) | (simp; done) | (simp; omega) | rfl) ?_
          refine oC (hok := by first | with_reducible rfl | omega | (simp only [List.length_append, decide_eq_true_eq]; omega) | (simp; done) | (simp; omega) | rfl) ?_
          refine oS ?_
          iterate 2 refine oG (hok := by first | with_reducible rfl | omega | (simp only [List.length_append, decide_eq_true_eq]; omega) | (simp; done) | (simp; omega) | rfl) ?_
          iterate 2 refine oS ?_
          refine oN ?_
          refine thenQ_normal ?_
          refine WI.seq ?_
          refine WI.regB tabSc7_ok [0, 7, 9, 10, 11, 13, 15, 17] ?_
          refine oS ?_
          refine oG (hok := by first | with_reducible rfl | omega | (simp only [List.length_append, decide_eq_true_eq]; omega) | (simp; done) | (simp; omega) | rfl) ?_
          refine oS ?_
          refine oG (hok := by first | with_reducible rfl | omega | (simp only [List.length_append, decide_eq_true_eq]; omega) | (simp; done) | (simp; omega) | rfl) ?_
          refine oC (hok := by first | with_reducible rfl | omega | (simp only [List.length_append, decide_eq_true_eq]; omega) | (simp; done) | (simp; omega) | rfl) ?_
          refine oS ?_
          iterate 2 refine oG (hok := by first | with_reducible rfl | omega | (simp only [List.length_append, decide_eq_true_eq]; omega) | (simp; done) | (simp; omega) | rfl) ?_
          iterate 2 refine oS ?_
          refine oN ?_
          refine thenQ_normal ?_
          refine WI.regB tabSc7_ok [0, 7, 9, 10] ?_
          iterate 4 refine oS ?_
          refine oG (hok := by first | with_reducible rfl | omega | (simp only [List.length_append, decide_eq_true_eq]; omega) | (simp; done) | (simp; omega) | rfl) ?_
          refine oS ?_
          refine oG (hok := by first | with_reducible rfl | omega | (simp only [List.length_append, decide_eq_true_eq]; omega) | (simp; done) | (simp; omega) | rfl) ?_
          refine oS ?_
          iterate 3 refine oG (hok := by first | with_reducible rfl | omega | (simp only [List.length_append, decide_eq_true_eq]; omega) | (simp; done) | (simp; omega) | rfl) ?_
          refine oS ?_
          refine oN ?_
          refine blockQ_normal ?_
          refine thenQ_normal ?_
          refine WI.post ?_
          refine WI.regB tabSc7_ok [0, 7, 9, 10] ?_
          refine oS ?_
          refine oG (hok := by first | with_reducible rfl | omega | (simp only [List.length_append, decide_eq_true_eq]; omega) | (simp; done) | (simp; omega) | rfl) ?_
          refine oS ?_
          refine oP ?_
          refine pPick [0, 1] ?_
          refine pEnd ?_
          refine thenQ_normal ?_
          exact ⟨⟨j + 1, out ++ [actC (allB (allB (readB s).1.2.1).1[j].2.1).1], by simp, by rw [← rows_act, actC_idx _ hl4], by omega, acts_take (by omega) hv ⟨h04, hl4⟩, by simp [ho], by rw [← List.take_append_getElem (i := j) (by omega), List.map_append, ← he]; rfl⟩, by simp [down, Ab.get, D.val, intOf?]; omega⟩
      · try simp only [zB] at h1
        refine WI.exit ?_
        refine thenQ_exit ?_
        refine thenQ_exit ?_
        refine blockQ_hit ?_
        refine thenQ_normal ?_
        refine WI.seq ?_
        refine WI.seq ?_
        rw [List.take_of_length_le (by omega)] at he
        have hno : (rdA s).2 = 0 → putA out = (s, 0) := fun h => by rw [he, outs_acts s h]; exact putA_rd s h
        refine WI.regB tabSc7_ok [0, 9, 19, 20] ?_
        refine oS ?_
        refine oC (hok := by first | with_reducible rfl | omega | (simp only [List.length_append, decide_eq_true_eq]; omega) | (simp; done) | (simp; omega) | rfl) ?_
        refine oS ?_
        iterate 2 refine oG (hok := by first | with_reducible rfl | omega | (simp only [List.length_append, decide_eq_true_eq]; omega) | (simp; done) | (simp; omega) | rfl) ?_
        iterate 2 refine oS ?_
        refine oN ?_
        refine thenQ_normal ?_
        refine WI.seq ?_
        refine WI.regB tabSc7_ok [9, 107] ?_
        refine oS ?_
        refine oG (hok := by first | with_reducible rfl | omega | (simp only [List.length_append, decide_eq_true_eq]; omega) | (simp; done) | (simp; omega) | rfl) ?_
        refine oS ?_
        iterate 4 refine oG (hok := by first | with_reducible rfl | omega | (simp only [List.length_append, decide_eq_true_eq]; omega) | (simp; done) | (simp; omega) | rfl) ?_
        refine oN ?_
        refine thenQ_normal ?_
        refine WI.cond (b := _) rfl rfl (fun h3 => ?_) (fun h3 => ?_)
        · try simp only [zB] at h3
          refine WI.seq ?_
          refine WI.regB tabSc7_ok [2, 3] ?_
          iterate 2 refine oS ?_
          refine oN ?_
          refine thenQ_normal ?_
          refine WI.nnA ?_
          refine WI.ret ?_
          refine thenQ_ret ?_
          first | refine lfR ?_ | refine lfR2 ?_
          rw [List.take_length] at h3
          rw [rdA_err s (fun h => by rw [hno h] at h3; simp at h3)]; rfl -- leaf 2
        · try simp only [zB] at h3
          refine WI.skip ?_
          refine thenQ_normal ?_
          refine WI.seq ?_
          refine WI.regB tabSc7_ok [2, 3] ?_
          iterate 3 refine oS ?_
          refine oN ?_
          refine thenQ_normal ?_
          refine WI.nnA ?_
          refine WI.ret ?_
          first | refine lfR ?_ | refine lfR2 ?_
          rw [List.take_length] at h3
          rw [rdA_put out s (Prod.ext h3.2 h3.1)] -- leaf 3
end Go.Proofs.Ytcffpndhodhncaa
end
section
/- Scripts: the laws. -/
set_option linter.unusedSimpArgs false
set_option linter.unusedVariables false
namespace Go.Proofs.Ytcffpndhodhncaa
open Go.RowKit Go.Bo Go.Ab

def rdAG : List D → Option (Bool × D)
  | [.x (.str s)] => some (decide (s.length ≤ 9223372036854775807), .tup [.x (.sl (rows rAct (rdA s).1)), .x (.int .i64 (rdA s).2)])
  | _ => none
theorem rdAG_ok : ∀ args r, rdAG args = some (true, r) → PCalls Try.prog 13 args r := by
  intro args r h
  unfold rdAG at h
  split at h
  · rename_i s
    simp only [Option.some.injEq, Prod.mk.injEq, Bool.and_eq_true, decide_eq_true_eq, true_and] at h
    obtain ⟨h1, rfl⟩ := h
    exact rdA_c s h1
  · cases h
def rdARG : List D → Option (Bool × D)
  | [.x (.str s)] => some (decide (s.length ≤ 9223372036854775807), .tup [.x (.sl (rows rAct (rdA s).1)), .x (.int .i64 (rdA s).2)])
  | _ => none
theorem rdARG_ok : ∀ args r, rdARG args = some (true, r) → PCalls Try.prog 14 args r := by
  intro args r h
  unfold rdARG at h
  split at h
  · rename_i s
    simp only [Option.some.injEq, Prod.mk.injEq, Bool.and_eq_true, decide_eq_true_eq, true_and] at h
    obtain ⟨h1, rfl⟩ := h
    exact rdAR_c s h1
  · cases h
def same31G : List D → Option (Bool × D)
  | [.x (.sl A), .x (.sl B)] => (unrows rAct A).bind fun a => (unrows rAct B).bind fun b => some (true, .x (.bool (decide (a = b))))
  | _ => none
theorem same31G_ok : ∀ args r, same31G args = some (true, r) → PCalls Try.prog 15 args r := by
  intro args r h
  unfold same31G at h
  split at h
  · rename_i A B
    obtain ⟨a, hr0, h⟩ := Option.bind_eq_some_iff.1 h
    obtain ⟨b, hr1, h⟩ := Option.bind_eq_some_iff.1 h
    simp only [Option.some.injEq, Prod.mk.injEq, Bool.and_eq_true, decide_eq_true_eq, true_and] at h
    obtain rfl := h
    rw [← rows_unrows good_rAct hr0]
    rw [← rows_unrows good_rAct hr1]
    exact same31_c a b
  · cases h
def few31 (l : List Act) : Bool := decide (l.length ≤ 1100 ∧ ∀ a ∈ l, a.2.2.1.length ≤ 4200)
theorem few_take {l : List Act} {j : Nat} (hj : j < l.length) (h : ∀ a ∈ l.take j, a.2.2.1.length ≤ 4200) (h1 : l[j].2.2.1.length ≤ 4200) : ∀ a ∈ l.take (j + 1), a.2.2.1.length ≤ 4200 := by
  rw [← List.take_append_getElem hj]
  intro s hs
  rcases List.mem_append.1 hs with hs | hs
  · exact h s hs
  · simp only [List.mem_singleton] at hs; subst hs; exact h1
theorem few31_c (l : List Act) : PCalls Try.prog 9 [.x (.sl (rows rAct l))] (.x (.bool (few31 l))) := by
  refine FCalls.pure (fcallsG (fz := true) G_ok (p := i9) rfl _ (Nat.le_of_ble_eq_true rfl) _ (fun C0 E0 => ?_)) rfl
  dsimp only [i9, argsφ]
  have uu := trivial
  refine WI.seq ?_
  refine WI.regB noTabs_ok [0] ?_
  refine oS ?_
  refine oN ?_
  refine thenQ_normal ?_
  refine WI.seq ?_
  refine WI.seq ?_
  refine WI.regB noTabs_ok [0, 6] ?_
  refine oS ?_
  iterate 2 refine oG ?_
  refine oN ?_
  refine thenQ_normal ?_
  refine WI.cond (b := _) rfl rfl (fun h0 => ?_) (fun h0 => ?_)
  · try simp only [zB] at h0
    refine WI.seq ?_
    refine WI.regB noTabs_ok [2] ?_
    refine oS ?_
    refine oN ?_
    refine thenQ_normal ?_
    refine WI.ret ?_
    refine thenQ_ret ?_
    first | refine lfR ?_ | refine lfR2 ?_
    rw [few31, decide_eq_false (fun h => by have := h.1; omega)] -- leaf 0
  · try simp only [zB] at h0
    refine WI.skip ?_
    refine thenQ_normal ?_
    refine WI.seq ?_
    refine WI.seq ?_
    refine WI.regB noTabs_ok [0, 3] ?_
    refine oS ?_
    refine oN ?_
    refine thenQ_normal ?_
    refine WI.block ?_
    refine WI.loop (fun φ os => ∃ (j : Nat), φ = [(0, .x (.sl (rows rAct l))), (3, .x (.int .i64 j))] ∧ os = [] ∧ j ≤ l.length ∧ (∀ a ∈ l.take j, a.2.2.1.length ≤ 4200)) (down l.length 3) ?_ (fun φ os hI => ?_)
    · exact ⟨0, rfl, rfl, by omega, by simp⟩
    · obtain ⟨j, rfl, rfl, hj, ha⟩ := hI
      refine WI.seq ?_
      refine WI.seq ?_
      refine WI.regB noTabs_ok [0, 3, 10] ?_
      iterate 2 refine oS ?_
      iterate 2 refine oG ?_
      refine oN ?_
      refine thenQ_normal ?_
      refine WI.cond (b := _) rfl rfl (fun h1 => ?_) (fun h1 => ?_)
      · try simp only [zB] at h1
        refine WI.skip ?_
        refine thenQ_normal ?_
        refine WI.seq ?_
        refine WI.block ?_
        refine WI.seq ?_
        refine WI.regB noTabs_ok [0, 3, 19] ?_
        iterate 2 refine oS ?_
        refine oG ?_
        refine oS ?_
        iterate 3 refine oG ?_
        refine oN ?_
        refine thenQ_normal ?_
        refine WI.cond (b := _) rfl rfl (fun h2 => ?_) (fun h2 => ?_)
        · try simp only [zB] at h2
          refine WI.seq ?_
          refine WI.regB noTabs_ok [2] ?_
          refine oS ?_
          refine oN ?_
          refine thenQ_normal ?_
          refine WI.ret ?_
          refine blockQ_ret ?_
          refine thenQ_ret ?_
          refine thenQ_ret ?_
          refine blockQ_ret ?_
          refine thenQ_ret ?_
          first | refine lfR ?_ | refine lfR2 ?_
          have hn : ¬ l[j].2.2.1.length ≤ 4200 := by omega
          rw [few31, decide_eq_false (fun h => hn (h.2 _ (List.getElem_mem _)))] -- leaf 1
        · try simp only [zB] at h2
          refine WI.skip ?_
          refine blockQ_normal ?_
          refine thenQ_normal ?_
          refine WI.regB noTabs_ok [0, 3] ?_
          refine oS ?_
          refine oG ?_
          refine oS ?_
          refine oN ?_
          refine thenQ_normal ?_
          exact ⟨⟨j + 1, by simp, rfl, by omega, few_take (by omega) ha (by omega)⟩, by simp [down, Ab.get, D.val, intOf?]; omega⟩
      · try simp only [zB] at h1
        refine WI.exit ?_
        refine thenQ_exit ?_
        refine thenQ_exit ?_
        refine blockQ_hit ?_
        refine thenQ_normal ?_
        refine WI.seq ?_
        refine WI.regB noTabs_ok [2] ?_
        refine oS ?_
        refine oN ?_
        refine thenQ_normal ?_
        refine WI.ret ?_
        first | refine lfR ?_ | refine lfR2 ?_
        rw [List.take_of_length_le (by omega)] at ha
        rw [few31, decide_eq_true ⟨by omega, ha⟩] -- leaf 2
def few31G : List D → Option (Bool × D)
  | [.x (.sl L)] => (unrows rAct L).bind fun l => some (true, .x (.bool (few31 l)))
  | _ => none
theorem few31G_ok : ∀ args r, few31G args = some (true, r) → PCalls Try.prog 9 args r := by
  intro args r h
  unfold few31G at h
  split at h
  · rename_i L
    obtain ⟨l, hr0, h⟩ := Option.bind_eq_some_iff.1 h
    simp only [Option.some.injEq, Prod.mk.injEq, Bool.and_eq_true, decide_eq_true_eq, true_and] at h
    obtain rfl := h
    rw [← rows_unrows good_rAct hr0]
    exact few31_c l
  · cases h
abbrev ax : Act := (3, 1, [120], 0, ())
theorem s31a : putA [] = ([48, 0], 0) := by kernel_rfl
theorem s31b : putA [ax] = ([48, 14, 48, 12, 10, 1, 3, 2, 1, 1, 4, 1, 120, 2, 1, 0], 0) := by kernel_rfl
theorem s31c : rdA [48, 14, 48, 12, 10, 1, 3, 2, 1, 1, 4, 1, 120, 2, 1, 0] = ([ax], 0) := by kernel_rfl
theorem s31d : rdA [48, 14, 48, 12, 10, 1, 3, 2, 1, 1, 4, 1, 120, 2, 1, 0, 120] = ([], 5) := by kernel_rfl
theorem s31e : putA [(6, 0, [], 0, ())] = ([], 1) := by kernel_rfl
theorem s31f : unrows rAct [[.int .i64 3, .int .i64 1, .str [120], .int .i64 0]] = some [ax] := rfl
theorem s31g : unrows rAct [[.int .i64 6, .int .i64 0, .str [], .int .i64 0]] = some [(6, 0, [], 0, ())] := rfl
theorem s31h : unrows rAct [] = some [] := rfl
def tabSc8 : Tabs := addT (addQ (addQ (addT (addQ (noTabs) 11 (viaNN putAG)) 11 (frzT (viaNN putAG))) 13 rdAG) 15 (viaNN same31G)) 15 (frzT (viaNN same31G))
theorem tabSc8_ok : SsOk Try.prog tabSc8 := addT_ok (addQ_ok (addQ_ok (addT_ok (addQ_ok (noTabs_ok) (G_enters G_ok (p := i11) rfl) (viaNN_ok putAG_ok)) (G_enters G_ok (p := i11) rfl) (frzT_ok (viaNN_ok putAG_ok))) (G_enters G_ok (p := i13) rfl) rdAG_ok) (G_enters G_ok (p := i15) rfl) (viaNN_ok same31G_ok)) (G_enters G_ok (p := i15) rfl) (frzT_ok (viaNN_ok same31G_ok))
theorem tabSc8_q11 (a : List D) : tabSc8.q 11 a = viaNN putAG a := rfl
theorem tabSc8_t11 (a : List D) (o : List Ob) : tabSc8.t 11 a o = liftT (frzT (viaNN putAG)) a o := rfl
theorem tabSc8_q13 (a : List D) : tabSc8.q 13 a = rdAG a := rfl
theorem tabSc8_q15 (a : List D) : tabSc8.q 15 a = viaNN same31G a := rfl
theorem tabSc8_t15 (a : List D) (o : List Ob) : tabSc8.t 15 a o = liftT (frzT (viaNN same31G)) a o := rfl
theorem tabSc8_r (f : FuncId) (a : List D) (o : List Ob) : tabSc8.r f a o = none := rfl
theorem tabSc8_k (f : FuncId) (a : List D) (o : List Ob) : tabSc8.k f a o = none := rfl
theorem awake31_c : PCalls Try.prog 10 [] (.x (.bool true)) := by
  refine FCalls.pure (fcallsG (fz := true) G_ok (p := i10) rfl _ (Nat.le_of_ble_eq_true rfl) _ (fun C0 E0 => ?_)) rfl
  dsimp only [i10, argsφ]
  have uu := And.intro @putAG.eq_1 (And.intro @putAG.eq_2 (And.intro @rdAG.eq_1 (And.intro @rdAG.eq_2 (And.intro @same31G.eq_1 (And.intro @same31G.eq_2 (And.intro @un_act (And.intro @s31a (And.intro @s31b (And.intro @s31c (And.intro @s31d (And.intro @s31e (And.intro @s31f (And.intro @s31g (And.intro @s31h (And.intro @tabSc8_r (And.intro @tabSc8_k (And.intro @tabSc8_q11 (And.intro @tabSc8_q13 (And.intro @tabSc8_q15 (And.intro @tabSc8_t11 (And.intro @tabSc8_t15 (@frzT.eq_1))))))))))))))))))))))
  refine WI.seq ?_
  refine WI.regB tabSc8_ok [] ?_
  refine oS ?_
  refine oN ?_
  refine thenQ_normal ?_
  refine WI.seq ?_
  refine WI.regB tabSc8_ok [1, 2] ?_
  refine oC ?_
  refine oS ?_
  iterate 2 refine oG ?_
  iterate 2 refine oS ?_
  refine oN ?_
  refine thenQ_normal ?_
  refine WI.seq ?_
  refine WI.regB tabSc8_ok [1, 2, 3, 4] ?_
  iterate 2 refine oG ?_
  refine oC ?_
  refine oS ?_
  iterate 2 refine oG ?_
  iterate 2 refine oS ?_
  refine oN ?_
  refine thenQ_normal ?_
  refine WI.seq ?_
  refine WI.regB tabSc8_ok [1, 2, 3, 4, 5, 6] ?_
  refine oS ?_
  refine oC ?_
  refine oS ?_
  iterate 2 refine oG ?_
  iterate 2 refine oS ?_
  refine oN ?_
  refine thenQ_normal ?_
  refine WI.seq ?_
  refine WI.regB tabSc8_ok [1, 2, 4, 5, 6, 8] ?_
  refine oS ?_
  refine oG ?_
  refine oC ?_
  refine oS ?_
  iterate 2 refine oG ?_
  iterate 2 refine oS ?_
  refine oN ?_
  refine thenQ_normal ?_
  refine WI.seq ?_
  refine WI.regB tabSc8_ok [1, 2, 4, 5, 6, 8, 10] ?_
  iterate 2 refine oG ?_
  refine oC ?_
  refine oS ?_
  iterate 2 refine oG ?_
  iterate 2 refine oS ?_
  refine oN ?_
  refine thenQ_normal ?_
  refine WI.seq ?_
  refine WI.regB tabSc8_ok [0] ?_
  refine oS ?_
  refine oG ?_
  refine oS ?_
  iterate 3 refine oG ?_
  refine oS ?_
  iterate 3 refine oG ?_
  refine oS ?_
  iterate 3 refine oG ?_
  refine oC ?_
  refine oG ?_
  refine oS ?_
  iterate 3 refine oG ?_
  refine oS ?_
  iterate 3 refine oG ?_
  refine oS ?_
  iterate 3 refine oG ?_
  refine oS ?_
  refine oN ?_
  refine thenQ_normal ?_
  refine WI.ret ?_
  first | refine lfR ?_ | refine lfR2 ?_
  first | rfl | exact ⟨rfl, rfl⟩ | trivial -- leaf 0
def awake31G : List D → Option (Bool × D)
  | [] => some (true, .x (.bool true))
  | _ => none
theorem awake31G_ok : ∀ args r, awake31G args = some (true, r) → PCalls Try.prog 10 args r := by
  intro args r h
  unfold awake31G at h
  split at h
  · simp only [Option.some.injEq, Prod.mk.injEq, Bool.and_eq_true, decide_eq_true_eq, true_and] at h
    obtain rfl := h
    exact awake31_c 
  · cases h
def tabSc9 : Tabs := addQ (addQ (addT (addQ (addQ (addQ (addT (addQ (addT (addQ (noTabs) 11 (viaNN putAG)) 11 (frzT (viaNN putAG))) 12 (viaNN putARG)) 12 (frzT (viaNN putARG))) 13 rdAG) 14 rdARG) 15 (viaNN same31G)) 15 (frzT (viaNN same31G))) 9 (viaNN few31G)) 10 awake31G
theorem tabSc9_ok : SsOk Try.prog tabSc9 := addQ_ok (addQ_ok (addT_ok (addQ_ok (addQ_ok (addQ_ok (addT_ok (addQ_ok (addT_ok (addQ_ok (noTabs_ok) (G_enters G_ok (p := i11) rfl) (viaNN_ok putAG_ok)) (G_enters G_ok (p := i11) rfl) (frzT_ok (viaNN_ok putAG_ok))) (G_enters G_ok (p := i12) rfl) (viaNN_ok putARG_ok)) (G_enters G_ok (p := i12) rfl) (frzT_ok (viaNN_ok putARG_ok))) (G_enters G_ok (p := i13) rfl) rdAG_ok) (G_enters G_ok (p := i14) rfl) rdARG_ok) (G_enters G_ok (p := i15) rfl) (viaNN_ok same31G_ok)) (G_enters G_ok (p := i15) rfl) (frzT_ok (viaNN_ok same31G_ok))) (G_enters G_ok (p := i9) rfl) (viaNN_ok few31G_ok)) (G_enters G_ok (p := i10) rfl) awake31G_ok
theorem tabSc9_q11 (a : List D) : tabSc9.q 11 a = viaNN putAG a := rfl
theorem tabSc9_t11 (a : List D) (o : List Ob) : tabSc9.t 11 a o = liftT (frzT (viaNN putAG)) a o := rfl
theorem tabSc9_q12 (a : List D) : tabSc9.q 12 a = viaNN putARG a := rfl
theorem tabSc9_t12 (a : List D) (o : List Ob) : tabSc9.t 12 a o = liftT (frzT (viaNN putARG)) a o := rfl
theorem tabSc9_q13 (a : List D) : tabSc9.q 13 a = rdAG a := rfl
theorem tabSc9_q14 (a : List D) : tabSc9.q 14 a = rdARG a := rfl
theorem tabSc9_q15 (a : List D) : tabSc9.q 15 a = viaNN same31G a := rfl
theorem tabSc9_t15 (a : List D) (o : List Ob) : tabSc9.t 15 a o = liftT (frzT (viaNN same31G)) a o := rfl
theorem tabSc9_q9 (a : List D) : tabSc9.q 9 a = viaNN few31G a := rfl
theorem tabSc9_q10 (a : List D) : tabSc9.q 10 a = awake31G a := rfl
theorem tabSc9_r (f : FuncId) (a : List D) (o : List Ob) : tabSc9.r f a o = none := rfl
theorem tabSc9_k (f : FuncId) (a : List D) (o : List Ob) : tabSc9.k f a o = none := rfl
theorem putA_le (l : List Act) : (putA l).1.length ≤ 70000 := by
  unfold putA
  split
  · simp
  · split
    · unfold putB
      split
      · split
        · rename_i h
          have := lenB_le (l.map oneB).flatten.length (by omega)
          simp only [List.length_cons, List.length_append]; omega
        · simp
      · simp
    · simp
theorem scriptBytes_c (l : List Act) (s : List UInt8) : PCalls Try.prog 3 [.x (.sl (rows rAct l)), .x (.str s)] (.x (.bool true)) := by
  refine FCalls.pure (fcallsG (fz := true) G_ok (p := i3) rfl _ (Nat.le_of_ble_eq_true rfl) _ (fun C0 E0 => ?_)) rfl
  dsimp only [i3, argsφ]
  have uu := And.intro @putAG.eq_1 (And.intro @putAG.eq_2 (And.intro @putARG.eq_1 (And.intro @putARG.eq_2 (And.intro @rdAG.eq_1 (And.intro @rdAG.eq_2 (And.intro @rdARG.eq_1 (And.intro @rdARG.eq_2 (And.intro @same31G.eq_1 (And.intro @same31G.eq_2 (And.intro @few31G.eq_1 (And.intro @few31G.eq_2 (And.intro @awake31G.eq_1 (And.intro @awake31G.eq_2 (And.intro @un_act (And.intro @tabSc9_r (And.intro @tabSc9_k (And.intro @tabSc9_q10 (And.intro @tabSc9_q11 (And.intro @tabSc9_q12 (And.intro @tabSc9_q13 (And.intro @tabSc9_q14 (And.intro @tabSc9_q15 (And.intro @tabSc9_q9 (And.intro @tabSc9_t11 (And.intro @tabSc9_t12 (And.intro @tabSc9_t15 (@frzT.eq_1)))))))))))))))))))))))))))
  refine WI.seq ?_
  refine WI.regB tabSc9_ok [0, 1] ?_
  refine oS ?_
  refine oN ?_
  refine thenQ_normal ?_
  refine WI.seq ?_
  refine WI.seq ?_
  refine WI.regB tabSc9_ok [0, 1, 20] ?_
  refine oS ?_
  refine oC ?_
  refine oG ?_
  refine oS ?_
  iterate 4 refine oG ?_
  refine oN ?_
  refine thenQ_normal ?_
  refine WI.cond (b := _) rfl rfl (fun h0 => ?_) (fun h0 => ?_)
  · try simp only [zB] at h0
    refine WI.seq ?_
    refine WI.regB tabSc9_ok [4] ?_
    refine oC ?_
    refine oS ?_
    refine oN ?_
    refine thenQ_normal ?_
    refine WI.ret ?_
    refine thenQ_ret ?_
    first | refine lfR ?_ | refine lfR2 ?_
    first | rfl | exact ⟨rfl, rfl⟩ | trivial -- leaf 0
  · try simp only [zB] at h0
    refine WI.skip ?_
    refine thenQ_normal ?_
    refine WI.seq ?_
    have hl : l.length ≤ 1100 := by
      have := h0
      simp only [few31, decide_eq_true_eq] at this
      omega
    refine WI.regB tabSc9_ok [0, 1, 5, 6] ?_
    refine oS ?_
    refine oC ?_
    refine oS ?_
    iterate 2 refine oG ?_
    iterate 2 refine oS ?_
    refine oN ?_
    refine thenQ_normal ?_
    refine WI.seq ?_
    refine WI.regB tabSc9_ok [1, 5, 6, 7, 8] ?_
    refine oS ?_
    refine oC ?_
    refine oS ?_
    iterate 2 refine oG ?_
    iterate 2 refine oS ?_
    refine oN ?_
    refine thenQ_normal ?_
    refine WI.seq ?_
    refine WI.regB tabSc9_ok [1, 5, 6, 7, 8, 9, 10] ?_
    refine oS ?_
    refine oC ?_
    refine oS ?_
    iterate 2 refine oG ?_
    iterate 2 refine oS ?_
    refine oN ?_
    refine thenQ_normal ?_
    refine WI.seq ?_
    refine WI.regB tabSc9_ok [5, 6, 7, 8, 9, 10, 11, 12] ?_
    refine oS ?_
    refine oC ?_
    refine oS ?_
    iterate 2 refine oG ?_
    iterate 2 refine oS ?_
    refine oN ?_
    refine thenQ_normal ?_
    refine WI.seq ?_
    refine WI.regB tabSc9_ok [4] ?_
    iterate 2 refine oS ?_
    refine oG ?_
    refine oS ?_
    iterate 4 refine oG ?_
    refine oS ?_
    iterate 2 refine oG ?_
    refine oC ?_
    refine oG ?_
    refine oS ?_
    iterate 4 refine oG ?_
    refine oS ?_
    refine oC ?_
    refine oG ?_
    refine oS ?_
    refine oN ?_
    refine thenQ_normal ?_
    refine WI.ret ?_
    first | refine lfR ?_ | refine lfR2 ?_
    first | rfl | exact ⟨rfl, rfl⟩ | trivial -- leaf 1
theorem scriptBack_c (l : List Act) (s : List UInt8) : PCalls Try.prog 4 [.x (.sl (rows rAct l)), .x (.str s)] (.x (.bool true)) := by
  have hl := putA_le l
  have hp : (putA l).2 = 0 → rdA (putA l).1 = (l, 0) := fun h => rdA_put l _ (Prod.ext rfl h)
  have hr := putA_rd s
  refine FCalls.pure (fcallsG (fz := true) G_ok (p := i4) rfl _ (Nat.le_of_ble_eq_true rfl) _ (fun C0 E0 => ?_)) rfl
  dsimp only [i4, argsφ]
  have uu := And.intro @putAG.eq_1 (And.intro @putAG.eq_2 (And.intro @rdAG.eq_1 (And.intro @rdAG.eq_2 (And.intro @same31G.eq_1 (And.intro @same31G.eq_2 (And.intro @few31G.eq_1 (And.intro @few31G.eq_2 (And.intro @awake31G.eq_1 (And.intro @awake31G.eq_2 (And.intro @un_act (And.intro @tabSc9_r (And.intro @tabSc9_k (And.intro @tabSc9_q10 (And.intro @tabSc9_q11 (And.intro @tabSc9_q12 (And.intro @tabSc9_q13 (And.intro @tabSc9_q14 (And.intro @tabSc9_q15 (And.intro @tabSc9_q9 (And.intro @tabSc9_t11 (And.intro @tabSc9_t12 (And.intro @tabSc9_t15 (And.intro @frzT.eq_1 (And.intro @putARG.eq_1 (And.intro @putARG.eq_2 (And.intro @rdARG.eq_1 (@rdARG.eq_2)))))))))))))))))))))))))))
  refine WI.seq ?_
  refine WI.regB tabSc9_ok [0, 1] ?_
  refine oS ?_
  refine oN ?_
  refine thenQ_normal ?_
  refine WI.seq ?_
  refine WI.seq ?_
  refine WI.regB tabSc9_ok [0, 1, 20] ?_
  refine oS ?_
  refine oC ?_
  refine oG ?_
  refine oS ?_
  iterate 4 refine oG ?_
  refine oN ?_
  refine thenQ_normal ?_
  refine WI.cond (b := _) rfl rfl (fun h0 => ?_) (fun h0 => ?_)
  · try simp only [zB] at h0
    refine WI.seq ?_
    refine WI.regB tabSc9_ok [4] ?_
    refine oC ?_
    refine oS ?_
    refine oN ?_
    refine thenQ_normal ?_
    refine WI.ret ?_
    refine thenQ_ret ?_
    first | refine lfR ?_ | refine lfR2 ?_
    first | rfl | exact ⟨rfl, rfl⟩ | trivial -- leaf 0
  · try simp only [zB] at h0
    refine WI.skip ?_
    refine thenQ_normal ?_
    refine WI.seq ?_
    refine WI.regB tabSc9_ok [0, 1, 5, 6] ?_
    refine oS ?_
    refine oC ?_
    refine oS ?_
    iterate 2 refine oG ?_
    iterate 2 refine oS ?_
    refine oN ?_
    refine thenQ_normal ?_
    refine WI.seq ?_
    refine WI.regB tabSc9_ok [0, 1, 6, 7, 8] ?_
    refine oS ?_
    refine oC ?_
    refine oS ?_
    iterate 2 refine oG ?_
    iterate 2 refine oS ?_
    refine oN ?_
    refine thenQ_normal ?_
    refine WI.seq ?_
    refine WI.regB tabSc9_ok [0, 1, 6, 7, 8, 9, 10] ?_
    refine oS ?_
    refine oC ?_
    refine oS ?_
    iterate 2 refine oG ?_
    iterate 2 refine oS ?_
    refine oN ?_
    refine thenQ_normal ?_
    refine WI.seq ?_
    refine WI.regB tabSc9_ok [0, 1, 6, 7, 8, 10, 11, 12] ?_
    refine oS ?_
    refine oC ?_
    refine oS ?_
    iterate 2 refine oG ?_
    iterate 2 refine oS ?_
    refine oN ?_
    refine thenQ_normal ?_
    refine WI.seq ?_
    generalize hA : putA l = A at hp hl ⊢
    generalize hM : rdA A.1 = M at hp ⊢
    generalize hN : rdA s = N at hr ⊢
    generalize hP : putA N.1 = P at hr ⊢
    refine WI.regB tabSc9_ok [4] ?_
    refine oS ?_
    refine oG (hok := by first | with_reducible rfl | omega | (clear uu hA hM hN hP; by_cases hi : A.2 = 0 <;> by_cases hg : N.2 = 0 <;> simp_all) | (simp; done) | (simp; omega) | rfl) ?_
    refine oS ?_
    iterate 5 refine oG (hok := by first | with_reducible rfl | omega | (clear uu hA hM hN hP; by_cases hi : A.2 = 0 <;> by_cases hg : N.2 = 0 <;> simp_all) | (simp; done) | (simp; omega) | rfl) ?_
    refine oC (hok := by first | with_reducible rfl | omega | (clear uu hA hM hN hP; by_cases hi : A.2 = 0 <;> by_cases hg : N.2 = 0 <;> simp_all) | (simp; done) | (simp; omega) | rfl) ?_
    iterate 2 refine oG (hok := by first | with_reducible rfl | omega | (clear uu hA hM hN hP; by_cases hi : A.2 = 0 <;> by_cases hg : N.2 = 0 <;> simp_all) | (simp; done) | (simp; omega) | rfl) ?_
    refine oS ?_
    iterate 12 refine oG (hok := by first | with_reducible rfl | omega | (clear uu hA hM hN hP; by_cases hi : A.2 = 0 <;> by_cases hg : N.2 = 0 <;> simp_all) | (simp; done) | (simp; omega) | rfl) ?_
    refine oS ?_
    refine oC (hok := by first | with_reducible rfl | omega | (clear uu hA hM hN hP; by_cases hi : A.2 = 0 <;> by_cases hg : N.2 = 0 <;> simp_all) | (simp; done) | (simp; omega) | rfl) ?_
    refine oG (hok := by first | with_reducible rfl | omega | (clear uu hA hM hN hP; by_cases hi : A.2 = 0 <;> by_cases hg : N.2 = 0 <;> simp_all) | (simp; done) | (simp; omega) | rfl) ?_
    refine oS ?_
    refine oN ?_
    refine thenQ_normal ?_
    refine WI.ret ?_
    first | refine lfR ?_ | refine lfR2 ?_
    clear uu hA hM hN hP
    by_cases hi : A.2 = 0 <;> by_cases hg : N.2 = 0 <;> simp_all -- leaf 1
end Go.Proofs.Ytcffpndhodhncaa
end
