/- Tree: the plain laws. -/
import Derived.Test.YtogmbfaijmhamaaTr4
set_option linter.unusedSimpArgs false
set_option linter.unusedVariables false
namespace Go.Proofs.Ytogmbfaijmhamaa
open Go.RowKit Go.Bo Go.Ab

theorem fst0_zero : ∀ l : List Int, fst0 l = 0 ↔ ∀ a ∈ l, a = 0
  | [] => by simp [fst0]
  | a :: r => by
    rw [fst0]
    split
    · rename_i h; subst h; simp [fst0_zero r]
    · rename_i h; simp [h]
theorem chk_mono : ∀ (m : Nat) (x : Tlv), chk m x = 0 → chk (m + 1) x = 0
  | 0, x, h => by simp [chk] at h
  | m + 1, x, h => by
    rw [chk] at h ⊢
    split at h
    · rename_i h1; rw [if_pos h1]
    · rename_i h1
      rw [if_neg h1]
      split at h
      · rename_i h2
        rw [if_pos h2]
        rw [fst0_zero] at h ⊢
        intro a ha
        obtain ⟨y, hy, rfl⟩ := List.mem_map.1 ha
        exact chk_mono m y (h _ (List.mem_map.2 ⟨y, hy, rfl⟩))
      · rename_i h2; exact absurd h h2
theorem chk_le {m k : Nat} (h : m ≤ k) (x : Tlv) (h0 : chk m x = 0) : chk k x = 0 := by
  induction h with
  | refl => exact h0
  | step _ ih => exact chk_mono _ x ih
theorem depF_spec (s : List UInt8) : ∀ (k m : Nat), (depF s k m = 0 ∧ ∀ j : Nat, m ≤ j → j < m + k → chkS j s ≠ 0) ∨ (m ≤ depF s k m ∧ depF s k m < m + k ∧ chkS (depF s k m : Nat) s = 0 ∧ ∀ j : Nat, m ≤ j → j < depF s k m → chkS j s ≠ 0)
  | 0, m => .inl ⟨rfl, fun j h1 h2 => by omega⟩
  | k + 1, m => by
    rw [depF]
    split
    · rename_i h; exact .inr ⟨Nat.le_refl _, by omega, h, fun j h1 h2 => by omega⟩
    · rename_i h
      rcases depF_spec s k (m + 1) with ⟨h1, h2⟩ | ⟨h1, h2, h3, h4⟩
      · refine .inl ⟨h1, fun j hj hj2 => ?_⟩
        by_cases e : j = m
        · subst e; exact h
        · exact h2 j (by omega) (by omega)
      · refine .inr ⟨by omega, by omega, h3, fun j hj hj2 => ?_⟩
        by_cases e : j = m
        · subst e; exact h
        · exact h4 j (by omega) hj2
theorem depB_spec (s : List UInt8) (h : depB s ≠ 0) : 1 ≤ depB s ∧ depB s ≤ 64 ∧ chkS (depB s : Nat) s = 0 ∧ ∀ j : Nat, 1 ≤ j → j < depB s → chkS j s ≠ 0 := by
  rcases depF_spec s 64 1 with ⟨h1, h2⟩ | ⟨h1, h2, h3, h4⟩
  · exact absurd h1 h
  · exact ⟨h1, by unfold depB; omega, h3, h4⟩
theorem depB_is (s : List UInt8) (d : Nat) (h1 : 1 ≤ d) (h2 : d ≤ 64) (h3 : chkS (d : Nat) s = 0) (h4 : ∀ j : Nat, 1 ≤ j → j < d → chkS j s ≠ 0) : depB s = d := by
  rcases depF_spec s 64 1 with ⟨k1, k2⟩ | ⟨k1, k2, k3, k4⟩
  · exact absurd h3 (k2 d h1 (by omega))
  · rcases Nat.lt_trichotomy (depB s) d with h | h | h
    · exact absurd k3 (h4 _ k1 h)
    · exact h
    · exact absurd h3 (k4 d h1 h)
theorem chkS_whole {s : List UInt8} {x : Tlv} (hw : wholeB s = (x, 0)) {j : Nat} (h1 : 1 ≤ j) (h2 : j ≤ 64) : chkS j s = chk j x := by
  unfold chkS
  rw [if_neg (by omega), hw]
  simp only [if_true]
  rw [show (min (j : Int) 64).toNat = j by omega]
/-- What a whole text tells. -/
def rd (s : List UInt8) : Tlv := (readB s).1
theorem dep_whole (s : List UInt8) (h : depB s ≠ 0) : (readB s).2.2 = 0 ∧ (readB s).2.1 = s.length ∧ wholeB s = (rd s, 0) := by
  obtain ⟨h1, h2, h3, h4⟩ := depB_spec s h
  refine wholeB_ok s ?_
  unfold chkS at h3
  rw [if_neg (by omega)] at h3
  split at h3
  · assumption
  · rename_i h5; exact absurd h3 h5
theorem chk_dep (s : List UInt8) (h : depB s ≠ 0) (k : Nat) (hk : k ≤ 64) : chk k (rd s) = 0 ↔ depB s ≤ k := by
  obtain ⟨h1, h2, h3, h4⟩ := depB_spec s h
  have hw := (dep_whole s h).2.2
  constructor
  · intro h0
    rcases Nat.eq_zero_or_pos k with rfl | hp
    · simp [chk] at h0
    · refine Nat.not_lt.1 fun hlt => h4 k hp hlt ?_
      rw [chkS_whole hw hp hk]; exact h0
  · intro hle
    refine chk_le hle _ ?_
    rw [← chkS_whole hw h1 h2]; exact h3
theorem allF_flat : ∀ (l : List (List UInt8)) (k : Nat) (out : List Tlv), (∀ s ∈ l, (readB s).2.2 = 0 ∧ (readB s).2.1 = s.length) → l.flatten.length ≤ k → out.length + l.length ≤ 1024 → allF k l.flatten out = (out ++ l.map rd, 0)
  | [], k, out, _, _, _ => by rw [List.flatten_nil, allF_nil]; simp
  | s :: r, k, out, h, hk, hl => by
    obtain ⟨h1, h2⟩ := h s List.mem_cons_self
    have h3 := readB_ok s h1
    have ha := readB_app s r.flatten h1
    rw [List.flatten_cons] at hk ⊢
    rw [List.length_append] at hk
    simp only [List.length_cons] at hl
    rw [allF_step k (s ++ r.flatten) out (by intro e; rw [List.append_eq_nil_iff] at e; rw [e.1] at h3; simp at h3; omega) (by rw [List.length_append]; exact hk) (by rw [ha]; exact h1) (by omega), ha, h2, List.drop_left]
    rw [allF_flat r (k - 1) (out ++ [(readB s).1]) (fun x hx => h x (List.mem_cons_of_mem _ hx)) (by omega) (by rw [List.length_append, List.length_singleton]; omega)]
    simp [rd]
def dmx (l : List (List UInt8)) : Nat := l.foldl (fun a s => max a (depB s)) 0
theorem dmx_snoc (l : List (List UInt8)) (s : List UInt8) : dmx (l ++ [s]) = max (dmx l) (depB s) := by simp [dmx]
theorem dmx_le (l : List (List UInt8)) (k : Nat) : dmx l ≤ k ↔ ∀ s ∈ l, depB s ≤ k := by
  have : ∀ (l : List (List UInt8)) (a : Nat), l.foldl (fun a s => max a (depB s)) a ≤ k ↔ a ≤ k ∧ ∀ s ∈ l, depB s ≤ k := by
    intro l
    induction l with
    | nil => simp
    | cons s r ih =>
      intro a
      rw [List.foldl_cons, ih, List.forall_mem_cons]
      constructor
      · rintro ⟨h1, h2⟩; exact ⟨by omega, by omega, h2⟩
      · rintro ⟨h1, h2, h3⟩; exact ⟨by omega, h3⟩
  rw [dmx, this]
  simp
theorem nests (l : List (List UInt8)) (hl : l.length ≤ 8) (hf : l.flatten.length ≤ 1600) (h : ∀ s ∈ l, depB s ≠ 0) : (seqB l).2 = 0 ∧ (dmx l < 64 → depB (seqB l).1 = dmx l + 1) := by
  have h0 : (putB 48 l.flatten).2 = 0 := by rw [put_code _ _ (by omega)]; rfl
  refine ⟨h0, fun hd => ?_⟩
  have hr := read_put 48 l.flatten [] h0
  rw [List.append_nil] at hr
  have hw : wholeB (seqB l).1 = ((48, l.flatten, ()), 0) := by
    unfold wholeB seqB
    rw [hr, if_neg (by simp)]
  have ha : allB l.flatten = (l.map rd, 0) := by
    unfold allB
    rw [allF_flat l _ [] (fun s hs => ⟨(dep_whole s (h s hs)).1, (dep_whole s (h s hs)).2.1⟩) (Nat.le_refl _) (by simp; omega)]
    rfl
  have key : ∀ k : Nat, k + 1 ≤ 64 → (chkS ((k + 1 : Nat) : Int) (seqB l).1 = 0 ↔ dmx l ≤ k) := by
    intro k hk
    rw [chkS_whole hw (by omega) hk, chk, if_neg (by show ¬ ((48 : Int) / 32 % 2 = 0); decide)]
    simp only [ha, if_true]
    rw [fst0_zero, dmx_le]
    constructor
    · intro h1 s hs
      exact (chk_dep s (h s hs) k (by omega)).1 (h1 _ (List.mem_map.2 ⟨rd s, List.mem_map.2 ⟨s, hs, rfl⟩, rfl⟩))
    · intro h1 a ha
      obtain ⟨y, hy, rfl⟩ := List.mem_map.1 ha
      obtain ⟨s, hs, rfl⟩ := List.mem_map.1 hy
      exact (chk_dep s (h s hs) k (by omega)).2 (h1 s hs)
  refine depB_is _ _ (by omega) (by omega) ((key _ (by omega)).2 (Nat.le_refl _)) (fun j h1 h2 h3 => ?_)
  obtain ⟨k, rfl⟩ : ∃ k, j = k + 1 := ⟨j - 1, by omega⟩
  have := (key k (by omega)).1 h3
  omega
end Go.Proofs.Ytogmbfaijmhamaa
