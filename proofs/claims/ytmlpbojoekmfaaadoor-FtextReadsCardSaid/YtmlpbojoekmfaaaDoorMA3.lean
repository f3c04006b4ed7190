/- MA3: FxI, FxK, FxJ. -/
import Derived.Test.YtmlpbojoekmfaaaDoorMA2
import Derived.Test.YtmlpbojoekmfaaaDoorMA1
import Derived.Test.YtmlpbojoekmfaaaDoorLA5
section
/- Ftext: what is put is read; both readers agree. -/
set_option linter.unusedSimpArgs false
set_option linter.unusedVariables false
namespace Go.Proofs.YtmlpbojoekmfaaaDoor
open Go.RowKit Go.Bo Go.Ab

/-! ### types -/
def okC (c : UInt8) : Bool := letN c.toNat || digN c.toNat
theorem typ_all (a : Txt) (h : typB a = true) : a ≠ [] ∧ ∀ c ∈ a, okC c = true := by
  rw [typB_eq, Bool.and_eq_true, decide_eq_true_eq] at h
  refine ⟨by rintro rfl; simp at h, fun c hc => ?_⟩
  obtain ⟨i, hi, rfl⟩ := List.mem_iff_getElem.1 hc
  have := tyU_get a a.length i h.2 hi
  rw [show a.getD i 0 = a[i] by simp [hi]] at this
  unfold tyC at this; unfold okC
  simp only [Bool.or_eq_true, Bool.and_eq_true] at this ⊢
  rcases this with h | h
  · exact .inl h
  · exact .inr h.2
theorem okC_by (c : UInt8) : (!okC c || (decide (c ≠ 40) && decide (c ≠ 41) && decide (c ≠ 42) && decide (c ≠ 60) && decide (c ≠ 61) && decide (c ≠ 62) && decide (c ≠ 126) && decide (c ≠ 38) && decide (c ≠ 124) && decide (c ≠ 33))) = true :=
  forB (fun c => !okC c || (decide (c ≠ 40) && decide (c ≠ 41) && decide (c ≠ 42) && decide (c ≠ 60) && decide (c ≠ 61) && decide (c ≠ 62) && decide (c ≠ 126) && decide (c ≠ 38) && decide (c ≠ 124) && decide (c ≠ 33))) (by decide +kernel) c
theorem okC_ne {c : UInt8} (h : okC c = true) : c ≠ 40 ∧ c ≠ 41 ∧ c ≠ 42 ∧ c ≠ 60 ∧ c ≠ 61 ∧ c ≠ 62 ∧ c ≠ 126 ∧ c ≠ 38 ∧ c ≠ 124 ∧ c ≠ 33 := by
  have := okC_by c
  simp only [h, Bool.not_true, Bool.false_or, Bool.and_eq_true, decide_eq_true_eq] at this
  obtain ⟨⟨⟨⟨⟨⟨⟨⟨⟨a, b⟩, c⟩, d⟩, e⟩, f⟩, g⟩, i⟩, j⟩, k⟩ := this
  exact ⟨a, b, c, d, e, f, g, i, j, k⟩
/-- What a kind by itself asks for. -/
structure Leaf (k : Int) (a v h : Txt) (m : List Txt) (t : Txt) : Prop where
  ne : a ≠ []
  ok : ∀ c ∈ a, okC c = true
  kd : (k = 3 ∨ k = 5 ∨ k = 6 ∨ k = 8) ∧ h = [] ∧ m = [] ∧ t = [] ∨ k = 7 ∧ v = [] ∧ h = [] ∧ m = [] ∧ t = [] ∨ k = 4 ∧ v = [] ∧ partsB h m t = true
theorem none_eq {h : Txt} {m : List Txt} {t : Txt} (e : noneB h m t = true) : h = [] ∧ m = [] ∧ t = [] := by
  unfold noneB at e
  simp only [Bool.and_eq_true, decide_eq_true_eq] at e
  exact ⟨e.1.1, List.length_eq_zero_iff.1 e.2, e.1.2⟩
theorem one_ok (k : Int) (a v h : Txt) (m : List Txt) (t : Txt) (l : List Flt) (e : oneF k a v h m t l.length = 0) :
    ((k = 0 ∨ k = 1 ∨ k = 2) ∧ a = [] ∧ v = [] ∧ h = [] ∧ m = [] ∧ t = []) ∨ (l = [] ∧ Leaf k a v h m t) := by
  unfold oneF at e
  split at e
  · cases e
  rename_i h1
  split at e
  · cases e
  split at e
  · cases e
  rename_i h3
  split at e
  · cases e
  rename_i h4
  have h3' : fitsB k a v h m t l.length = true := by simpa using h3
  unfold fitsB at h3'
  split at h3'
  · rename_i h5
    simp only [Bool.and_eq_true, decide_eq_true_eq] at h3'
    obtain ⟨n1, n2, n3⟩ := none_eq h3'.1.2
    exact .inl ⟨h5, h3'.1.1.1, h3'.1.1.2, n1, n2, n3⟩
  · rename_i h5
    have ht : typB a = true := by
      cases hh : typB a with
      | true => rfl
      | false => exact absurd ⟨by omega, hh⟩ h4
    obtain ⟨t1, t2⟩ := typ_all a ht
    split at h3'
    · rename_i h6
      simp only [Bool.and_eq_true, decide_eq_true_eq] at h3'
      exact .inr ⟨List.length_eq_zero_iff.1 h3'.1.1, t1, t2, .inr (.inr ⟨h6, h3'.1.2, h3'.2⟩)⟩
    · split at h3'
      · rename_i h7
        simp only [Bool.and_eq_true, decide_eq_true_eq] at h3'
        obtain ⟨n1, n2, n3⟩ := none_eq h3'.2
        exact .inr ⟨List.length_eq_zero_iff.1 h3'.1.1, t1, t2, .inr (.inl ⟨h7, h3'.1.2, n1, n2, n3⟩)⟩
      · simp only [Bool.and_eq_true, decide_eq_true_eq] at h3'
        obtain ⟨n1, n2, n3⟩ := none_eq h3'.2
        exact .inr ⟨List.length_eq_zero_iff.1 h3'.1, t1, t2, .inl ⟨by omega, n1, n2, n3⟩⟩
/-! ### what stands in the brackets -/
theorem not_in {a : Txt} {c : UInt8} (ho : ∀ x ∈ a, okC x = true) (hc : okC c = false) : ∀ x ∈ a, x ≠ c := fun x hx e => by
  have := ho x hx; rw [e, hc] at this; cases this
theorem midX_by (m : List Txt) : ∀ x ∈ midX m, x ≠ 40 ∧ x ≠ 41 := by
  intro x hx
  obtain ⟨s, _, h2⟩ := List.mem_flatMap.1 hx
  rcases List.mem_append.1 h2 with h | h
  · exact ⟨(escS_by s x h).1, (escS_by s x h).2.1⟩
  · rw [List.mem_singleton] at h; subst h; exact ⟨by decide, by decide⟩
theorem hd_by {k : Int} {a v h : Txt} {m : List Txt} {t : Txt} (L : Leaf k a v h m t) : ∀ x ∈ hdX k a v h m t, x ≠ 40 ∧ x ≠ 41 := by
  have ha : ∀ x ∈ a, x ≠ 40 ∧ x ≠ 41 := fun x hx => ⟨(okC_ne (L.ok x hx)).1, (okC_ne (L.ok x hx)).2.1⟩
  have he : ∀ s, ∀ x ∈ escS s, x ≠ 40 ∧ x ≠ 41 := fun s x hx => ⟨(escS_by s x hx).1, (escS_by s x hx).2.1⟩
  have hq : ∀ c : UInt8, (c ≠ 40 ∧ c ≠ 41) → ∀ x ∈ [c], x ≠ 40 ∧ x ≠ 41 := fun c hc x hx => by rw [List.mem_singleton] at hx; subst hx; exact hc
  have ap : ∀ p q : Txt, (∀ x ∈ p, x ≠ 40 ∧ x ≠ 41) → (∀ x ∈ q, x ≠ 40 ∧ x ≠ 41) → ∀ x ∈ p ++ q, x ≠ 40 ∧ x ≠ 41 := fun p q h1 h2 x hx => (List.mem_append.1 hx).elim (h1 x) (h2 x)
  have h2 : ∀ c d : UInt8, (c ≠ 40 ∧ c ≠ 41) → (d ≠ 40 ∧ d ≠ 41) → ∀ x ∈ [c, d], x ≠ 40 ∧ x ≠ 41 := fun c d hc hd => ap [c] [d] (hq c hc) (hq d hd)
  rcases L.kd with ⟨hk, -, -, -⟩ | ⟨rfl, -, -, -, -⟩ | ⟨rfl, -, -⟩
  · rcases hk with rfl | rfl | rfl | rfl
    · exact ap _ _ (ap _ _ ha (hq 61 (by decide))) (he v)
    · exact ap _ _ (ap _ _ ha (h2 62 61 (by decide) (by decide))) (he v)
    · exact ap _ _ (ap _ _ ha (h2 60 61 (by decide) (by decide))) (he v)
    · exact ap _ _ (ap _ _ ha (h2 126 61 (by decide) (by decide))) (he v)
  · exact ap _ _ ha (h2 61 42 (by decide) (by decide))
  · exact ap _ _ (ap _ _ (ap _ _ (ap _ _ (ap _ _ ha (hq 61 (by decide))) (he h)) (hq 42 (by decide))) (midX_by m)) (he t)
theorem hd_first {k : Int} {a v h : Txt} {m : List Txt} {t : Txt} (L : Leaf k a v h m t) : ∃ c r, hdX k a v h m t = c :: r ∧ okC c = true := by
  rcases ha : a with _ | ⟨c, a'⟩
  · exact absurd ha L.ne
  · have hc := L.ok c (by rw [ha]; simp)
    rcases L.kd with ⟨hk, -, -, -⟩ | ⟨rfl, -, -, -, -⟩ | ⟨rfl, -, -⟩
    · rcases hk with rfl | rfl | rfl | rfl <;> exact ⟨c, _, rfl, hc⟩
    · exact ⟨c, _, rfl, hc⟩
    · exact ⟨c, _, rfl, hc⟩
theorem kind_none (a : Txt) (hn : a ≠ []) (ho : ∀ c ∈ a, okC c = true) : kindF a = (3, a) := by
  obtain ⟨b, c, rfl⟩ : ∃ b c, a = b ++ [c] := ⟨a.dropLast, a.getLast hn, (List.dropLast_concat_getLast hn).symm⟩
  have hc := okC_ne (ho c (by simp))
  unfold kindF
  rw [suf_one, suf_one, suf_one, decide_eq_false hc.2.2.2.2.2.2.1, decide_eq_false hc.2.2.2.1, decide_eq_false hc.2.2.2.2.2.1]
  rfl
theorem trim_one (a : Txt) (c : UInt8) : Lib.trimSuffix (a ++ [c]) [c] = a := by
  unfold Lib.trimSuffix; rw [suf_one]; simp
theorem kind_sign (a : Txt) (k : Int) (c : UInt8) (h : (k, c) = (5, 62) ∨ (k, c) = (6, 60) ∨ (k, c) = (8, 126)) : kindF (a ++ [c]) = (k, a) := by
  unfold kindF
  rw [suf_one, suf_one, suf_one]
  rcases h with h | h | h <;> cases h <;> simp [trim_one]
theorem esc_star (v : Txt) : escS v ≠ [42] := fun e => (escS_by v 42 (by rw [e]; simp)).2.2 rfl
theorem spl_esc (v : Txt) : spl 42 (escS v) = [escS v] := spl_none 42 _ fun x hx => (escS_by v x hx).2.2
theorem midX_map (m : List Txt) : midX m = (m.map escS).flatMap fun x => x ++ [42] := by unfold midX; rw [List.flatMap_map]
theorem parts_jn (h : Txt) (m : List Txt) (t : Txt) : escS h ++ [42] ++ midX m ++ escS t = jn (escS h :: (m.map escS ++ [escS t])) := by rw [jn_three, midX_map]
theorem parts_spl (h : Txt) (m : List Txt) (t : Txt) : spl 42 (escS h ++ [42] ++ midX m ++ escS t) = escS h :: (m.map escS ++ [escS t]) := by
  rw [parts_jn]
  refine spl_jn _ (by simp) fun x hx c hc => ?_
  rcases List.mem_cons.1 hx with rfl | hx
  · exact (escS_by _ c hc).2.2
  · rcases List.mem_append.1 hx with hx | hx
    · obtain ⟨s, _, rfl⟩ := List.mem_map.1 hx; exact (escS_by _ c hc).2.2
    · rw [List.mem_singleton] at hx; subst hx; exact (escS_by _ c hc).2.2
theorem esc_ne {v : Txt} (h : v ≠ []) : escS v ≠ [] := fun e => h (by have := unR_put v; rw [e] at this; exact this.symm)
theorem parts_star (h : Txt) (m : List Txt) (t : Txt) (hp : partsB h m t = true) : escS h ++ [42] ++ midX m ++ escS t ≠ [42] := by
  intro e
  have h1 := parts_spl h m t
  rw [e] at h1
  have h2 : spl 42 [42] = [[], []] := rfl
  rw [h2] at h1
  have h3 : m = [] := by
    rcases m with _ | ⟨x, m⟩
    · rfl
    · have := congrArg List.length h1; simp at this
  subst h3
  simp at h1
  unfold partsB at hp
  have e1 : h = [] := by
    rcases h with _ | ⟨x, h⟩
    · rfl
    · exact absurd h1.1 (esc_ne (by simp))
  have e2 : t = [] := by
    rcases t with _ | ⟨x, t⟩
    · rfl
    · exact absurd h1.2 (esc_ne (by simp))
  rw [e1, e2] at hp
  simp at hp
theorem subF_back (h : Txt) (m : List Txt) (t : Txt) : subF (escS h :: (m.map escS ++ [escS t])) = ((h, m, t), true) := by
  have hv : ∀ v, (valF (escS v)) = (v, true) := valF_put
  have hall : (escS h :: (m.map escS ++ [escS t])).all (fun s => (valF s).2) = true := by
    rw [List.all_eq_true]; intro x hx
    rcases List.mem_cons.1 hx with rfl | hx
    · rw [hv]
    · rcases List.mem_append.1 hx with hx | hx
      · obtain ⟨s, _, rfl⟩ := List.mem_map.1 hx; rw [hv]
      · rw [List.mem_singleton] at hx; subst hx; rw [hv]
  have hm : (escS h :: (m.map escS ++ [escS t])).map (fun s => (valF s).1) = h :: (m ++ [t]) := by
    simp only [List.map_cons, List.map_append, List.map_map, List.map_nil, hv]
    congr 2
    rw [show ((fun s => (valF s).1) ∘ escS) = id from funext fun s => by simp [hv]]; simp
  have hl : (escS h :: (m.map escS ++ [escS t])).length = (h :: (m ++ [t])).length := by simp
  have g := mid_get h m t
  unfold subF
  rw [if_pos hall, hm, hl, g.1, g.2.1, g.2.2]
theorem leaf_back {k : Int} {a v h : Txt} {m : List Txt} {t : Txt} (L : Leaf k a v h m t) : leafF (hdX k a v h m t) = (.mk k a v h m t [], true) := by
  have h61 : ∀ x ∈ a, x ≠ 61 := not_in L.ok (by decide)
  have hsg : ∀ c : UInt8, c ≠ 61 → ∀ x ∈ a ++ [c], x ≠ 61 := fun c hc x hx => (List.mem_append.1 hx).elim (h61 x) (fun h => by rw [List.mem_singleton] at h; subst h; exact hc)
  rcases L.kd with ⟨hk, rfl, rfl, rfl⟩ | ⟨rfl, rfl, rfl, rfl, rfl⟩ | ⟨rfl, rfl, hp⟩
  · rcases hk with rfl | rfl | rfl | rfl
    · have e : hdX 3 a v [] [] [] = a ++ 61 :: escS v := by simp [hdX]
      rw [e, leafF, cutB_put 61 _ a h61]
      simp only [if_true, kind_none a L.ne L.ok]
      unfold restF
      rw [if_neg (fun hh => esc_star v hh.2), spl_esc, if_neg (by simp), valF_put]
    · have e : hdX 5 a v [] [] [] = (a ++ [62]) ++ 61 :: escS v := by simp [hdX]
      rw [e, leafF, cutB_put 61 _ _ (hsg 62 (by decide))]
      simp only [if_true, kind_sign a 5 62 (.inl rfl)]
      unfold restF
      rw [if_neg (by simp), if_neg (by simp), valF_put]
    · have e : hdX 6 a v [] [] [] = (a ++ [60]) ++ 61 :: escS v := by simp [hdX]
      rw [e, leafF, cutB_put 61 _ _ (hsg 60 (by decide))]
      simp only [if_true, kind_sign a 6 60 (.inr (.inl rfl))]
      unfold restF
      rw [if_neg (by simp), if_neg (by simp), valF_put]
    · have e : hdX 8 a v [] [] [] = (a ++ [126]) ++ 61 :: escS v := by simp [hdX]
      rw [e, leafF, cutB_put 61 _ _ (hsg 126 (by decide))]
      simp only [if_true, kind_sign a 8 126 (.inr (.inr rfl))]
      unfold restF
      rw [if_neg (by simp), if_neg (by simp), valF_put]
  · have e : hdX 7 a [] [] [] [] = a ++ 61 :: [42] := by simp [hdX]
    rw [e, leafF, cutB_put 61 _ a h61]
    simp only [if_true, kind_none a L.ne L.ok]
    unfold restF
    rw [if_pos ⟨rfl, rfl⟩]
  · have e : hdX 4 a [] h m t = a ++ 61 :: (escS h ++ [42] ++ midX m ++ escS t) := by simp [hdX]
    rw [e, leafF, cutB_put 61 _ a h61]
    simp only [if_true, kind_none a L.ne L.ok]
    unfold restF
    rw [if_neg (fun hh => parts_star h m t hp hh.2), parts_spl, if_pos ⟨rfl, by simp⟩, subF_back]
/-! ### the document's -/
theorem eqAt_put (t : Txt) : ∀ a : Txt, (∀ x ∈ a, x ≠ 61) → eqAt (a ++ 61 :: t) = a.length
  | [], _ => by simp [eqAt]
  | b :: l, h => by
    rw [List.cons_append, eqAt, if_neg (h b (by simp)), eqAt_put t l (fun x hx => h x (by simp [hx]))]; rfl
theorem star_esc (v : Txt) : starR (escS v) = [v] := by unfold starR; rw [spl_esc]; simp [unR_put]
theorem star_parts (h : Txt) (m : List Txt) (t : Txt) : starR (escS h ++ [42] ++ midX m ++ escS t) = h :: (m ++ [t]) := by
  unfold starR; rw [parts_spl]
  simp only [List.map_cons, List.map_append, List.map_map, List.map_nil, unR_put]
  congr 2
  rw [show (unR ∘ escS) = id from funext fun s => unR_put s]; simp
theorem last_of (a : Txt) (c : UInt8) : (a ++ [c]).getD ((a ++ [c]).length - 1) 0 = c ∧ (a ++ [c]).take ((a ++ [c]).length - 1) = a := by simp
theorem leafR_cut (nm rest : Txt) (hn : nm ≠ []) (h61 : ∀ x ∈ nm, x ≠ 61) : leafR (nm ++ 61 :: rest) = restR nm rest := by
  have hl : nm.length ≠ 0 := fun e => hn (List.length_eq_zero_iff.1 e)
  unfold leafR
  rw [eqAt_put rest nm h61, if_neg (by simp; omega)]
  simp
theorem restR_plain (a rest : Txt) (hn : a ≠ []) (ho : ∀ c ∈ a, okC c = true) : restR a rest = if rest = [42] then .mk 7 a [] [] [] [] []
    else if (starR rest).length = 1 then .mk 3 a ((starR rest).getD 0 []) [] [] [] []
    else .mk 4 a [] ((starR rest).getD 0 []) (((starR rest).take ((starR rest).length - 1)).drop 1) ((starR rest).getD ((starR rest).length - 1) []) [] := by
  obtain ⟨b, c, rfl⟩ : ∃ b c, a = b ++ [c] := ⟨a.dropLast, a.getLast hn, (List.dropLast_concat_getLast hn).symm⟩
  have hc := okC_ne (ho c (by simp))
  unfold restR
  simp only
  rw [(last_of b c).1, if_neg hc.2.2.2.2.2.1, if_neg hc.2.2.2.1, if_neg hc.2.2.2.2.2.2.1]
theorem leafR_back {k : Int} {a v h : Txt} {m : List Txt} {t : Txt} (L : Leaf k a v h m t) : leafR (hdX k a v h m t) = .mk k a v h m t [] := by
  have h61 : ∀ x ∈ a, x ≠ 61 := not_in L.ok (by decide)
  have hsg : ∀ c : UInt8, c ≠ 61 → ∀ x ∈ a ++ [c], x ≠ 61 := fun c hc x hx => (List.mem_append.1 hx).elim (h61 x) (fun h => by rw [List.mem_singleton] at h; subst h; exact hc)
  rcases L.kd with ⟨hk, rfl, rfl, rfl⟩ | ⟨rfl, rfl, rfl, rfl, rfl⟩ | ⟨rfl, rfl, hp⟩
  · rcases hk with rfl | rfl | rfl | rfl
    · have e : hdX 3 a v [] [] [] = a ++ 61 :: escS v := by simp [hdX]
      rw [e, leafR_cut a _ L.ne h61, restR_plain a _ L.ne L.ok, if_neg (esc_star v), star_esc, if_pos (by simp)]; rfl
    · have e : hdX 5 a v [] [] [] = (a ++ [62]) ++ 61 :: escS v := by simp [hdX]
      rw [e, leafR_cut _ _ (by simp) (hsg 62 (by decide))]
      unfold restR; simp only; rw [(last_of a 62).1, (last_of a 62).2, if_pos rfl, unR_put]
    · have e : hdX 6 a v [] [] [] = (a ++ [60]) ++ 61 :: escS v := by simp [hdX]
      rw [e, leafR_cut _ _ (by simp) (hsg 60 (by decide))]
      unfold restR; simp only; rw [(last_of a 60).1, (last_of a 60).2, if_neg (by decide), if_pos rfl, unR_put]
    · have e : hdX 8 a v [] [] [] = (a ++ [126]) ++ 61 :: escS v := by simp [hdX]
      rw [e, leafR_cut _ _ (by simp) (hsg 126 (by decide))]
      unfold restR; simp only; rw [(last_of a 126).1, (last_of a 126).2, if_neg (by decide), if_neg (by decide), if_pos rfl, unR_put]
  · have e : hdX 7 a [] [] [] [] = a ++ 61 :: [42] := by simp [hdX]
    rw [e, leafR_cut a _ L.ne h61, restR_plain a _ L.ne L.ok, if_pos rfl]
  · have e : hdX 4 a [] h m t = a ++ 61 :: (escS h ++ [42] ++ midX m ++ escS t) := by simp [hdX]
    have g := mid_get h m t
    rw [e, leafR_cut a _ L.ne h61, restR_plain a _ L.ne L.ok, if_neg (parts_star h m t hp), star_parts, if_neg (by simp), g.1, g.2.1, g.2.2]
theorem brAt_put (t : Txt) : ∀ a : Txt, (∀ x ∈ a, x ≠ 40 ∧ x ≠ 41) → brAt (a ++ 41 :: t) = a.length
  | [], _ => by simp [brAt]
  | b :: l, h => by
    have hb := h b (by simp)
    rw [List.cons_append, brAt, if_neg (fun e => e.elim hb.2 hb.1), brAt_put t l (fun x hx => h x (by simp [hx]))]; rfl
/-! ### whole filters -/
theorem putX_40 (f : Flt) : ∃ r, putX f = 40 :: r := by
  obtain ⟨k, a, v, h, m, t, l⟩ := f
  rw [putX]; exact ⟨_, rfl⟩
theorem putXL_ge : ∀ l : List Flt, l.length ≤ (putXL l).length
  | [] => by simp
  | f :: l => by
    obtain ⟨r, e⟩ := putX_40 f
    have := putXL_ge l
    rw [putXL, e]; simp; omega
theorem loop_back (r : Txt → Flt × Txt × Bool) : ∀ (l l0 : List Flt) (t : Txt) (n : Nat), l.length < n → (∀ f ∈ l, ∀ t, r (putX f ++ t) = (f, t, true)) → loopF r n l0 (putXL l ++ 41 :: t) = (l0 ++ l, t, true)
  | [], l0, t, n + 1, _, _ => by rw [putXL, List.nil_append, loop_end r n l0 t 41 rfl, List.append_nil]
  | f :: l, l0, t, n + 1, hn, h => by
    obtain ⟨q, e⟩ := putX_40 f
    have h1 := h f (by simp) (putXL l ++ 41 :: t)
    have h2 := loop_back r l (l0 ++ [f]) t n (by simpa using hn) (fun g hg => h g (by simp [hg]))
    rw [putXL, List.append_assoc]
    rw [e, List.cons_append] at h1 ⊢
    rw [loop_go r n l0 40 _ rfl (by rw [h1]), h1, h2]; simp
  | _, _, _, 0, h, _ => by omega
theorem allFL_get : ∀ (l : List Flt), allFL l = 0 → ∀ f ∈ l, allF f = 0
  | [], _, f, h => by simp at h
  | x :: l, e, f, h => by
    rw [allFL] at e
    split at e
    · rename_i h0
      rcases List.mem_cons.1 h with rfl | h
      · exact h0
      · exact allFL_get l e f h
    · rename_i h0; exact absurd e h0
theorem depFL_get : ∀ (l : List Flt) (m : Nat), ∀ f ∈ l, depF f m ≤ depFL l m
  | x :: l, m, f, h => by
    rw [depFL]
    rcases List.mem_cons.1 h with rfl | h
    · omega
    · have := depFL_get l m f h; omega
theorem list_text (k : Int) (l : List Flt) (c : UInt8) (t : Txt) (hk : hdX k [] [] [] [] [] = [c]) : putX (.mk k [] [] [] [] [] l) ++ t = 40 :: c :: (putXL l ++ 41 :: t) := by
  rw [putX_kind k l c hk]; simp
theorem leaf_text (k : Int) (a v h : Txt) (m : List Txt) (t : Txt) (u : Txt) : putX (.mk k a v h m t []) ++ u = 40 :: (hdX k a v h m t ++ 41 :: u) := by
  rw [putX_mk]; simp
theorem readF_back : ∀ (d M : Nat) (f : Flt), d ≤ M → depF f M ≤ d → allF f = 0 → ∀ t, readF d (putX f ++ t) = (f, t, true)
  | 0, M, f, _, h, _, t => by have := (depF_b f M).1; omega
  | d + 1, 0, f, h, _, _, t => by omega
  | d + 1, M + 1, .mk k a v h m tl l, hM, hd, ha, t => by
    rw [depF] at hd
    rw [allF] at ha
    have h1 : oneF k a v h m tl l.length = 0 := by
      split at ha
      · assumption
      · exact ha
    rw [if_pos h1] at ha
    have ih : ∀ f ∈ l, ∀ t, readF d (putX f ++ t) = (f, t, true) := fun f hf => readF_back d M f (by omega) (by have := depFL_get l M f hf; omega) (allFL_get l ha f hf)
    have hlb : loopF (readF d) ((putXL l ++ 41 :: t).length + 1) [] (putXL l ++ 41 :: t) = (l, t, true) := by
      rw [loop_back (readF d) l [] t _ (by have := putXL_ge l; simp; omega) ih]; rfl
    rcases one_ok k a v h m tl l h1 with ⟨hk, rfl, rfl, rfl, rfl, rfl⟩ | ⟨rfl, L⟩
    · rcases hk with rfl | rfl | rfl
      · rw [list_text 0 l 38 t rfl]
        unfold readF
        rw [if_neg (by simp)]
        simp only [List.getD_cons_zero, List.getD_cons_succ, List.drop_succ_cons, List.drop_zero, if_true, hlb]
      · rw [list_text 1 l 124 t rfl]
        unfold readF
        rw [if_neg (by simp)]
        simp only [List.getD_cons_zero, List.getD_cons_succ, List.drop_succ_cons, List.drop_zero, hlb]
        rw [if_neg (by decide), if_pos trivial]
      · rw [list_text 2 l 33 t rfl]
        unfold readF
        rw [if_neg (by simp)]
        simp only [List.getD_cons_zero, List.getD_cons_succ, List.drop_succ_cons, List.drop_zero, hlb]
        rw [if_neg (by decide), if_neg (by decide), if_pos trivial]
    · rw [leaf_text]
      obtain ⟨c, r, hc, hoc⟩ := hd_first L
      have hb := hd_by L
      have hlf := leaf_back L
      have hn := okC_ne hoc
      unfold readF
      rw [if_neg (by rw [hc]; simp)]
      simp only
      have hg : (40 :: (hdX k a v h m tl ++ 41 :: t)).getD 1 0 = c := by rw [hc]; rfl
      rw [hg, if_neg hn.2.2.2.2.2.2.2.1, if_neg hn.2.2.2.2.2.2.2.2.1, if_neg hn.2.2.2.2.2.2.2.2.2]
      rw [show (40 :: (hdX k a v h m tl ++ 41 :: t)).drop 1 = hdX k a v h m tl ++ 41 :: t from rfl, cutB_put 41 t _ (fun x hx => (hb x hx).2)]
      simp only [if_true, hlf]
theorem readR_back : ∀ (d M : Nat) (f : Flt), d ≤ M → depF f M ≤ d → allF f = 0 → ∀ t, readR d (putX f ++ t) = (f, t, true)
  | 0, M, f, _, h, _, t => by have := (depF_b f M).1; omega
  | d + 1, 0, f, h, _, _, t => by omega
  | d + 1, M + 1, .mk k a v h m tl l, hM, hd, ha, t => by
    rw [depF] at hd
    rw [allF] at ha
    have h1 : oneF k a v h m tl l.length = 0 := by
      split at ha
      · assumption
      · exact ha
    rw [if_pos h1] at ha
    have ih : ∀ f ∈ l, ∀ t, readR d (putX f ++ t) = (f, t, true) := fun f hf => readR_back d M f (by omega) (by have := depFL_get l M f hf; omega) (allFL_get l ha f hf)
    have hlb : loopF (readR d) ((putXL l ++ 41 :: t).length + 1) [] (putXL l ++ 41 :: t) = (l, t, true) := by
      rw [loop_back (readR d) l [] t _ (by have := putXL_ge l; simp; omega) ih]; rfl
    rcases one_ok k a v h m tl l h1 with ⟨hk, rfl, rfl, rfl, rfl, rfl⟩ | ⟨rfl, L⟩
    · rcases hk with rfl | rfl | rfl
      · rw [list_text 0 l 38 t rfl]
        unfold readR
        rw [if_neg (by simp), if_neg (by simp [kindR])]
        simp only [List.getD_cons_zero, List.getD_cons_succ, List.drop_succ_cons, List.drop_zero, if_true, hlb]
        simp [kindR]
      · rw [list_text 1 l 124 t rfl]
        unfold readR
        rw [if_neg (by simp), if_neg (by simp [kindR])]
        simp only [List.getD_cons_zero, List.getD_cons_succ, List.drop_succ_cons, List.drop_zero, if_true, hlb]
        simp [kindR]
      · rw [list_text 2 l 33 t rfl]
        unfold readR
        rw [if_neg (by simp), if_neg (by simp [kindR])]
        simp only [List.getD_cons_zero, List.getD_cons_succ, List.drop_succ_cons, List.drop_zero, if_true, hlb]
        simp [kindR]
    · rw [leaf_text]
      obtain ⟨c, r, hc, hoc⟩ := hd_first L
      have hb := hd_by L
      have hlf := leafR_back L
      have hn := okC_ne hoc
      have hbr : brAt ((40 :: (hdX k a v h m tl ++ 41 :: t)).drop 1) = (hdX k a v h m tl).length := brAt_put t _ hb
      have hg : (40 :: (hdX k a v h m tl ++ 41 :: t)).getD 1 0 = c := by rw [hc]; rfl
      have hkr : kindR c = -1 := by unfold kindR; rw [if_neg hn.2.2.2.2.2.2.2.1, if_neg hn.2.2.2.2.2.2.2.2.1, if_neg hn.2.2.2.2.2.2.2.2.2]
      unfold readR
      rw [if_neg (by rw [hc]; simp), hg, hkr, if_pos (by decide), hbr]
      have e1 : (40 :: (hdX k a v h m tl ++ 41 :: t)).getD (1 + (hdX k a v h m tl).length) 0 = 41 := by
        rw [Nat.add_comm, List.getD_cons_succ]; simp
      have e2 : ((40 :: (hdX k a v h m tl ++ 41 :: t)).take (1 + (hdX k a v h m tl).length)).drop 1 = hdX k a v h m tl := by
        rw [Nat.add_comm, List.take_succ_cons]; simp
      have e3 : (40 :: (hdX k a v h m tl ++ 41 :: t)).drop (1 + (hdX k a v h m tl).length + 1) = t := by
        rw [show 1 + (hdX k a v h m tl).length + 1 = (hdX k a v h m tl).length + 1 + 1 by omega, List.drop_succ_cons]; simp
      rw [e1, e2, e3, if_neg (by rintro (h | h); simp at h; omega; exact absurd h (by decide)), hlf]
/-! ### both readers agree -/
theorem chk_ok (f : Flt) (h : chkF f = 0) : depF f 64 ≤ 16 ∧ allF f = 0 := by
  unfold chkF at h
  split at h
  · cases h
  · exact ⟨by omega, h⟩
theorem Read_eq (s : Txt) : ReadF s = ReadR s := by
  unfold ReadF ReadR
  split
  · rfl
  · rename_i hs
    by_cases c1 : (readF 20 s).2.2 = true ∧ (readF 20 s).2.1 = [] ∧ chkF (readF 20 s).1 = 0
    · have h1 := readF_put 20 s c1.1
      rw [c1.2.1, List.append_nil] at h1
      obtain ⟨d, a⟩ := chk_ok _ c1.2.2
      have h2 := readR_back 20 64 (readF 20 s).1 (by omega) (by omega) a []
      rw [List.append_nil, ← h1] at h2
      have h3 : putF (readF 20 s).1 = (s, 0) := by
        unfold putF; rw [if_neg (by simp [c1.2.2]), ← h1, if_neg hs]
      rw [if_pos c1, h2, if_pos ⟨rfl, rfl, by rw [h3], by rw [h3]⟩]
    · rw [if_neg c1, if_neg]
      rintro ⟨h1, h2, h3, h4⟩
      have hc : chkF (readR 20 s).1 = 0 := by
        unfold putF at h3
        split at h3
        · exact h3
        · rename_i hh; exact Decidable.not_not.1 hh
      have hp : putX (readR 20 s).1 = s := by
        unfold putF at h3 h4
        rw [if_neg (by simp [hc])] at h3 h4
        split at h3
        · cases h3
        · rename_i hh; rw [if_neg hh] at h4; exact h4
      obtain ⟨d, a⟩ := chk_ok _ hc
      have h5 := readF_back 20 64 (readR 20 s).1 (by omega) (by omega) a []
      rw [List.append_nil, hp] at h5
      exact c1 (by rw [h5]; exact ⟨rfl, rfl, hc⟩)
end Go.Proofs.YtmlpbojoekmfaaaDoor
end
section
/- Ftext: a filter's text, by the program. -/
set_option linter.unusedSimpArgs false
set_option linter.unusedVariables false
namespace Go.Proofs.YtmlpbojoekmfaaaDoor
open Go.RowKit Go.Bo Go.Ab

def joinG : List D → Option (Bool × D)
  | [.x (.sl L), .x (.str s)] => (unrows rStr L).bind fun l => some (decide ((Lib.join l s).length ≤ 140737488355328) && (decide (l.length ≤ 140737488355328)), .x (.str (Lib.join l s)))
  | _ => none
theorem joinG_ok : ∀ args r, joinG args = some (true, r) → PCalls Tryd.prog 30 args r := by
  intro args r h
  unfold joinG at h
  split at h
  · rename_i L s
    obtain ⟨l, hr0, h⟩ := Option.bind_eq_some_iff.1 h
    simp only [Option.some.injEq, Prod.mk.injEq, Bool.and_eq_true, decide_eq_true_eq, true_and] at h
    obtain ⟨⟨h1, h2⟩, rfl⟩ := h
    rw [← rows_unrows good_rStr hr0]
    exact (join_c l s h1 h2)
  · cases h
theorem join_jn : ∀ l : List Txt, Lib.join l [42] = jn l
  | [] => rfl
  | [x] => by rw [Lib.join_one]; rfl
  | x :: y :: l => by
    have ih := join_jn (y :: l)
    rw [Lib.join_cons] at ih ⊢
    rw [jn_cons _ _ (by simp), ← ih]
    simp [Lib.joinTail]
/-- What stands in the brackets. -/
def inX : Flt → Txt
  | .mk k a v h m t l => hdX k a v h m t ++ putXL l
theorem putX_in (f : Flt) : putX f = [40] ++ inX f ++ [41] := by
  obtain ⟨k, a, v, h, m, t, l⟩ := f
  rw [putX, inX]; simp
def innermG (N : Nat) : List D → Option (Bool × D)
  | [.agg [.x (.int .i64 k), .x (.str a), .x (.str v), .x (.str hd), .x (.sl M), .x (.str t), .x (.sl L)]] => (unrows rStr M).bind fun mm => (unrows rFlt L).bind fun l => some (decide (szF (.mk k a v hd mm t l) ≤ N ∧ wF (.mk k a v hd mm t l) ≤ 300000 ∧ allF (.mk k a v hd mm t l) = 0), .x (.str (inX (.mk k a v hd mm t l))))
  | _ => none
theorem innermG_ok (N : Nat) (ih : ∀ (f : Flt), szF f ≤ N ∧ wF f ≤ 300000 ∧ allF f = 0 → PCalls Tryd.prog 60 [fltD f] (.x (.str (inX f)))) : ∀ args r, innermG N args = some (true, r) → PCalls Tryd.prog 60 args r := by
  intro args r h
  unfold innermG at h
  split at h
  · rename_i k a v hd M t L
    obtain ⟨mm, hr0, h⟩ := Option.bind_eq_some_iff.1 h
    obtain ⟨l, hr1, h⟩ := Option.bind_eq_some_iff.1 h
    simp only [Option.some.injEq, Prod.mk.injEq, Bool.and_eq_true, decide_eq_true_eq, true_and] at h
    obtain ⟨h1, rfl⟩ := h
    rw [← rows_unrows good_rStr hr0]
    rw [← rows_unrows good_rFlt hr1]
    exact ih (.mk k a v hd mm t l) h1
  · cases h
def tabFxR (g : List D → Option (Bool × D)) : Tabs := addQ (noTabs) 60 g
theorem tabFxR_ok (g : List D → Option (Bool × D)) (hg : ∀ args r, g args = some (true, r) → PCalls Tryd.prog 60 args r) : SsOk Tryd.prog (tabFxR g) := addQ_ok (noTabs_ok) (G_enters G_ok (p := i60) rfl) hg
theorem tabFxR_q60 (g : List D → Option (Bool × D)) (a : List D) : (tabFxR g).q 60 a = g a := rfl
theorem tabFxR_r (g : List D → Option (Bool × D)) (f : FuncId) (a : List D) (o : List Ob) : (tabFxR g).r f a o = none := rfl
theorem tabFxR_k (g : List D → Option (Bool × D)) (f : FuncId) (a : List D) (o : List Ob) : (tabFxR g).k f a o = none := rfl
theorem putC_of (N : Nat) (ih : ∀ (f : Flt), szF f ≤ N ∧ wF f ≤ 300000 ∧ allF f = 0 → PCalls Tryd.prog 60 [fltD f] (.x (.str (inX f)))) (f : Flt) (hc : szF f ≤ N ∧ wF f ≤ 300000 ∧ allF f = 0) : PCalls Tryd.prog 39 [fltD f] (.x (.str (putX f))) := by
  rw [putX_in]
  have hl : (inX f).length ≤ 1000000 := by
    have h1 := putX_len f
    have h2 := hc.2.1
    rw [putX_in] at h1
    simp only [List.length_append, List.length_cons, List.length_nil] at h1
    omega
  obtain ⟨k, a, v, h, mm, t, l⟩ := f
  dsimp only [fltD]
  refine FCalls.pure (fcallsG (fz := true) G_ok (p := i39) rfl _ (Nat.le_of_ble_eq_true rfl) _ (fun C0 E0 => ?_)) rfl
  dsimp only [i39, qt, qi, qs, qb, qm, qn, qa, qg, argsφ]
  have uu := And.intro @innermG.eq_1 (And.intro @innermG.eq_2 (And.intro @un_F (And.intro @un_T (And.intro @enc_rFlt (And.intro @tabFxR_r (And.intro @tabFxR_k (@tabFxR_q60)))))))
  have tT := (tabFxR_ok (innermG N) (innermG_ok N ih))
  refine nz ?_
  refine WI.regB tT [1] ?_
  refine oG ?_
  refine oS ?_
  refine oN ?_
  refine nz ?_
  refine WI.regB tT [2] ?_
  refine oG (hok := by first | exact sd | (exact decide_eq_true hc) | (rw [decide_eq_true_eq]; simp only [List.length_append, List.length_cons, List.length_nil]; omega)) ?_
  refine oC (hok := by first | exact sd | (exact decide_eq_true hc) | (rw [decide_eq_true_eq]; simp only [List.length_append, List.length_cons, List.length_nil]; omega)) ?_
  iterate 2 refine oG (hok := by first | exact sd | (exact decide_eq_true hc) | (rw [decide_eq_true_eq]; simp only [List.length_append, List.length_cons, List.length_nil]; omega)) ?_
  refine oS ?_
  refine oN ?_
  refine nz ?_
  refine lf ?_
  first | rfl | exact ⟨rfl, rfl⟩ | trivial -- leaf 0
def putCmG (N : Nat) : List D → Option (Bool × D)
  | [.agg [.x (.int .i64 k), .x (.str a), .x (.str v), .x (.str hd), .x (.sl M), .x (.str t), .x (.sl L)]] => (unrows rStr M).bind fun mm => (unrows rFlt L).bind fun l => some (decide (szF (.mk k a v hd mm t l) ≤ N ∧ wF (.mk k a v hd mm t l) ≤ 300000 ∧ allF (.mk k a v hd mm t l) = 0), .x (.str (putX (.mk k a v hd mm t l))))
  | _ => none
theorem putCmG_ok (N : Nat) (ih : ∀ (f : Flt), szF f ≤ N ∧ wF f ≤ 300000 ∧ allF f = 0 → PCalls Tryd.prog 39 [fltD f] (.x (.str (putX f)))) : ∀ args r, putCmG N args = some (true, r) → PCalls Tryd.prog 39 args r := by
  intro args r h
  unfold putCmG at h
  split at h
  · rename_i k a v hd M t L
    obtain ⟨mm, hr0, h⟩ := Option.bind_eq_some_iff.1 h
    obtain ⟨l, hr1, h⟩ := Option.bind_eq_some_iff.1 h
    simp only [Option.some.injEq, Prod.mk.injEq, Bool.and_eq_true, decide_eq_true_eq, true_and] at h
    obtain ⟨h1, rfl⟩ := h
    rw [← rows_unrows good_rStr hr0]
    rw [← rows_unrows good_rFlt hr1]
    exact ih (.mk k a v hd mm t l) h1
  · cases h
def tabFxS (g : List D → Option (Bool × D)) : Tabs := addQ (addQ (addQ (addQ (noTabs) 39 g) 19 escG) 62 signG) 30 joinG
theorem tabFxS_ok (g : List D → Option (Bool × D)) (hg : ∀ args r, g args = some (true, r) → PCalls Tryd.prog 39 args r) : SsOk Tryd.prog (tabFxS g) := addQ_ok (addQ_ok (addQ_ok (addQ_ok (noTabs_ok) (G_enters G_ok (p := i39) rfl) hg) (G_enters G_ok (p := i19) rfl) escG_ok) (G_enters G_ok (p := i62) rfl) signG_ok) join_enters joinG_ok
theorem tabFxS_q39 (g : List D → Option (Bool × D)) (a : List D) : (tabFxS g).q 39 a = g a := rfl
theorem tabFxS_q19 (g : List D → Option (Bool × D)) (a : List D) : (tabFxS g).q 19 a = escG a := rfl
theorem tabFxS_q62 (g : List D → Option (Bool × D)) (a : List D) : (tabFxS g).q 62 a = signG a := rfl
theorem tabFxS_q30 (g : List D → Option (Bool × D)) (a : List D) : (tabFxS g).q 30 a = joinG a := rfl
theorem tabFxS_r (g : List D → Option (Bool × D)) (f : FuncId) (a : List D) (o : List Ob) : (tabFxS g).r f a o = none := rfl
theorem tabFxS_k (g : List D → Option (Bool × D)) (f : FuncId) (a : List D) (o : List Ob) : (tabFxS g).k f a o = none := rfl
theorem midW_many : ∀ m : List Txt, m.length ≤ midW m
  | [] => by simp
  | x :: m => by have := midW_many m; unfold midW at this ⊢; simp; omega
set_option maxHeartbeats 2000000 in
theorem inner_c : ∀ (N : Nat) (f : Flt), szF f ≤ N ∧ wF f ≤ 300000 ∧ allF f = 0 → PCalls Tryd.prog 60 [fltD f] (.x (.str (inX f)))
  | 0, .mk k a v h mm t l, hs => by have := hs.1; simp only [szF] at this; omega
  | N + 1, .mk k a v h mm t l, hs => by
    have ih := putC_of N (inner_c N)
    have hsz : szFL l ≤ N := by have := hs.1; simp only [szF] at this; omega
    have hwf : a.length + v.length + h.length + t.length + midW mm + 5 + wFL l ≤ 300000 := by have := hs.2.1; rwa [wF] at this
    have hall := hs.2.2
    rw [allF] at hall
    have h1 : oneF k a v h mm t l.length = 0 := by
      split at hall
      · assumption
      · exact hall
    rw [if_pos h1] at hall
    have hal := allFL_get l hall
    have hk := one_ok k a v h mm t l h1
    have hmx := midX_len mm
    have hpl := putXL_len l
    have hev := escS_len v
    have heh := escS_len h
    have het := escS_len t
    clear hs hall h1
    refine PCalls.wfA (fun hw => ?_)
    have hl : l.length ≤ maxLen := by have := (hw 0 6 _ rfl).1; rwa [rows_len] at this
    have hml : mm.length ≤ maxLen := by have := (hw 0 4 _ rfl).1; rwa [rows_len] at this
    clear hw
    simp only [maxLen] at hl hml
    dsimp only [fltD]
    rw [inX]
    refine FCalls.pure (fcallsG (fz := true) G_ok (p := i60) rfl _ (Nat.le_of_ble_eq_true rfl) _ (fun C0 E0 => ?_)) rfl
    dsimp only [i60, qt, qi, qs, qb, qm, qn, qa, qg, argsφ]
    have uu := And.intro @putCmG.eq_1 (And.intro @putCmG.eq_2 (And.intro @escG.eq_1 (And.intro @escG.eq_2 (And.intro @signG.eq_1 (And.intro @signG.eq_2 (And.intro @joinG.eq_1 (And.intro @joinG.eq_2 (And.intro @un_F (And.intro @un_T (And.intro @enc_rFlt (And.intro @tabFxS_r (And.intro @tabFxS_k (And.intro @tabFxS_q19 (And.intro @tabFxS_q30 (And.intro @tabFxS_q39 (@tabFxS_q62))))))))))))))))
    have tT := (tabFxS_ok (putCmG N) (putCmG_ok N ih))
    refine nz ?_
    rcases hk with ⟨rfl | rfl | rfl, rfl, rfl, rfl, rfl, rfl⟩ | ⟨rfl, ⟨hane, haok, ⟨rfl | rfl | rfl | rfl, rfl, rfl, rfl⟩ | ⟨rfl, rfl, rfl, rfl, rfl⟩ | ⟨rfl, rfl, hp⟩⟩⟩
    · refine WI.regB tT [1] ?_
      refine oG ?_
      refine oS ?_
      refine oN ?_
      refine nz ?_
      refine WI.regB tT [1, 10] ?_
      refine oS ?_
      refine oG (hok := by first | exact sd | (rw [decide_eq_true_eq]; simp only [List.length_append, List.length_cons, List.length_nil]; omega)) ?_
      refine oN ?_
      refine nz ?_
      refine WI.regB tT [1, 10, 11] ?_
      refine oG (hok := by first | exact sd | (rw [decide_eq_true_eq]; simp only [List.length_append, List.length_cons, List.length_nil]; omega)) ?_
      refine oS ?_
      refine oN ?_
      refine nz ?_
      refine ct (fun h0 => ?_) (fun h0 => ?_)
      · refine ct (fun h2 => ?_) (fun h2 => ?_)
        · refine WI.regB tT [1, 3] ?_
          refine oS ?_
          refine oG (hok := by first | exact sd | (rw [decide_eq_true_eq]; simp only [List.length_append, List.length_cons, List.length_nil]; omega)) ?_
          refine oS ?_
          iterate 3 refine oG (hok := by first | exact sd | (rw [decide_eq_true_eq]; simp only [List.length_append, List.length_cons, List.length_nil]; omega)) ?_
          refine oS ?_
          refine oN ?_
          refine nz ?_
          refine WI.regB tT [3, 22, 23, 24] ?_
          refine oS ?_
          iterate 2 refine oG (hok := by first | exact sd | (rw [decide_eq_true_eq]; simp only [List.length_append, List.length_cons, List.length_nil]; omega)) ?_
          refine oS ?_
          refine oN ?_
          refine nz ?_
          refine WI.loop (fun φ os => ∃ (j : Nat), φ = [(3, .x (.str (38 :: putXL (l.take j)))), (22, .x (.sl (rows rFlt l))), (23, .x (.int .i64 l.length)), (24, .x (.int .i64 j))] ∧ os = [.box [.x (.int .i64 0), .x (.str []), .x (.str []), .x (.str []), .x (.sl (rows rStr [])), .x (.str []), .x (.sl (rows rFlt l))]] ∧ j ≤ l.length) (down l.length 24) ?_ (fun φ os hI => ?_)
          · exact ⟨0, by rw [List.take_zero, putXL]; rfl, rfl, by omega⟩
          · obtain ⟨j, rfl, rfl, hj⟩ := hI
            refine nz ?_
            refine WI.regB tT [3, 22, 23, 24, 25] ?_
            refine oG (hok := by first | exact sd | (rw [decide_eq_true_eq]; simp only [List.length_append, List.length_cons, List.length_nil]; omega)) ?_
            refine oN ?_
            refine nz ?_
            refine cd (fun h3 => ?_) (fun h3 => ?_)
            · have hj4 : j < l.length := by omega
              have hs1 : szF l[j] ≤ N := Nat.le_trans (szFL_get l j hj4) hsz
              have hw1 : wF l[j] ≤ 300000 := Nat.le_trans (wFL_get l j hj4) (by omega)
              have ha1 := hal l[j] (List.getElem_mem hj4)
              have hst := putXL_snoc (l.take j) l[j]
              rw [← List.take_succ_eq_append_getElem hj4] at hst
              have hq1 := putXL_len (l.take j)
              have hq2 := wFL_take l j
              have hq3 := putX_len l[j]
              have hq5 : (putX l[j]).length ≤ 900000 := by omega
              have hq6 : (putXL (l.take j)).length ≤ 900000 := by omega
              clear hq1 hq3 hpl
              rcases hx : l[j] with ⟨k1, a1, v1, h1', m1, t1, l1⟩
              rw [hx] at hs1 hst hw1 ha1 hq5
              have uu := And.intro uu (And.intro hx (show decide (szF (.mk k1 a1 v1 h1' m1 t1 l1) ≤ N ∧ wF (.mk k1 a1 v1 h1' m1 t1 l1) ≤ 300000 ∧ allF (.mk k1 a1 v1 h1' m1 t1 l1) = 0) = true from decide_eq_true ⟨hs1, hw1, ha1⟩))
              refine WI.regB tT [3, 5, 22, 23, 24] ?_
              iterate 2 refine oG (hok := by first | exact sd | (rw [decide_eq_true_eq]; simp only [List.length_append, List.length_cons, List.length_nil]; omega)) ?_
              refine oG ?_
              refine oG (hok := by first | exact sd | (rw [decide_eq_true_eq]; simp only [List.length_append, List.length_cons, List.length_nil]; omega)) ?_
              refine oN ?_
              refine nz ?_
              refine WI.regB tT [3, 22, 23, 24] ?_
              refine oS ?_
              refine oG (hok := by first | exact sd | (rw [decide_eq_true_eq]; simp only [List.length_append, List.length_cons, List.length_nil]; omega)) ?_
              refine oC (hok := by first | exact sd | (rw [decide_eq_true_eq]; simp only [List.length_append, List.length_cons, List.length_nil]; omega)) ?_
              refine oG (hok := by first | exact sd | (rw [decide_eq_true_eq]; simp only [List.length_append, List.length_cons, List.length_nil]; omega)) ?_
              refine oS ?_
              refine oN ?_
              refine nz ?_
              refine WI.post ?_
              refine WI.regB tT [3, 22, 23, 24] ?_
              refine oG (hok := by first | exact sd | (rw [decide_eq_true_eq]; simp only [List.length_append, List.length_cons, List.length_nil]; omega)) ?_
              refine oS ?_
              refine oP ?_
              refine pPick [0] ?_
              refine pEnd ?_
              refine nz ?_
              exact ⟨⟨j + 1, by rw [hst]; simp, rfl, by omega⟩, by simp [down, Ab.get, D.val, intOf?]; omega⟩
            · refine WI.regB tT [2] ?_
              iterate 2 refine oS ?_
              refine oN ?_
              refine nz ?_
              refine lf ?_
              first | (simp [hdX, putXL]; done) | (rw [List.take_of_length_le (by omega)]; simp [hdX]) -- leaf 0
        · simp at h2
      · simp at h0
    · refine WI.regB tT [1] ?_
      refine oG ?_
      refine oS ?_
      refine oN ?_
      refine nz ?_
      refine WI.regB tT [1, 10] ?_
      refine oS ?_
      refine oG (hok := by first | exact sd | (rw [decide_eq_true_eq]; simp only [List.length_append, List.length_cons, List.length_nil]; omega)) ?_
      refine oN ?_
      refine nz ?_
      refine WI.regB tT [1, 10, 11] ?_
      refine oG (hok := by first | exact sd | (rw [decide_eq_true_eq]; simp only [List.length_append, List.length_cons, List.length_nil]; omega)) ?_
      refine oS ?_
      refine oN ?_
      refine nz ?_
      refine ce (fun h0 => ?_) (fun h0 => ?_)
      · simp at h0
      · refine WI.regB tT [1, 10, 11] ?_
        refine oG (hok := by first | exact sd | (rw [decide_eq_true_eq]; simp only [List.length_append, List.length_cons, List.length_nil]; omega)) ?_
        refine oS ?_
        refine oN ?_
        refine nz ?_
        refine ct (fun h1 => ?_) (fun h1 => ?_)
        · refine ct (fun h2 => ?_) (fun h2 => ?_)
          · refine WI.regB tT [1, 3] ?_
            refine oS ?_
            refine oG (hok := by first | exact sd | (rw [decide_eq_true_eq]; simp only [List.length_append, List.length_cons, List.length_nil]; omega)) ?_
            refine oS ?_
            iterate 3 refine oG (hok := by first | exact sd | (rw [decide_eq_true_eq]; simp only [List.length_append, List.length_cons, List.length_nil]; omega)) ?_
            refine oS ?_
            refine oN ?_
            refine nz ?_
            refine WI.regB tT [3, 22, 23, 24] ?_
            refine oS ?_
            iterate 2 refine oG (hok := by first | exact sd | (rw [decide_eq_true_eq]; simp only [List.length_append, List.length_cons, List.length_nil]; omega)) ?_
            refine oS ?_
            refine oN ?_
            refine nz ?_
            refine WI.loop (fun φ os => ∃ (j : Nat), φ = [(3, .x (.str (124 :: putXL (l.take j)))), (22, .x (.sl (rows rFlt l))), (23, .x (.int .i64 l.length)), (24, .x (.int .i64 j))] ∧ os = [.box [.x (.int .i64 1), .x (.str []), .x (.str []), .x (.str []), .x (.sl (rows rStr [])), .x (.str []), .x (.sl (rows rFlt l))]] ∧ j ≤ l.length) (down l.length 24) ?_ (fun φ os hI => ?_)
            · exact ⟨0, by rw [List.take_zero, putXL]; rfl, rfl, by omega⟩
            · obtain ⟨j, rfl, rfl, hj⟩ := hI
              refine nz ?_
              refine WI.regB tT [3, 22, 23, 24, 25] ?_
              refine oG (hok := by first | exact sd | (rw [decide_eq_true_eq]; simp only [List.length_append, List.length_cons, List.length_nil]; omega)) ?_
              refine oN ?_
              refine nz ?_
              refine cd (fun h3 => ?_) (fun h3 => ?_)
              · have hj4 : j < l.length := by omega
                have hs1 : szF l[j] ≤ N := Nat.le_trans (szFL_get l j hj4) hsz
                have hw1 : wF l[j] ≤ 300000 := Nat.le_trans (wFL_get l j hj4) (by omega)
                have ha1 := hal l[j] (List.getElem_mem hj4)
                have hst := putXL_snoc (l.take j) l[j]
                rw [← List.take_succ_eq_append_getElem hj4] at hst
                have hq1 := putXL_len (l.take j)
                have hq2 := wFL_take l j
                have hq3 := putX_len l[j]
                have hq5 : (putX l[j]).length ≤ 900000 := by omega
                have hq6 : (putXL (l.take j)).length ≤ 900000 := by omega
                clear hq1 hq3 hpl
                rcases hx : l[j] with ⟨k1, a1, v1, h1', m1, t1, l1⟩
                rw [hx] at hs1 hst hw1 ha1 hq5
                have uu := And.intro uu (And.intro hx (show decide (szF (.mk k1 a1 v1 h1' m1 t1 l1) ≤ N ∧ wF (.mk k1 a1 v1 h1' m1 t1 l1) ≤ 300000 ∧ allF (.mk k1 a1 v1 h1' m1 t1 l1) = 0) = true from decide_eq_true ⟨hs1, hw1, ha1⟩))
                refine WI.regB tT [3, 5, 22, 23, 24] ?_
                iterate 2 refine oG (hok := by first | exact sd | (rw [decide_eq_true_eq]; simp only [List.length_append, List.length_cons, List.length_nil]; omega)) ?_
                refine oG ?_
                refine oG (hok := by first | exact sd | (rw [decide_eq_true_eq]; simp only [List.length_append, List.length_cons, List.length_nil]; omega)) ?_
                refine oN ?_
                refine nz ?_
                refine WI.regB tT [3, 22, 23, 24] ?_
                refine oS ?_
                refine oG (hok := by first | exact sd | (rw [decide_eq_true_eq]; simp only [List.length_append, List.length_cons, List.length_nil]; omega)) ?_
                refine oC (hok := by first | exact sd | (rw [decide_eq_true_eq]; simp only [List.length_append, List.length_cons, List.length_nil]; omega)) ?_
                refine oG (hok := by first | exact sd | (rw [decide_eq_true_eq]; simp only [List.length_append, List.length_cons, List.length_nil]; omega)) ?_
                refine oS ?_
                refine oN ?_
                refine nz ?_
                refine WI.post ?_
                refine WI.regB tT [3, 22, 23, 24] ?_
                refine oG (hok := by first | exact sd | (rw [decide_eq_true_eq]; simp only [List.length_append, List.length_cons, List.length_nil]; omega)) ?_
                refine oS ?_
                refine oP ?_
                refine pPick [0] ?_
                refine pEnd ?_
                refine nz ?_
                exact ⟨⟨j + 1, by rw [hst]; simp, rfl, by omega⟩, by simp [down, Ab.get, D.val, intOf?]; omega⟩
              · refine WI.regB tT [2] ?_
                iterate 2 refine oS ?_
                refine oN ?_
                refine nz ?_
                refine lf ?_
                first | (simp [hdX, putXL]; done) | (rw [List.take_of_length_le (by omega)]; simp [hdX]) -- leaf 1
          · simp at h2
        · simp at h1
    · refine WI.regB tT [1] ?_
      refine oG ?_
      refine oS ?_
      refine oN ?_
      refine nz ?_
      refine WI.regB tT [1, 10] ?_
      refine oS ?_
      refine oG (hok := by first | exact sd | (rw [decide_eq_true_eq]; simp only [List.length_append, List.length_cons, List.length_nil]; omega)) ?_
      refine oN ?_
      refine nz ?_
      refine WI.regB tT [1, 10, 11] ?_
      refine oG (hok := by first | exact sd | (rw [decide_eq_true_eq]; simp only [List.length_append, List.length_cons, List.length_nil]; omega)) ?_
      refine oS ?_
      refine oN ?_
      refine nz ?_
      refine ce (fun h0 => ?_) (fun h0 => ?_)
      · simp at h0
      · refine WI.regB tT [1, 10, 11] ?_
        refine oG (hok := by first | exact sd | (rw [decide_eq_true_eq]; simp only [List.length_append, List.length_cons, List.length_nil]; omega)) ?_
        refine oS ?_
        refine oN ?_
        refine nz ?_
        refine ce (fun h1 => ?_) (fun h1 => ?_)
        · simp at h1
        · refine WI.regB tT [1, 10, 11] ?_
          refine oG (hok := by first | exact sd | (rw [decide_eq_true_eq]; simp only [List.length_append, List.length_cons, List.length_nil]; omega)) ?_
          refine oS ?_
          refine oN ?_
          refine nz ?_
          refine ct (fun h2 => ?_) (fun h2 => ?_)
          · refine WI.regB tT [1, 3] ?_
            refine oS ?_
            refine oG (hok := by first | exact sd | (rw [decide_eq_true_eq]; simp only [List.length_append, List.length_cons, List.length_nil]; omega)) ?_
            refine oS ?_
            iterate 3 refine oG (hok := by first | exact sd | (rw [decide_eq_true_eq]; simp only [List.length_append, List.length_cons, List.length_nil]; omega)) ?_
            refine oS ?_
            refine oN ?_
            refine nz ?_
            refine WI.regB tT [3, 22, 23, 24] ?_
            refine oS ?_
            iterate 2 refine oG (hok := by first | exact sd | (rw [decide_eq_true_eq]; simp only [List.length_append, List.length_cons, List.length_nil]; omega)) ?_
            refine oS ?_
            refine oN ?_
            refine nz ?_
            refine WI.loop (fun φ os => ∃ (j : Nat), φ = [(3, .x (.str (33 :: putXL (l.take j)))), (22, .x (.sl (rows rFlt l))), (23, .x (.int .i64 l.length)), (24, .x (.int .i64 j))] ∧ os = [.box [.x (.int .i64 2), .x (.str []), .x (.str []), .x (.str []), .x (.sl (rows rStr [])), .x (.str []), .x (.sl (rows rFlt l))]] ∧ j ≤ l.length) (down l.length 24) ?_ (fun φ os hI => ?_)
            · exact ⟨0, by rw [List.take_zero, putXL]; rfl, rfl, by omega⟩
            · obtain ⟨j, rfl, rfl, hj⟩ := hI
              refine nz ?_
              refine WI.regB tT [3, 22, 23, 24, 25] ?_
              refine oG (hok := by first | exact sd | (rw [decide_eq_true_eq]; simp only [List.length_append, List.length_cons, List.length_nil]; omega)) ?_
              refine oN ?_
              refine nz ?_
              refine cd (fun h3 => ?_) (fun h3 => ?_)
              · have hj4 : j < l.length := by omega
                have hs1 : szF l[j] ≤ N := Nat.le_trans (szFL_get l j hj4) hsz
                have hw1 : wF l[j] ≤ 300000 := Nat.le_trans (wFL_get l j hj4) (by omega)
                have ha1 := hal l[j] (List.getElem_mem hj4)
                have hst := putXL_snoc (l.take j) l[j]
                rw [← List.take_succ_eq_append_getElem hj4] at hst
                have hq1 := putXL_len (l.take j)
                have hq2 := wFL_take l j
                have hq3 := putX_len l[j]
                have hq5 : (putX l[j]).length ≤ 900000 := by omega
                have hq6 : (putXL (l.take j)).length ≤ 900000 := by omega
                clear hq1 hq3 hpl
                rcases hx : l[j] with ⟨k1, a1, v1, h1', m1, t1, l1⟩
                rw [hx] at hs1 hst hw1 ha1 hq5
                have uu := And.intro uu (And.intro hx (show decide (szF (.mk k1 a1 v1 h1' m1 t1 l1) ≤ N ∧ wF (.mk k1 a1 v1 h1' m1 t1 l1) ≤ 300000 ∧ allF (.mk k1 a1 v1 h1' m1 t1 l1) = 0) = true from decide_eq_true ⟨hs1, hw1, ha1⟩))
                refine WI.regB tT [3, 5, 22, 23, 24] ?_
                iterate 2 refine oG (hok := by first | exact sd | (rw [decide_eq_true_eq]; simp only [List.length_append, List.length_cons, List.length_nil]; omega)) ?_
                refine oG ?_
                refine oG (hok := by first | exact sd | (rw [decide_eq_true_eq]; simp only [List.length_append, List.length_cons, List.length_nil]; omega)) ?_
                refine oN ?_
                refine nz ?_
                refine WI.regB tT [3, 22, 23, 24] ?_
                refine oS ?_
                refine oG (hok := by first | exact sd | (rw [decide_eq_true_eq]; simp only [List.length_append, List.length_cons, List.length_nil]; omega)) ?_
                refine oC (hok := by first | exact sd | (rw [decide_eq_true_eq]; simp only [List.length_append, List.length_cons, List.length_nil]; omega)) ?_
                refine oG (hok := by first | exact sd | (rw [decide_eq_true_eq]; simp only [List.length_append, List.length_cons, List.length_nil]; omega)) ?_
                refine oS ?_
                refine oN ?_
                refine nz ?_
                refine WI.post ?_
                refine WI.regB tT [3, 22, 23, 24] ?_
                refine oG (hok := by first | exact sd | (rw [decide_eq_true_eq]; simp only [List.length_append, List.length_cons, List.length_nil]; omega)) ?_
                refine oS ?_
                refine oP ?_
                refine pPick [0] ?_
                refine pEnd ?_
                refine nz ?_
                exact ⟨⟨j + 1, by rw [hst]; simp, rfl, by omega⟩, by simp [down, Ab.get, D.val, intOf?]; omega⟩
              · refine WI.regB tT [2] ?_
                iterate 2 refine oS ?_
                refine oN ?_
                refine nz ?_
                refine lf ?_
                first | (simp [hdX, putXL]; done) | (rw [List.take_of_length_le (by omega)]; simp [hdX]) -- leaf 2
          · simp at h2
    · refine WI.regB tT [1] ?_
      refine oG ?_
      refine oS ?_
      refine oN ?_
      refine nz ?_
      refine WI.regB tT [1, 10] ?_
      refine oS ?_
      refine oG (hok := by first | exact sd | (rw [decide_eq_true_eq]; simp only [List.length_append, List.length_cons, List.length_nil]; omega)) ?_
      refine oN ?_
      refine nz ?_
      refine WI.regB tT [1, 10, 11] ?_
      refine oG (hok := by first | exact sd | (rw [decide_eq_true_eq]; simp only [List.length_append, List.length_cons, List.length_nil]; omega)) ?_
      refine oS ?_
      refine oN ?_
      refine nz ?_
      refine ce (fun h0 => ?_) (fun h0 => ?_)
      · simp at h0
      · refine WI.regB tT [1, 10, 11] ?_
        refine oG (hok := by first | exact sd | (rw [decide_eq_true_eq]; simp only [List.length_append, List.length_cons, List.length_nil]; omega)) ?_
        refine oS ?_
        refine oN ?_
        refine nz ?_
        refine ce (fun h1 => ?_) (fun h1 => ?_)
        · simp at h1
        · refine WI.regB tT [1, 10, 11] ?_
          refine oG (hok := by first | exact sd | (rw [decide_eq_true_eq]; simp only [List.length_append, List.length_cons, List.length_nil]; omega)) ?_
          refine oS ?_
          refine oN ?_
          refine nz ?_
          refine ce (fun h2 => ?_) (fun h2 => ?_)
          · simp at h2
          · refine WI.regB tT [1, 10, 34] ?_
            refine oG (hok := by first | exact sd | (rw [decide_eq_true_eq]; simp only [List.length_append, List.length_cons, List.length_nil]; omega)) ?_
            refine oS ?_
            refine oN ?_
            refine nz ?_
            refine ce (fun h4 => ?_) (fun h4 => ?_)
            · simp at h4
            · refine WI.regB tT [1, 39] ?_
              refine oG (hok := by first | exact sd | (rw [decide_eq_true_eq]; simp only [List.length_append, List.length_cons, List.length_nil]; omega)) ?_
              refine oS ?_
              refine oN ?_
              refine nz ?_
              refine ce (fun h5 => ?_) (fun h5 => ?_)
              · simp at h5
              · refine WI.dregB tT [2] ?_
                refine dFS ?_
                refine dQG (hok := by first | exact sd | (rw [decide_eq_true_eq]; simp only [List.length_append, List.length_cons, List.length_nil]; omega)) ?_
                refine dFS ?_
                refine dQG (hok := by first | exact sd | (rw [decide_eq_true_eq]; simp only [List.length_append, List.length_cons, List.length_nil]; omega)) ?_
                refine dQC (hok := by first | exact sd | (rw [decide_eq_true_eq]; simp only [List.length_append, List.length_cons, List.length_nil]; omega)) ?_
                refine dFG (hok := by first | exact sd | (rw [decide_eq_true_eq]; simp only [List.length_append, List.length_cons, List.length_nil]; omega)) ?_
                refine dFS ?_
                refine dQG (hok := by first | exact sd | (rw [decide_eq_true_eq]; simp only [List.length_append, List.length_cons, List.length_nil]; omega)) ?_
                refine dQC (hok := by first | exact sd | (rw [decide_eq_true_eq]; simp only [List.length_append, List.length_cons, List.length_nil]; omega)) ?_
                refine dFG (hok := by first | exact sd | (rw [decide_eq_true_eq]; simp only [List.length_append, List.length_cons, List.length_nil]; omega)) ?_
                refine dFS ?_
                refine dN ?_
                refine nz ?_
                refine lf ?_
                first | (simp [hdX, putXL]; done) | (rw [List.take_of_length_le (by omega)]; simp [hdX]) -- leaf 3
    · refine WI.regB tT [1] ?_
      refine oG ?_
      refine oS ?_
      refine oN ?_
      refine nz ?_
      refine WI.regB tT [1, 10] ?_
      refine oS ?_
      refine oG (hok := by first | exact sd | (rw [decide_eq_true_eq]; simp only [List.length_append, List.length_cons, List.length_nil]; omega)) ?_
      refine oN ?_
      refine nz ?_
      refine WI.regB tT [1, 10, 11] ?_
      refine oG (hok := by first | exact sd | (rw [decide_eq_true_eq]; simp only [List.length_append, List.length_cons, List.length_nil]; omega)) ?_
      refine oS ?_
      refine oN ?_
      refine nz ?_
      refine ce (fun h0 => ?_) (fun h0 => ?_)
      · simp at h0
      · refine WI.regB tT [1, 10, 11] ?_
        refine oG (hok := by first | exact sd | (rw [decide_eq_true_eq]; simp only [List.length_append, List.length_cons, List.length_nil]; omega)) ?_
        refine oS ?_
        refine oN ?_
        refine nz ?_
        refine ce (fun h1 => ?_) (fun h1 => ?_)
        · simp at h1
        · refine WI.regB tT [1, 10, 11] ?_
          refine oG (hok := by first | exact sd | (rw [decide_eq_true_eq]; simp only [List.length_append, List.length_cons, List.length_nil]; omega)) ?_
          refine oS ?_
          refine oN ?_
          refine nz ?_
          refine ce (fun h2 => ?_) (fun h2 => ?_)
          · simp at h2
          · refine WI.regB tT [1, 10, 34] ?_
            refine oG (hok := by first | exact sd | (rw [decide_eq_true_eq]; simp only [List.length_append, List.length_cons, List.length_nil]; omega)) ?_
            refine oS ?_
            refine oN ?_
            refine nz ?_
            refine ce (fun h4 => ?_) (fun h4 => ?_)
            · simp at h4
            · refine WI.regB tT [1, 39] ?_
              refine oG (hok := by first | exact sd | (rw [decide_eq_true_eq]; simp only [List.length_append, List.length_cons, List.length_nil]; omega)) ?_
              refine oS ?_
              refine oN ?_
              refine nz ?_
              refine ce (fun h5 => ?_) (fun h5 => ?_)
              · simp at h5
              · refine WI.dregB tT [2] ?_
                refine dFS ?_
                refine dQG (hok := by first | exact sd | (rw [decide_eq_true_eq]; simp only [List.length_append, List.length_cons, List.length_nil]; omega)) ?_
                refine dFS ?_
                refine dQG (hok := by first | exact sd | (rw [decide_eq_true_eq]; simp only [List.length_append, List.length_cons, List.length_nil]; omega)) ?_
                refine dQC (hok := by first | exact sd | (rw [decide_eq_true_eq]; simp only [List.length_append, List.length_cons, List.length_nil]; omega)) ?_
                refine dFG (hok := by first | exact sd | (rw [decide_eq_true_eq]; simp only [List.length_append, List.length_cons, List.length_nil]; omega)) ?_
                refine dFS ?_
                refine dQG (hok := by first | exact sd | (rw [decide_eq_true_eq]; simp only [List.length_append, List.length_cons, List.length_nil]; omega)) ?_
                refine dQC (hok := by first | exact sd | (rw [decide_eq_true_eq]; simp only [List.length_append, List.length_cons, List.length_nil]; omega)) ?_
                refine dFG (hok := by first | exact sd | (rw [decide_eq_true_eq]; simp only [List.length_append, List.length_cons, List.length_nil]; omega)) ?_
                refine dFS ?_
                refine dN ?_
                refine nz ?_
                refine lf ?_
                first | (simp [hdX, putXL]; done) | (rw [List.take_of_length_le (by omega)]; simp [hdX]) -- leaf 4
    · refine WI.regB tT [1] ?_
      refine oG ?_
      refine oS ?_
      refine oN ?_
      refine nz ?_
      refine WI.regB tT [1, 10] ?_
      refine oS ?_
      refine oG (hok := by first | exact sd | (rw [decide_eq_true_eq]; simp only [List.length_append, List.length_cons, List.length_nil]; omega)) ?_
      refine oN ?_
      refine nz ?_
      refine WI.regB tT [1, 10, 11] ?_
      refine oG (hok := by first | exact sd | (rw [decide_eq_true_eq]; simp only [List.length_append, List.length_cons, List.length_nil]; omega)) ?_
      refine oS ?_
      refine oN ?_
      refine nz ?_
      refine ce (fun h0 => ?_) (fun h0 => ?_)
      · simp at h0
      · refine WI.regB tT [1, 10, 11] ?_
        refine oG (hok := by first | exact sd | (rw [decide_eq_true_eq]; simp only [List.length_append, List.length_cons, List.length_nil]; omega)) ?_
        refine oS ?_
        refine oN ?_
        refine nz ?_
        refine ce (fun h1 => ?_) (fun h1 => ?_)
        · simp at h1
        · refine WI.regB tT [1, 10, 11] ?_
          refine oG (hok := by first | exact sd | (rw [decide_eq_true_eq]; simp only [List.length_append, List.length_cons, List.length_nil]; omega)) ?_
          refine oS ?_
          refine oN ?_
          refine nz ?_
          refine ce (fun h2 => ?_) (fun h2 => ?_)
          · simp at h2
          · refine WI.regB tT [1, 10, 34] ?_
            refine oG (hok := by first | exact sd | (rw [decide_eq_true_eq]; simp only [List.length_append, List.length_cons, List.length_nil]; omega)) ?_
            refine oS ?_
            refine oN ?_
            refine nz ?_
            refine ce (fun h4 => ?_) (fun h4 => ?_)
            · simp at h4
            · refine WI.regB tT [1, 39] ?_
              refine oG (hok := by first | exact sd | (rw [decide_eq_true_eq]; simp only [List.length_append, List.length_cons, List.length_nil]; omega)) ?_
              refine oS ?_
              refine oN ?_
              refine nz ?_
              refine ce (fun h5 => ?_) (fun h5 => ?_)
              · simp at h5
              · refine WI.dregB tT [2] ?_
                refine dFS ?_
                refine dQG (hok := by first | exact sd | (rw [decide_eq_true_eq]; simp only [List.length_append, List.length_cons, List.length_nil]; omega)) ?_
                refine dFS ?_
                refine dQG (hok := by first | exact sd | (rw [decide_eq_true_eq]; simp only [List.length_append, List.length_cons, List.length_nil]; omega)) ?_
                refine dQC (hok := by first | exact sd | (rw [decide_eq_true_eq]; simp only [List.length_append, List.length_cons, List.length_nil]; omega)) ?_
                refine dFG (hok := by first | exact sd | (rw [decide_eq_true_eq]; simp only [List.length_append, List.length_cons, List.length_nil]; omega)) ?_
                refine dFS ?_
                refine dQG (hok := by first | exact sd | (rw [decide_eq_true_eq]; simp only [List.length_append, List.length_cons, List.length_nil]; omega)) ?_
                refine dQC (hok := by first | exact sd | (rw [decide_eq_true_eq]; simp only [List.length_append, List.length_cons, List.length_nil]; omega)) ?_
                refine dFG (hok := by first | exact sd | (rw [decide_eq_true_eq]; simp only [List.length_append, List.length_cons, List.length_nil]; omega)) ?_
                refine dFS ?_
                refine dN ?_
                refine nz ?_
                refine lf ?_
                first | (simp [hdX, putXL]; done) | (rw [List.take_of_length_le (by omega)]; simp [hdX]) -- leaf 5
    · refine WI.regB tT [1] ?_
      refine oG ?_
      refine oS ?_
      refine oN ?_
      refine nz ?_
      refine WI.regB tT [1, 10] ?_
      refine oS ?_
      refine oG (hok := by first | exact sd | (rw [decide_eq_true_eq]; simp only [List.length_append, List.length_cons, List.length_nil]; omega)) ?_
      refine oN ?_
      refine nz ?_
      refine WI.regB tT [1, 10, 11] ?_
      refine oG (hok := by first | exact sd | (rw [decide_eq_true_eq]; simp only [List.length_append, List.length_cons, List.length_nil]; omega)) ?_
      refine oS ?_
      refine oN ?_
      refine nz ?_
      refine ce (fun h0 => ?_) (fun h0 => ?_)
      · simp at h0
      · refine WI.regB tT [1, 10, 11] ?_
        refine oG (hok := by first | exact sd | (rw [decide_eq_true_eq]; simp only [List.length_append, List.length_cons, List.length_nil]; omega)) ?_
        refine oS ?_
        refine oN ?_
        refine nz ?_
        refine ce (fun h1 => ?_) (fun h1 => ?_)
        · simp at h1
        · refine WI.regB tT [1, 10, 11] ?_
          refine oG (hok := by first | exact sd | (rw [decide_eq_true_eq]; simp only [List.length_append, List.length_cons, List.length_nil]; omega)) ?_
          refine oS ?_
          refine oN ?_
          refine nz ?_
          refine ce (fun h2 => ?_) (fun h2 => ?_)
          · simp at h2
          · refine WI.regB tT [1, 10, 34] ?_
            refine oG (hok := by first | exact sd | (rw [decide_eq_true_eq]; simp only [List.length_append, List.length_cons, List.length_nil]; omega)) ?_
            refine oS ?_
            refine oN ?_
            refine nz ?_
            refine ce (fun h4 => ?_) (fun h4 => ?_)
            · simp at h4
            · refine WI.regB tT [1, 39] ?_
              refine oG (hok := by first | exact sd | (rw [decide_eq_true_eq]; simp only [List.length_append, List.length_cons, List.length_nil]; omega)) ?_
              refine oS ?_
              refine oN ?_
              refine nz ?_
              refine ce (fun h5 => ?_) (fun h5 => ?_)
              · simp at h5
              · refine WI.dregB tT [2] ?_
                refine dFS ?_
                refine dQG (hok := by first | exact sd | (rw [decide_eq_true_eq]; simp only [List.length_append, List.length_cons, List.length_nil]; omega)) ?_
                refine dFS ?_
                refine dQG (hok := by first | exact sd | (rw [decide_eq_true_eq]; simp only [List.length_append, List.length_cons, List.length_nil]; omega)) ?_
                refine dQC (hok := by first | exact sd | (rw [decide_eq_true_eq]; simp only [List.length_append, List.length_cons, List.length_nil]; omega)) ?_
                refine dFG (hok := by first | exact sd | (rw [decide_eq_true_eq]; simp only [List.length_append, List.length_cons, List.length_nil]; omega)) ?_
                refine dFS ?_
                refine dQG (hok := by first | exact sd | (rw [decide_eq_true_eq]; simp only [List.length_append, List.length_cons, List.length_nil]; omega)) ?_
                refine dQC (hok := by first | exact sd | (rw [decide_eq_true_eq]; simp only [List.length_append, List.length_cons, List.length_nil]; omega)) ?_
                refine dFG (hok := by first | exact sd | (rw [decide_eq_true_eq]; simp only [List.length_append, List.length_cons, List.length_nil]; omega)) ?_
                refine dFS ?_
                refine dN ?_
                refine nz ?_
                refine lf ?_
                first | (simp [hdX, putXL]; done) | (rw [List.take_of_length_le (by omega)]; simp [hdX]) -- leaf 6
    · refine WI.regB tT [1] ?_
      refine oG ?_
      refine oS ?_
      refine oN ?_
      refine nz ?_
      refine WI.regB tT [1, 10] ?_
      refine oS ?_
      refine oG (hok := by first | exact sd | (rw [decide_eq_true_eq]; simp only [List.length_append, List.length_cons, List.length_nil]; omega)) ?_
      refine oN ?_
      refine nz ?_
      refine WI.regB tT [1, 10, 11] ?_
      refine oG (hok := by first | exact sd | (rw [decide_eq_true_eq]; simp only [List.length_append, List.length_cons, List.length_nil]; omega)) ?_
      refine oS ?_
      refine oN ?_
      refine nz ?_
      refine ce (fun h0 => ?_) (fun h0 => ?_)
      · simp at h0
      · refine WI.regB tT [1, 10, 11] ?_
        refine oG (hok := by first | exact sd | (rw [decide_eq_true_eq]; simp only [List.length_append, List.length_cons, List.length_nil]; omega)) ?_
        refine oS ?_
        refine oN ?_
        refine nz ?_
        refine ce (fun h1 => ?_) (fun h1 => ?_)
        · simp at h1
        · refine WI.regB tT [1, 10, 11] ?_
          refine oG (hok := by first | exact sd | (rw [decide_eq_true_eq]; simp only [List.length_append, List.length_cons, List.length_nil]; omega)) ?_
          refine oS ?_
          refine oN ?_
          refine nz ?_
          refine ce (fun h2 => ?_) (fun h2 => ?_)
          · simp at h2
          · refine WI.regB tT [1, 10, 34] ?_
            refine oG (hok := by first | exact sd | (rw [decide_eq_true_eq]; simp only [List.length_append, List.length_cons, List.length_nil]; omega)) ?_
            refine oS ?_
            refine oN ?_
            refine nz ?_
            refine ct (fun h4 => ?_) (fun h4 => ?_)
            · refine WI.regB tT [2] ?_
              refine oS ?_
              iterate 2 refine oG (hok := by first | exact sd | (rw [decide_eq_true_eq]; simp only [List.length_append, List.length_cons, List.length_nil]; omega)) ?_
              refine oS ?_
              refine oN ?_
              refine nz ?_
              refine lf ?_
              first | (simp [hdX, putXL]; done) | (rw [List.take_of_length_le (by omega)]; simp [hdX]) -- leaf 7
            · simp at h4
    · refine WI.regB tT [1] ?_
      refine oG ?_
      refine oS ?_
      refine oN ?_
      refine nz ?_
      refine WI.regB tT [1, 10] ?_
      refine oS ?_
      refine oG (hok := by first | exact sd | (rw [decide_eq_true_eq]; simp only [List.length_append, List.length_cons, List.length_nil]; omega)) ?_
      refine oN ?_
      refine nz ?_
      refine WI.regB tT [1, 10, 11] ?_
      refine oG (hok := by first | exact sd | (rw [decide_eq_true_eq]; simp only [List.length_append, List.length_cons, List.length_nil]; omega)) ?_
      refine oS ?_
      refine oN ?_
      refine nz ?_
      refine ce (fun h0 => ?_) (fun h0 => ?_)
      · simp at h0
      · refine WI.regB tT [1, 10, 11] ?_
        refine oG (hok := by first | exact sd | (rw [decide_eq_true_eq]; simp only [List.length_append, List.length_cons, List.length_nil]; omega)) ?_
        refine oS ?_
        refine oN ?_
        refine nz ?_
        refine ce (fun h1 => ?_) (fun h1 => ?_)
        · simp at h1
        · refine WI.regB tT [1, 10, 11] ?_
          refine oG (hok := by first | exact sd | (rw [decide_eq_true_eq]; simp only [List.length_append, List.length_cons, List.length_nil]; omega)) ?_
          refine oS ?_
          refine oN ?_
          refine nz ?_
          refine ce (fun h2 => ?_) (fun h2 => ?_)
          · simp at h2
          · refine WI.regB tT [1, 10, 34] ?_
            refine oG (hok := by first | exact sd | (rw [decide_eq_true_eq]; simp only [List.length_append, List.length_cons, List.length_nil]; omega)) ?_
            refine oS ?_
            refine oN ?_
            refine nz ?_
            refine ce (fun h4 => ?_) (fun h4 => ?_)
            · simp at h4
            · refine WI.regB tT [1, 39] ?_
              refine oG (hok := by first | exact sd | (rw [decide_eq_true_eq]; simp only [List.length_append, List.length_cons, List.length_nil]; omega)) ?_
              refine oS ?_
              refine oN ?_
              refine nz ?_
              refine ct (fun h5 => ?_) (fun h5 => ?_)
              · refine WI.regB tT [1, 6] ?_
                iterate 2 refine oS ?_
                refine oG (hok := by first | exact sd | (rw [decide_eq_true_eq]; simp only [List.length_append, List.length_cons, List.length_nil]; omega)) ?_
                refine oC (hok := by first | exact sd | (rw [decide_eq_true_eq]; simp only [List.length_append, List.length_cons, List.length_nil]; omega)) ?_
                refine oG (hok := by first | exact sd | (rw [decide_eq_true_eq]; simp only [List.length_append, List.length_cons, List.length_nil]; omega)) ?_
                refine oS ?_
                refine oN ?_
                refine nz ?_
                refine WI.regB tT [1, 6, 48, 49, 50] ?_
                iterate 2 refine oS ?_
                iterate 2 refine oG (hok := by first | exact sd | (rw [decide_eq_true_eq]; simp only [List.length_append, List.length_cons, List.length_nil]; omega)) ?_
                refine oS ?_
                refine oN ?_
                refine nz ?_
                refine WI.loop (fun φ os => ∃ (j : Nat) (L : List Txt), L = escS h :: (mm.take j).map escS ∧ φ = [(1, .ptr 0 0), (6, .ref 1 L.length 0 L.length), (48, .x (.sl (rows rStr mm))), (49, .x (.int .i64 mm.length)), (50, .x (.int .i64 j))] ∧ os = [.box [.x (.int .i64 4), .x (.str a), .x (.str []), .x (.str h), .x (.sl (rows rStr mm)), .x (.str t), .x (.sl (rows rFlt []))], .rows false 9 1 (rows rStr L)] ∧ j ≤ mm.length) (down mm.length 50) ?_ (fun φ os hI => ?_)
                · exact ⟨0, [escS h], rfl, rfl, rfl, by omega⟩
                · obtain ⟨j, L, hL, rfl, rfl, hj⟩ := hI
                  have hLl : L.length ≤ 300001 := by rw [hL]; have := midW_many mm; simp; omega
                  refine nz ?_
                  refine WI.regB tT [1, 6, 48, 49, 50, 51] ?_
                  refine oG (hok := by first | exact sd | (rw [decide_eq_true_eq]; simp only [List.length_append, List.length_cons, List.length_nil]; omega)) ?_
                  refine oN ?_
                  refine nz ?_
                  refine cd (fun h6 => ?_) (fun h6 => ?_)
                  · have hj4 : j < mm.length := by omega
                    have hjg := midW_get mm j hj4
                    have hje := escS_len mm[j]
                    refine WI.regB tT [1, 6, 8, 48, 49, 50] ?_
                    iterate 2 refine oG (hok := by first | exact sd | (rw [decide_eq_true_eq]; simp only [List.length_append, List.length_cons, List.length_nil]; omega)) ?_
                    refine oS ?_
                    refine oN ?_
                    refine nz ?_
                    refine WI.post ?_
                    refine WI.regB tT [1, 6, 48, 49, 50] ?_
                    iterate 2 refine oS ?_
                    refine oC (hok := by first | exact sd | (rw [decide_eq_true_eq]; simp only [List.length_append, List.length_cons, List.length_nil]; omega)) ?_
                    iterate 2 refine oG (hok := by first | exact sd | (rw [decide_eq_true_eq]; simp only [List.length_append, List.length_cons, List.length_nil]; omega)) ?_
                    refine oS ?_
                    refine oP ?_
                    refine pPick [0, 1] ?_
                    refine pEnd ?_
                    refine nz ?_
                    refine WI.regB tT [1, 6, 48, 49, 50] ?_
                    refine oG (hok := by first | exact sd | (rw [decide_eq_true_eq]; simp only [List.length_append, List.length_cons, List.length_nil]; omega)) ?_
                    refine oS ?_
                    refine oN ?_
                    refine nz ?_
                    exact ⟨⟨j + 1, L ++ [escS mm[j]], by rw [List.take_succ_eq_append_getElem hj4, List.map_append, hL]; rfl, by rw [List.length_append]; first | done | rfl, by rw [← rows_snocB]; first | done | rfl, by omega⟩, by simp [down, Ab.get, D.val, intOf?]; omega⟩
                  · have e1 : Lib.join (L ++ [escS t]) [42] = escS h ++ [42] ++ midX mm ++ escS t := by rw [join_jn, hL, List.take_of_length_le (by omega)]; exact (parts_jn h mm t).symm
                    have e2 : (if (rows rStr L ++ [[X.str (escS t)]]).length = L.length + 1 then some (List.take (L.length + 1) (rows rStr L ++ [[X.str (escS t)]])) else none) = some (rows rStr (L ++ [escS t])) := by
                      rw [if_pos (by simp [rows]), rows_snocB, List.take_of_length_le (by simp [rows])]
                    have e3 : (escS h ++ [42] ++ midX mm ++ escS t).length ≤ 2000000 := by simp only [List.length_append, List.length_cons, List.length_nil]; omega
                    have e4 : (L ++ [escS t]).length ≤ 400000 := by simp only [List.length_append, List.length_cons, List.length_nil]; omega
                    have uu := And.intro uu (And.intro e1 (And.intro e2 (And.intro (show decide ((escS h ++ [42] ++ midX mm ++ escS t).length ≤ 140737488355328) = true from decide_eq_true (by omega)) (show decide ((L ++ [escS t]).length ≤ 140737488355328) = true from decide_eq_true (by omega)))))
                    refine WI.dregX tT [2] ?_
                    refine xFS ?_
                    refine xRG (hok := by first | exact sd | (rw [decide_eq_true_eq]; simp only [List.length_append, List.length_cons, List.length_nil]; omega)) ?_
                    refine xFG (hok := by first | exact sd | (rw [decide_eq_true_eq]; simp only [List.length_append, List.length_cons, List.length_nil]; omega)) ?_
                    iterate 3 refine xFS ?_
                    refine xAG (hok := by first | exact sd | (rw [decide_eq_true_eq]; simp only [List.length_append, List.length_cons, List.length_nil]; omega)) ?_
                    refine xAC (hok := by first | exact sd | (rw [decide_eq_true_eq]; simp only [List.length_append, List.length_cons, List.length_nil]; omega)) ?_
                    iterate 2 refine xAG (hok := by first | exact sd | (rw [decide_eq_true_eq]; simp only [List.length_append, List.length_cons, List.length_nil]; omega)) ?_
                    refine xAC (hok := by first | exact sd | (rw [decide_eq_true_eq]; simp only [List.length_append, List.length_cons, List.length_nil]; omega)) ?_
                    refine xFG (hok := by first | exact sd | (rw [decide_eq_true_eq]; simp only [List.length_append, List.length_cons, List.length_nil]; omega)) ?_
                    refine xFS ?_
                    refine xN ?_
                    refine nz ?_
                    refine lf ?_
                    first | (simp [hdX, putXL]; done) | (rw [List.take_of_length_le (by omega)]; simp [hdX]) -- leaf 8
              · simp at h5
def putCG : List D → Option (Bool × D)
  | [.agg [.x (.int .i64 k), .x (.str a), .x (.str v), .x (.str hd), .x (.sl M), .x (.str t), .x (.sl L)]] => (unrows rStr M).bind fun mm => (unrows rFlt L).bind fun l => some (decide (wF (.mk k a v hd mm t l) ≤ 300000) && (decide (allF (.mk k a v hd mm t l) = 0)), .x (.str (putX (.mk k a v hd mm t l))))
  | _ => none
theorem putCG_ok : ∀ args r, putCG args = some (true, r) → PCalls Tryd.prog 39 args r := by
  intro args r h
  unfold putCG at h
  split at h
  · rename_i k a v hd M t L
    obtain ⟨mm, hr0, h⟩ := Option.bind_eq_some_iff.1 h
    obtain ⟨l, hr1, h⟩ := Option.bind_eq_some_iff.1 h
    simp only [Option.some.injEq, Prod.mk.injEq, Bool.and_eq_true, decide_eq_true_eq, true_and] at h
    obtain ⟨⟨h1, h2⟩, rfl⟩ := h
    rw [← rows_unrows good_rStr hr0]
    rw [← rows_unrows good_rFlt hr1]
    exact putC_of _ (inner_c _) (.mk k a v hd mm t l) ⟨Nat.le_refl _, h1, h2⟩
  · cases h
def tabFxT : Tabs := addQ (addQ (noTabs) 21 chkG) 39 putCG
theorem tabFxT_ok : SsOk Tryd.prog tabFxT := addQ_ok (addQ_ok (noTabs_ok) (G_enters G_ok (p := i21) rfl) chkG_ok) (G_enters G_ok (p := i39) rfl) putCG_ok
theorem tabFxT_q21 (a : List D) : tabFxT.q 21 a = chkG a := rfl
theorem tabFxT_q39 (a : List D) : tabFxT.q 39 a = putCG a := rfl
theorem tabFxT_r (f : FuncId) (a : List D) (o : List Ob) : tabFxT.r f a o = none := rfl
theorem tabFxT_k (f : FuncId) (a : List D) (o : List Ob) : tabFxT.k f a o = none := rfl
theorem PutC_c (f : Flt) (hw : wF f ≤ 300000) : PCalls Tryd.prog 18 [fltD f] (.tup [.x (.str (putF f).1), .x (.int .i64 (putF f).2)]) := by
  have hs := sm_w f (by omega)
  have hpl := putX_len f
  have hok := chk_ok f
  obtain ⟨k, a, v, h, mm, t, l⟩ := f
  dsimp only [fltD]
  unfold putF
  refine FCalls.pure (fcallsG (fz := true) G_ok (p := i18) rfl _ (Nat.le_of_ble_eq_true rfl) _ (fun C0 E0 => ?_)) rfl
  dsimp only [i18, qt, qi, qs, qb, qm, qn, qa, qg, argsφ]
  have uu := And.intro @chkG.eq_1 (And.intro @chkG.eq_2 (And.intro @putCG.eq_1 (And.intro @putCG.eq_2 (And.intro @un_F (And.intro @un_T (And.intro @tabFxT_r (And.intro @tabFxT_k (And.intro @tabFxT_q21 (@tabFxT_q39)))))))))
  have tT := tabFxT_ok
  refine nz ?_
  refine WI.regB tT [1] ?_
  refine oG ?_
  iterate 2 refine oS ?_
  refine oN ?_
  refine nz ?_
  refine WI.regB tT [1, 4] ?_
  refine oG (hok := by first | exact sd | (exact decide_eq_true hs) | (rw [Bool.and_eq_true]; exact ⟨decide_eq_true hw, decide_eq_true ha⟩)) ?_
  refine oC (hok := by first | exact sd | (exact decide_eq_true hs) | (rw [Bool.and_eq_true]; exact ⟨decide_eq_true hw, decide_eq_true ha⟩)) ?_
  refine oS ?_
  refine oN ?_
  refine nz ?_
  refine WI.regB tT [1, 4, 9] ?_
  refine oS ?_
  refine oG (hok := by first | exact sd | (exact decide_eq_true hs) | (rw [Bool.and_eq_true]; exact ⟨decide_eq_true hw, decide_eq_true ha⟩)) ?_
  refine oN ?_
  refine nz ?_
  refine cd (fun h0 => ?_) (fun h0 => ?_)
  · refine WI.regB tT [2, 3] ?_
    iterate 3 refine oS ?_
    refine oN ?_
    refine nz ?_
    refine lf ?_
    rw [if_pos (by simpa using h0)] -- leaf 0
  · have ha := (hok (by simpa using h0)).2
    refine WI.regB tT [5] ?_
    refine oG (hok := by first | exact sd | (exact decide_eq_true hs) | (rw [Bool.and_eq_true]; exact ⟨decide_eq_true hw, decide_eq_true ha⟩)) ?_
    refine oC (hok := by first | exact sd | (exact decide_eq_true hs) | (rw [Bool.and_eq_true]; exact ⟨decide_eq_true hw, decide_eq_true ha⟩)) ?_
    refine oS ?_
    refine oN ?_
    refine nz ?_
    refine WI.regB tT [5, 15] ?_
    refine oS ?_
    iterate 2 refine oG (hok := by first | exact sd | (exact decide_eq_true hs) | (rw [Bool.and_eq_true]; exact ⟨decide_eq_true hw, decide_eq_true ha⟩)) ?_
    refine oN ?_
    refine nz ?_
    refine cd (fun h1 => ?_) (fun h1 => ?_)
    · refine WI.regB tT [2, 3] ?_
      iterate 2 refine oS ?_
      refine oN ?_
      refine nz ?_
      refine lf ?_
      rw [if_neg (by simpa using h0), if_pos (by omega)] -- leaf 1
    · refine WI.regB tT [2, 3] ?_
      iterate 3 refine oS ?_
      refine oN ?_
      refine nz ?_
      refine lf ?_
      rw [if_neg (by simpa using h0), if_neg (by omega)] -- leaf 2
def PutCG : List D → Option (Bool × D)
  | [.agg [.x (.int .i64 k), .x (.str a), .x (.str v), .x (.str hd), .x (.sl M), .x (.str t), .x (.sl L)]] => (unrows rStr M).bind fun mm => (unrows rFlt L).bind fun l => some (decide (wF (.mk k a v hd mm t l) ≤ 300000), .tup [.x (.str (putF (.mk k a v hd mm t l)).1), .x (.int .i64 (putF (.mk k a v hd mm t l)).2)])
  | _ => none
theorem PutCG_ok : ∀ args r, PutCG args = some (true, r) → PCalls Tryd.prog 18 args r := by
  intro args r h
  unfold PutCG at h
  split at h
  · rename_i k a v hd M t L
    obtain ⟨mm, hr0, h⟩ := Option.bind_eq_some_iff.1 h
    obtain ⟨l, hr1, h⟩ := Option.bind_eq_some_iff.1 h
    simp only [Option.some.injEq, Prod.mk.injEq, Bool.and_eq_true, decide_eq_true_eq, true_and] at h
    obtain ⟨h1, rfl⟩ := h
    rw [← rows_unrows good_rStr hr0]
    rw [← rows_unrows good_rFlt hr1]
    exact PutC_c (.mk k a v hd mm t l) h1
  · cases h
end Go.Proofs.YtmlpbojoekmfaaaDoor
end
section
/- Ftext: the law. -/
set_option linter.unusedSimpArgs false
set_option linter.unusedVariables false
namespace Go.Proofs.YtmlpbojoekmfaaaDoor
open Go.RowKit Go.Bo Go.Ab

def tabFxP : Tabs := addQ (addQ (addQ (noTabs) 8 ReadG) 18 PutCG) 19 escG
theorem tabFxP_ok : SsOk Tryd.prog tabFxP := addQ_ok (addQ_ok (addQ_ok (noTabs_ok) (G_enters G_ok (p := i8) rfl) ReadG_ok) (G_enters G_ok (p := i18) rfl) PutCG_ok) (G_enters G_ok (p := i19) rfl) escG_ok
theorem awake13_c : PCalls Tryd.prog 7 [] (.x (.bool true)) := ev_closedS G_ok 300 (p := i7) rfl tabFxP_ok (by kernel_rfl) rfl
def awake13G : List D → Option (Bool × D)
  | [] => some (true, .x (.bool true))
  | _ => none
theorem awake13G_ok : ∀ args r, awake13G args = some (true, r) → PCalls Tryd.prog 7 args r := by
  intro args r h
  unfold awake13G at h
  split at h
  · simp only [Option.some.injEq, Prod.mk.injEq, true_and] at h
    subst h; exact awake13_c
  · cases h
def tabFxQ : Tabs := addQ (addQ (addQ (addQ (noTabs) 7 awake13G) 8 ReadG) 9 ReadRG) 10 Same11G
theorem tabFxQ_ok : SsOk Tryd.prog tabFxQ := addQ_ok (addQ_ok (addQ_ok (addQ_ok (noTabs_ok) (G_enters G_ok (p := i7) rfl) awake13G_ok) (G_enters G_ok (p := i8) rfl) ReadG_ok) (G_enters G_ok (p := i9) rfl) ReadRG_ok) (G_enters G_ok (p := i10) rfl) Same11G_ok
theorem tabFxQ_q7 (a : List D) : tabFxQ.q 7 a = awake13G a := rfl
theorem tabFxQ_q8 (a : List D) : tabFxQ.q 8 a = ReadG a := rfl
theorem tabFxQ_q9 (a : List D) : tabFxQ.q 9 a = ReadRG a := rfl
theorem tabFxQ_q10 (a : List D) : tabFxQ.q 10 a = Same11G a := rfl
theorem tabFxQ_r (f : FuncId) (a : List D) (o : List Ob) : tabFxQ.r f a o = none := rfl
theorem tabFxQ_k (f : FuncId) (a : List D) (o : List Ob) : tabFxQ.k f a o = none := rfl
theorem ftextReads_c (s : Txt) : PCalls Tryd.prog 3 [.x (.str s)] (.x (.bool true)) := by
  have he := Read_eq s
  rcases hx : ReadF s with ⟨⟨k1, a1, v1, h1', m1, t1, l1⟩, e⟩
  rw [hx] at he
  have hy := he.symm
  refine FCalls.pure (fcallsG (fz := true) G_ok (p := i3) rfl _ (Nat.le_of_ble_eq_true rfl) _ (fun C0 E0 => ?_)) rfl
  dsimp only [i3, qt, qi, qs, qb, qm, qn, qa, qg, argsφ]
  have uu := And.intro @awake13G.eq_1 (And.intro @awake13G.eq_2 (And.intro @ReadG.eq_1 (And.intro @ReadG.eq_2 (And.intro @ReadRG.eq_1 (And.intro @ReadRG.eq_2 (And.intro @Same11G.eq_1 (And.intro @Same11G.eq_2 (And.intro @un_F (And.intro @un_T (And.intro @eqF_refl (And.intro @tabFxQ_r (And.intro @tabFxQ_k (And.intro @tabFxQ_q10 (And.intro @tabFxQ_q7 (And.intro @tabFxQ_q8 (@tabFxQ_q9))))))))))))))))
  have tT := tabFxQ_ok
  refine nz ?_
  refine rg tT [0] ?_
  refine rg tT [0, 19] ?_
  refine cd (fun h0 => ?_) (fun h0 => ?_)
  · refine rg tT [2] ?_
    refine lf ?_
    first | rfl | exact ⟨rfl, rfl⟩ | trivial -- leaf 0
  · have uu := And.intro uu (And.intro hx hy)
    refine rg tT [0, 3, 4] ?_
    refine rg tT [3, 4, 5, 6] ?_
    refine rg tT [2] ?_
    refine lf ?_
    first | rfl | exact ⟨rfl, rfl⟩ | trivial -- leaf 1
end Go.Proofs.YtmlpbojoekmfaaaDoor
end
