/- Plain laws of numbers as bytes: a number comes back from its bytes, and bytes from their number. -/
import Derived.Test.YtecfcamlnfmebaaNumRr
namespace Go.Proofs.Ytecfcamlnfmebaa
open Go.RowKit Go.Bo

theorem size_bytesOf (ns : List Int) : (bytesOf ns).size = ns.length := by
  show (bytesOf ns).data.size = _
  simp [bytesOf]
theorem bt_bytesOf (ns : List Int) (k : Nat) (h : ∀ n ∈ ns, 0 ≤ n ∧ n ≤ 255) : bt (bytesOf ns) k = ns.getD k 0 := by
  unfold bt bytesOf
  simp only [List.getD, List.getElem?_map]
  cases hk : ns[k]? with
  | none => simp
  | some x =>
    have := h x (List.mem_of_getElem? hk)
    simp [UInt8.toNat_ofNat']
    omega
theorem bytes_eq (s : ByteArray) : s = bytesOf ((List.range s.size).map (bt s)) := by
  apply ByteArray.ext
  apply Array.ext'
  have hl : s.data.toList.length = s.size := by simp
  apply List.ext_getElem
  · simp [bytesOf]
  · intro i h1 h2
    have h3 : i < s.data.size := by simpa using h1
    simp only [bytesOf, List.map_map, List.getElem_map, List.getElem_range, Function.comp, bt]
    simp only [List.getD, Array.getElem?_toList, Array.getElem?_eq_getElem h3, Option.getD_some, Int.toNat_natCast, Array.getElem_toList]
    simp

theorem manyF_bd (n : Int) : 1 ≤ manyF n ∧ manyF n ≤ 4 := by unfold manyF; split <;> (try split) <;> (try split) <;> omega
theorem manyB_bd (n : Int) (m : Nat) : ∀ x ∈ manyB n m, 0 ≤ x ∧ x ≤ 255 := by
  intro x hx
  unfold manyB at hx
  split at hx <;> simp at hx <;> omega
theorem put_size (n : Int) : (bytesOf (putB n)).size = manyF n := by
  rw [size_bytesOf, putB, manyB_len _ _ (manyF_bd n).2]

theorem form_put (n : Int) (h0 : -2147483648 ≤ n) (h1 : n ≤ 2147483647) : (1 < manyF n → formB (bytesOf (putB n)) = false) ∧ rdN (bytesOf (putB n)) (manyF n) = n := by
  have hb := fun k => bt_bytesOf (putB n) k (manyB_bd n _)
  unfold formB
  simp only [hb]
  have hr0 : rdN (bytesOf (putB n)) 0 = if (putB n).getD 0 0 < 128 then 0 else -1 := by simp only [rdN, sg0, sgB, hb]
  have hrs : ∀ k, rdN (bytesOf (putB n)) (k + 1) = rdN (bytesOf (putB n)) k * 256 + (putB n).getD k 0 := fun k => by simp only [rdN, hb]
  unfold putB
  unfold putB at hr0 hrs
  have hm : manyF n = 1 ∧ -128 ≤ n ∧ n < 128 ∨ manyF n = 2 ∧ (n < -128 ∨ 128 ≤ n) ∧ -32768 ≤ n ∧ n < 32768 ∨ manyF n = 3 ∧ (n < -32768 ∨ 32768 ≤ n) ∧ -8388608 ≤ n ∧ n < 8388608 ∨ manyF n = 4 ∧ (n < -8388608 ∨ 8388608 ≤ n) := by
    unfold manyF; split <;> (try split) <;> (try split) <;> omega
  rcases hm with ⟨e, hm⟩ | ⟨e, hm⟩ | ⟨e, hm⟩ | ⟨e, hm⟩
  all_goals
    rw [e] at hr0 hrs ⊢
    refine ⟨fun _ => ?_, ?_⟩
  · omega
  · rw [hrs, hr0]; simp only [manyB, List.getD_cons_zero]; split <;> omega
  · simp only [manyB, List.getD_cons_zero, List.getD_cons_succ, Bool.or_eq_false_iff, Bool.and_eq_false_iff, beq_eq_false_iff_ne, decide_eq_false_iff_not]; omega
  · rw [hrs, hrs, hr0]; simp only [manyB, List.getD_cons_zero, List.getD_cons_succ]; split <;> omega
  · simp only [manyB, List.getD_cons_zero, List.getD_cons_succ, Bool.or_eq_false_iff, Bool.and_eq_false_iff, beq_eq_false_iff_ne, decide_eq_false_iff_not]; omega
  · rw [hrs, hrs, hrs, hr0]; simp only [manyB, List.getD_cons_zero, List.getD_cons_succ]; split <;> omega
  · simp only [manyB, List.getD_cons_zero, List.getD_cons_succ, Bool.or_eq_false_iff, Bool.and_eq_false_iff, beq_eq_false_iff_ne, decide_eq_false_iff_not]; omega
  · rw [hrs, hrs, hrs, hrs, hr0]; simp only [manyB, List.getD_cons_zero, List.getD_cons_succ]; split <;> omega

theorem rdE_put (n : Int) (h0 : -2147483648 ≤ n) (h1 : n ≤ 2147483647) : rdE (bytesOf (putB n)) = 0 := by
  unfold rdE
  rw [put_size]
  have hm := manyF_bd n
  rw [if_neg (by omega), if_neg (by
    rintro ⟨ha, hb⟩
    rw [(form_put n h0 h1).1 ha] at hb
    cases hb), if_neg (by omega)]
theorem rdF_put (n : Int) (h0 : -2147483648 ≤ n) (h1 : n ≤ 2147483647) : rdF (bytesOf (putB n)) = n := by
  rw [rdF_yes (rdE_put n h0 h1), put_size]
  exact (form_put n h0 h1).2

theorem put_rd (s : ByteArray) (h : rdE s = 0) : bytesOf (putB (rdF s)) = s ∧ -2147483648 ≤ rdF s ∧ rdF s ≤ 2147483647 := by
  rw [rdF_yes h]
  have hs : 1 ≤ s.size ∧ s.size ≤ 4 ∧ (1 < s.size → formB s = false) := by
    unfold rdE at h
    split at h
    · cases h
    · split at h
      · cases h
      · rename_i hz hf
        split at h
        · cases h
        · refine ⟨by omega, by omega, fun hl => ?_⟩
          cases hb : formB s with
          | false => rfl
          | true => exact absurd ⟨hl, hb⟩ hf
  obtain ⟨hs1, hs2, hf⟩ := hs
  have hb : ∀ k, 0 ≤ bt s k ∧ bt s k ≤ 255 := bt_bd s
  have h0 := hb 0; have h1 := hb 1; have h2 := hb 2; have h3 := hb 3
  unfold formB at hf
  simp only [Bool.or_eq_false_iff, Bool.and_eq_false_iff, beq_eq_false_iff_ne, decide_eq_false_iff_not] at hf
  have hsz : s.size = 1 ∨ s.size = 2 ∨ s.size = 3 ∨ s.size = 4 := by omega
  have he : bytesOf (putB (rdN s s.size)) = bytesOf ((List.range s.size).map (bt s)) ∧ -2147483648 ≤ rdN s s.size ∧ rdN s s.size ≤ 2147483647 := by
    rcases hsz with e | e | e | e
    all_goals
      rw [e] at hf ⊢
      simp only [rdN, sg0, sgB]
    · have hm : manyF ((if bt s 0 < 128 then 0 else -1) * 256 + bt s 0) = 1 := by unfold manyF; rw [if_pos (by split <;> omega)]
      refine ⟨?_, by split <;> omega, by split <;> omega⟩
      rw [putB, hm]
      simp only [manyB, List.range, List.range.loop, List.map]
      refine congrArg bytesOf ?_
      simp only [List.cons.injEq, and_true]
      (repeat' apply And.intro) <;> split <;> omega
    · have hm : manyF (((if bt s 0 < 128 then 0 else -1) * 256 + bt s 0) * 256 + bt s 1) = 2 := by
        unfold manyF
        rw [if_neg (by split <;> omega), if_pos (by split <;> omega)]
      refine ⟨?_, by split <;> omega, by split <;> omega⟩
      rw [putB, hm]
      simp only [manyB, List.range, List.range.loop, List.map]
      refine congrArg bytesOf ?_
      simp only [List.cons.injEq, and_true]
      (repeat' apply And.intro) <;> split <;> omega
    · have hm : manyF ((((if bt s 0 < 128 then 0 else -1) * 256 + bt s 0) * 256 + bt s 1) * 256 + bt s 2) = 3 := by
        unfold manyF
        rw [if_neg (by split <;> omega), if_neg (by split <;> omega), if_pos (by split <;> omega)]
      refine ⟨?_, by split <;> omega, by split <;> omega⟩
      rw [putB, hm]
      simp only [manyB, List.range, List.range.loop, List.map]
      refine congrArg bytesOf ?_
      simp only [List.cons.injEq, and_true]
      (repeat' apply And.intro) <;> split <;> omega
    · have hm : manyF (((((if bt s 0 < 128 then 0 else -1) * 256 + bt s 0) * 256 + bt s 1) * 256 + bt s 2) * 256 + bt s 3) = 4 := by
        unfold manyF
        rw [if_neg (by split <;> omega), if_neg (by split <;> omega), if_neg (by split <;> omega)]
      refine ⟨?_, by split <;> omega, by split <;> omega⟩
      rw [putB, hm]
      simp only [manyB, List.range, List.range.loop, List.map]
      refine congrArg bytesOf ?_
      simp only [List.cons.injEq, and_true]
      (repeat' apply And.intro) <;> split <;> omega
  rw [← bytes_eq s] at he
  exact he

theorem put_inj (a b : Int) (ha0 : -2147483648 ≤ a) (ha1 : a ≤ 2147483647) (hb0 : -2147483648 ≤ b) (hb1 : b ≤ 2147483647) : ((bytesOf (putB a)).toList == (bytesOf (putB b)).toList) = (a == b) := by
  by_cases h : a = b
  · subst h; simp
  · rw [beq_eq_false_iff_ne.2 h, beq_eq_false_iff_ne]
    intro he
    apply h
    have : bytesOf (putB a) = bytesOf (putB b) := by
      apply ByteArray.ext
      apply Array.ext'
      rwa [Go.ByteArray.toList_eq, Go.ByteArray.toList_eq] at he
    rw [← rdF_put a ha0 ha1, this, rdF_put b hb0 hb1]
theorem manyF_mono (a b : Int) (h : 0 ≤ a ∧ a ≤ b ∨ a < 0 ∧ b ≤ a) : manyF a ≤ manyF b := by
  unfold manyF
  split <;> (try split) <;> (try split) <;> (try split) <;> (try split) <;> (try split) <;> omega

end Go.Proofs.Ytecfcamlnfmebaa
