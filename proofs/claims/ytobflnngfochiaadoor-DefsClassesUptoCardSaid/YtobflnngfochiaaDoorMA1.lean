/- MA1: Split, Join, Fo1, Fo2, Texts, Df1, Df2, Df3. -/
import Derived.Test.YtobflnngfochiaaDoorLA4
import Derived.Test.YtobflnngfochiaaDoorIc
import Derived.Test.YtobflnngfochiaaDoorSh
import Derived.Lib.SplitLaws
import Derived.Lib.Join
import Derived.Lib.MapLaws
section
/- strings.Split at one byte, strings.CutPrefix: by the kit's contracts. -/
set_option linter.unusedSimpArgs false
set_option linter.unusedVariables false
namespace Go.Proofs
open Go.Shelf Go.RowKit Go.Lib
set_option maxHeartbeats 1000000 in
/-- strings.Split at a separator of one byte: no package variable is read. -/
theorem Any1.strings_Split_one {P : Program} {ρ : Ren} (L : Lays.n146 P ρ) (hi9 : (P.info? (ρ.t 9)).map (fun i => (i.zero, i.size, i.bytes)) = some (some (.string ByteArray.empty), 1, 16)) (s : ByteArray) (b : UInt8) (w : World) (hs : s.size < 4294967281) :
    Calls P (ρ.f 146) #[.string s, .string ⟨#[b]⟩] w fun e w' =>
      e = .returned (.slice (some ⟨w.heap.size, 0, none⟩) (Lib.countB s ⟨#[b]⟩ + 1) (Lib.countB s ⟨#[b]⟩ + 1)) ∧ w' = w.alloc (.cells ((Lib.splitB ⟨#[b]⟩ 0 (Lib.countB s ⟨#[b]⟩) s).map Value.string).toArray (ρ.t 9)) := by
  have h1 : 1 ≤ (⟨#[b]⟩ : ByteArray).size := Nat.le_refl _
  have hle := Lib.countB_le ⟨#[b]⟩ h1 s.size s (Nat.le_refl _)
  have hlen := Lib.splitB_all ⟨#[b]⟩ h1 0 _ s rfl
  have hI : ∀ (x : ByteArray) (c : Array Value), x.size ≤ s.size → Calls P (ρ.f 143) #[.string x, .string ⟨#[b]⟩] (w.alloc (.cells c (ρ.t 9))) fun e w' => e = .returned (.int .i64 (Lib.indexB x ⟨#[b]⟩)) ∧ w' = w.alloc (.cells c (ρ.t 9)) := fun x c hx => by
    refine (Any.strings_Index_one { L with } x b _).mono fun e w' ⟨he, hw⟩ => ⟨?_, hw⟩
    rw [he, Lib.indexB, Lib.index_one]
  have hC : Calls P (ρ.f 138) #[.string s, .string ⟨#[b]⟩] w fun e w' => e = .returned (.int .i64 (Lib.countB s ⟨#[b]⟩)) ∧ w' = w := by
    refine (Any.strings_Count_one { L with } s b w).mono fun e w' ⟨he, hw⟩ => ⟨?_, hw⟩
    rw [he]
    show _ = Ending.returned (Value.int .i64 ((Lib.count s.data.toList [b] : Nat) : Int))
    rw [Lib.count_one]
    rfl
  have c := Any.strings_genSplit_core { L with } hi9 s ⟨#[b]⟩ 0 (-1) (Lib.countB s ⟨#[b]⟩ + 1) w hs h1 (Nat.zero_le _) hI hC (by decide) (by decide) (by rw [if_pos (by decide)]; omega)
  rw [Nat.add_sub_cancel, hlen] at c
  have e2 : Lib.cellsOf (Lib.splitB ⟨#[b]⟩ 0 (Lib.countB s ⟨#[b]⟩) s) (Lib.countB s ⟨#[b]⟩ + 1) = ((Lib.splitB ⟨#[b]⟩ 0 (Lib.countB s ⟨#[b]⟩) s).map Value.string).toArray := by rw [← hlen]; exact Lib.cellsOf_full _
  rw [e2] at c
  have t3 := L.t3; have t9 := L.t9; have t31 := L.t31
  have a3 := L.a3; have a9 := L.a9; have a31 := L.a31
  have z3 := L.z3; have v3 := L.v3; have z9 := L.z9; have v9 := L.v9; have z31 := L.z31; have v31 := L.v31
  have e221 : ∀ args w, (callFunc (ρ.f 221) args).run P w = .ok (.enter (ρ.f 221) args) w := enters_of L.f221 (by kernel_rfl) rfl
  go_enter L.f146, Body.n146_ntmps ρ
  go_wp2_with (go_at_fn (ρ.f 221); refine c.mono ?_; rintro e w' ⟨rfl, hw⟩; rw [hw])
  go_ret
  exact ⟨rfl, rfl⟩
end Go.Proofs
namespace Go.Proofs.YtobflnngfochiaaDoor
open Go.RowKit Go.Bo Go.Ab

/-- The pieces between bytes c. -/
def spl (c : UInt8) : List UInt8 → List (List UInt8)
  | [] => [[]]
  | b :: l => if b = c then [] :: spl c l else match spl c l with
    | x :: r => (b :: x) :: r
    | [] => [[b]]
theorem spl_ne (c : UInt8) : ∀ s, spl c s ≠ []
  | [] => by simp [spl]
  | b :: l => by unfold spl; split; simp; split <;> simp
theorem splK_ne (c b : UInt8) (l : List UInt8) (h : b ≠ c) : ∀ k, Lib.splitK [c] 0 k (b :: l) = match Lib.splitK [c] 0 k l with
    | x :: r => (b :: x) :: r
    | [] => [[b]]
  | 0 => rfl
  | k + 1 => by
    have hp : [c].isPrefixOf (b :: l) = false := by simp [List.isPrefixOf]; exact fun e => h e.symm
    simp only [Lib.splitK, Lib.index, hp, Bool.false_eq_true, if_false]
    by_cases hi : (Lib.index l [c] == -1) = true
    · simp [hi]
    · have hn := Lib.index_ge l [c]
      simp only [hi, Bool.false_eq_true, if_false]
      simp at hi
      have h1 : (Lib.index l [c] + 1 == -1) = false := by simp; omega
      obtain ⟨n, hn⟩ : ∃ n : Nat, Lib.index l [c] = n := ⟨(Lib.index l [c]).toNat, by omega⟩
      simp [hn, h1]
      intro h; omega
theorem spl_eq (c : UInt8) : ∀ s, Lib.splitK [c] 0 (Lib.count s [c]) s = spl c s
  | [] => by
    have : Lib.count [] [c] = 0 := by rw [Lib.count_one]; rfl
    rw [this]; rfl
  | b :: l => by
    have ih := spl_eq c l
    by_cases h : b = c
    · subst h
      rw [Lib.count_cons_eq, Nat.add_comm]
      have hp : [b].isPrefixOf (b :: l) = true := by simp [List.isPrefixOf]
      simp only [Lib.splitK, Lib.index, hp, if_true, spl]
      simp [ih]
    · rw [Lib.count_cons_ne _ _ _ h, splK_ne _ _ _ h, ih, spl, if_neg h]
theorem split_c (s : List UInt8) (c : UInt8) (h : s.length ≤ 1000000) : PCalls Tryd.prog 36 [.x (.str s), .x (.str [c])] (.x (.sl (rows rStr (spl c s)))) := by
  intro w st vs hst hvl
  obtain ⟨hsz, hv⟩ := hvl
  obtain ⟨v0, v1, rfl⟩ : ∃ v0 v1, vs = #[v0, v1] := by
    obtain ⟨vl⟩ := vs
    match vl, hsz with
    | [a, b], _ => exact ⟨a, b, rfl⟩
  have h0 := hv 0 _ v0 rfl rfl
  have h1 := hv 1 _ v1 rfl rfl
  clear hv hsz
  cases h0 with
  | x h0 =>
  cases h1 with
  | x h1 =>
  cases h1 with
  | str _ =>
  cases h0 with
  | str _ =>
  have hlen := Lib.splitB_all ⟨#[c]⟩ (Nat.le_refl _) 0 _ (bstr s) rfl
  have hD : (Lib.splitB ⟨#[c]⟩ 0 (Lib.countB (bstr s) ⟨#[c]⟩) (bstr s)).map (·.data.toList) = spl c s := by
    rw [Lib.splitB_data]
    have e : (bstr s).data.toList = s := by simp [bstr]
    show Lib.splitK [c] 0 (Lib.count (bstr s).data.toList [c]) (bstr s).data.toList = _
    rw [e]; exact spl_eq c s
  have hle := Lib.countB_le ⟨#[c]⟩ (Nat.le_refl _) (bstr s).size (bstr s) (Nat.le_refl _)
  have hbs : (bstr s).size = s.length := by simp [bstr, ByteArray.size]
  refine (Any1.strings_Split_one Tryd.lays146 (by kernel_rfl) (bstr s) c w (by omega)).mono ?_
  generalize Lib.splitB ⟨#[c]⟩ 0 (Lib.countB (bstr s) ⟨#[c]⟩) (bstr s) = ps at hlen hD ⊢
  generalize Lib.countB (bstr s) ⟨#[c]⟩ = k at hlen hle ⊢
  rintro e w' ⟨rfl, rfl⟩
  refine ⟨_, fun b o => st b o ∨ (b = w.heap.size ∧ o < k + 1), rfl, ?_, fun _ _ h => .inl h, ?_, ?_⟩
  · exact kept_alloc w _
  · rintro b o (h | ⟨rfl, h⟩)
    · exact .inl h
    · exact .inr ⟨Nat.le_refl _, by simp⟩
  · rw [← hD]
    refine .x (.sl _ _ _ _ 1 (fun i _ => .string (ps[i]?.getD default)) ?_ (Nat.le_refl _) ?_ ?_ ?_ (fun h => by cases h) (fun _ ad h => by cases h; rfl) ?_)
    · rw [rows_len, List.length_map]; exact hlen
    · show k + 1 ≤ maxLen; simp only [maxLen]; omega
    · intro r hr
      simp only [rows, List.mem_map] at hr
      obtain ⟨x, _, rfl⟩ := hr
      rfl
    · intro i j hi hj
      have hj0 : j = 0 := by omega
      subst hj0
      refine ⟨_, _, rfl, .inr ⟨rfl, by omega⟩, ?_⟩
      have hip : i < ps.length := by omega
      rw [show 0 + i * 1 + 0 = i by omega, World.cell?_alloc_at _ _ _ _ rfl]
      simp only [List.getElem?_toArray, List.getElem?_map, List.getElem?_eq_getElem hip, Option.map_some, Option.getD_some]
    · intro i j r x hr hx
      simp only [rows, List.getElem?_map, Option.map_map, Option.map_eq_some_iff] at hr
      obtain ⟨y, hy, rfl⟩ := hr
      simp only [Function.comp, rStr, RC.enc] at hx
      rcases j with _ | j
      · simp at hx; subst hx
        simp only [hy, Option.getD_some]
        have : y = bstr y.data.toList := by simp [bstr]
        conv => rhs; rw [this]
        exact .str _
      · simp at hx
theorem split_enters : Go.Ab.Enters Tryd.prog 36 := Go.Proofs.enters_of Tryd.lays146.f146 (by kernel_rfl) rfl
end Go.Proofs.YtobflnngfochiaaDoor
end
section
/- strings.Join: by the kit's contract. -/
set_option linter.unusedSimpArgs false
set_option linter.unusedVariables false
namespace Go.Proofs.YtobflnngfochiaaDoor
open Go.RowKit Go.Bo Go.Ab

theorem join_map (l : List (List UInt8)) : (l.map bstr).map (·.data.toList) = l := by
  rw [List.map_map]
  conv => rhs; rw [← List.map_id l]
  exact List.map_congr_left fun x _ => by simp [bstr]
theorem join_flat : ∀ l : List (List UInt8), Lib.join l [] = l.flatten
  | [] => rfl
  | [x] => by simp [Lib.join_one]
  | x :: y :: r => by
    have := join_flat (y :: r)
    simp only [Lib.join, List.intercalate, List.intersperse_cons_cons, List.flatten_cons, List.nil_append] at this ⊢
    rw [this]
theorem join_c (l : List (List UInt8)) (sep : List UInt8) (h : (Lib.join l sep).length ≤ 140737488355328) (hl : l.length ≤ 140737488355328) : PCalls Tryd.prog 29 [.x (.sl (rows rStr l)), .x (.str sep)] (.x (.str (Lib.join l sep))) := by
  intro w st vs hst hvl
  obtain ⟨hsz, hv⟩ := hvl
  obtain ⟨v0, v1, rfl⟩ : ∃ v0 v1, vs = #[v0, v1] := by
    obtain ⟨vl⟩ := vs
    match vl, hsz with
    | [a, b], _ => exact ⟨a, b, rfl⟩
  have h0 := hv 0 _ v0 rfl rfl
  have h1 := hv 1 _ v1 rfl rfl
  clear hv hsz
  cases h0 with
  | x h0 =>
  cases h1 with
  | x h1 =>
  cases h1 with
  | str _ =>
  cases h0 with
  | sl _ a n c sz val hn hc hm hsz hcell hnil hsp hval =>
    rw [rows_len] at hn
    subst hn
    match l, h, hl, hc, hsz, hcell, hval with
    | [], _, _, _, _, _, _ =>
      refine (Tryd.strings_Join_none a c (bstr sep) w).mono ?_
      rintro e w' ⟨rfl, rfl⟩
      exact ⟨_, st, rfl, Kept.refl _ _, fun _ _ h => h, fun _ _ h => .inl h, .x (.str [])⟩
    | x :: r, h, hl, hc, hsz, hcell, hval =>
      obtain rfl : 1 = sz := hsz [.str x] (by simp [rows, rStr])
      obtain ⟨b, off, rfl, hs0, _⟩ := hcell 0 0 (by simp) (by omega)
      have hcells : ∀ (j : Nat) y, ((x :: r).map bstr)[j]? = some y → w.cell? ⟨b, off + j, none⟩ = some (.string y) := by
        intro j y hy
        rw [List.getElem?_map] at hy
        obtain ⟨z, hz, rfl⟩ := Option.map_eq_some_iff.1 hy
        have hj : j < (x :: r).length := (List.getElem?_eq_some_iff.1 hz).1
        obtain ⟨b', off', e, _, hw⟩ := hcell j 0 hj (by omega)
        simp only [Option.some.injEq, Addr.mk.injEq] at e
        obtain ⟨rfl, rfl, _⟩ := e
        have hx := hval j 0 [.str z] (.str z) (by simp only [rows, List.getElem?_map, hz]; rfl) rfl
        rw [show off + j = off + j * 1 + 0 by omega, hw]
        generalize val j 0 = u at hx
        cases hx with
        | str _ => rfl
      have hlen : (Lib.join (((x :: r).map bstr).map (·.data.toList)) (bstr sep).data.toList).length ≤ 140737488355328 := by
        rw [join_map]; simpa [bstr] using h
      have hc' : ((x :: r).map bstr).length ≤ c := by rw [List.length_map]; exact hc
      have := Tryd.strings_Join b off c ((x :: r).map bstr) (bstr sep) w hcells (hst _ _ hs0) (by rw [List.length_map]; exact hl) hc' hlen
      rw [List.length_map, join_map] at this
      refine this.mono ?_
      rintro e w' ⟨rfl, hb⟩
      refine ⟨_, st, rfl, Kept.of_none (Ext.grown hb none), fun _ _ h => h, fun _ _ h => .inl h, ?_⟩
      have : (bstr sep).data.toList = sep := by simp [bstr]
      rw [this]
      exact .x (.str _)
theorem join_enters : Go.Ab.Enters Tryd.prog 29 := Go.Proofs.enters_of Tryd.lays156.f156 (by kernel_rfl) rfl
end Go.Proofs.YtobflnngfochiaaDoor
end
section
/- Fold: Lower, Blanks, Fold, digits, Int, number, smaller, Less. -/
set_option linter.unusedSimpArgs false
set_option linter.unusedVariables false
namespace Go.Proofs.YtobflnngfochiaaDoor
open Go.RowKit Go.Bo Go.Ab

/-! ### runes -/
theorem get_bstr (s : List UInt8) (i : Nat) (h : i < s.length) : (bstr s).get! i = s[i] := by
  show (bstr s).data[i]! = _
  simp [bstr, h]
theorem runeAt_low {s : List UInt8} {i : Nat} (h : i < s.length) (hb : s[i].toNat < 128) : runeAt s i = (s[i].toNat, 1) := by
  unfold runeAt
  rw [Lib.decode_at, get_bstr s i h]
  unfold Lib.decodeN
  rw [if_pos hb]
theorem runeAt_high {s : List UInt8} {i : Nat} (h : i < s.length) (hb : ¬ s[i].toNat < 128) : 128 ≤ (runeAt s i).1 ∧ 1 ≤ (runeAt s i).2 := by
  unfold runeAt
  rw [Lib.decode_at, get_bstr s i h]
  rcases Lib.decodeN_shape ((bstr s).size - i) s[i].toNat ((bstr s).get! (i + 1)).toNat ((bstr s).get! (i + 2)).toNat ((bstr s).get! (i + 3)).toNat with ⟨h1, _⟩ | ⟨_, _, _, h1, h2⟩ | ⟨_, _, _, _, h1, _, h2⟩ | ⟨_, _, _, _, _, h1, _, h2⟩ | h2
  · omega
  all_goals (rw [h2]; simp only; omega)
/-! ### small letters -/
def lowC (c : UInt8) : UInt8 := if 65 ≤ c.toNat ∧ c.toNat ≤ 90 then UInt8.ofNat (c.toNat + 32) else c
theorem lowC_up {c : UInt8} (h : 65 ≤ c.toNat ∧ c.toNat ≤ 90) : ((lowC c).toNat : Int) = (c.toNat : Int) - 65 + 97 := by
  unfold lowC; rw [if_pos h]; simp; omega
def lowS (s : List UInt8) : List UInt8 := s.map lowC
def lowL (s : List UInt8) (i : Nat) : List UInt8 := (s.take i).map lowC ++ s.drop i
theorem lowL_len (s : List UInt8) (i : Nat) : (lowL s i).length = s.length := by simp [lowL]; omega
theorem lowL_zero (s : List UInt8) : lowL s 0 = s := by simp [lowL]
theorem lowL_end (s : List UInt8) (i : Nat) (h : s.length ≤ i) : lowL s i = lowS s := by simp [lowL, lowS, List.take_of_length_le h, List.drop_of_length_le h]
theorem lowL_get (s : List UInt8) (i : Nat) (h : i < s.length) : (lowL s i)[i]'(by rw [lowL_len]; exact h) = s[i] := by
  simp [lowL, List.getElem_append, Nat.min_eq_left (Nat.le_of_lt h)]
theorem lowL_set (s : List UInt8) (i : Nat) (h : i < s.length) (c : UInt8) (hc : c = lowC s[i]) : (lowL s i).set i c = lowL s (i + 1) := by
  subst hc
  unfold lowL
  rw [List.take_succ_eq_append_getElem h, List.drop_eq_getElem_cons h, List.set_append_right _ _ (by simp; omega)]
  have hm : i - ((s.take i).map lowC).length = 0 := by simp; omega
  rw [hm, List.set_cons_zero, List.map_append, List.append_assoc]; rfl
theorem lowL_row (s : List UInt8) (i : Nat) (h : i < s.length) : ((lowL s i).map byteRow)[i]? = some [X.int .u8 s[i].toNat] := by
  have h2 : i < (lowL s i).length := by rw [lowL_len]; exact h
  rw [List.getElem?_map, List.getElem?_eq_getElem h2, lowL_get s i h]; rfl
theorem lowL_rset (s : List UInt8) (i : Nat) (h : i < s.length) (hc : 65 ≤ s[i].toNat ∧ s[i].toNat ≤ 90) : ((lowL s i).map byteRow).set i [X.int .u8 (IntKind.u8.wrap (IntKind.u8.wrap ((s[i].toNat : Int) - 65) + 97))] = (lowL s (i + 1)).map byteRow := by
  have e1 : IntKind.u8.wrap ((s[i].toNat : Int) - 65) = (s[i].toNat : Int) - 65 := IntWalk.u8_in _ (by omega)
  have e2 : IntKind.u8.wrap ((s[i].toNat : Int) - 65 + 97) = ((lowC s[i]).toNat : Int) := by rw [IntWalk.u8_in _ (by omega), lowC_up hc]
  rw [e1, e2, ← lowL_set s i h _ rfl, List.map_set]; rfl
theorem lowL_skip (s : List UInt8) (i : Nat) (h : i < s.length) (hc : lowC s[i] = s[i]) : lowL s i = lowL s (i + 1) := by
  unfold lowL
  rw [List.take_succ_eq_append_getElem h, List.map_append, List.append_assoc, List.drop_eq_getElem_cons h]
  simp [hc]
theorem lowC_no {c : UInt8} (h : ¬ (65 ≤ c.toNat ∧ c.toNat ≤ 90)) : lowC c = c := if_neg h
theorem lower_c (s : List UInt8) (hl : s.length ≤ 1000000) : PCalls Tryd.prog 20 [.x (.str s)] (.x (.str (lowS s))) := by
  refine FCalls.pure (fcallsG (fz := true) G_ok (p := i20) rfl _ (Nat.le_of_ble_eq_true rfl) _ (fun C0 E0 => ?_)) rfl
  dsimp only [i20, argsφ]
  have uu := And.intro @lowL_len (And.intro @bytes_all (@bytes_row))
  refine WI.seq ?_
  refine WI.regB noTabs_ok [0] ?_
  refine oS ?_
  refine oN ?_
  refine thenQ_normal ?_
  refine WI.seq ?_
  refine WI.regB noTabs_ok [3] ?_
  refine oS ?_
  refine oG ?_
  refine oS ?_
  refine oN ?_
  refine thenQ_normal ?_
  refine WI.seq ?_
  refine WI.seq ?_
  refine WI.regB noTabs_ok [3, 8, 9, 10] ?_
  refine oS ?_
  refine oG ?_
  refine oS ?_
  refine oN ?_
  refine thenQ_normal ?_
  refine WI.block ?_
  refine WI.loop (fun φ os => ∃ (i : Nat), φ = [(3, .ref 0 s.length 0 s.length), (8, .ref 0 s.length 0 s.length), (9, .x (.int .i64 s.length)), (10, .x (.int .i64 i))] ∧ os = [.rows true 5 1 ((lowL s i).map byteRow)] ∧ i ≤ s.length) (down s.length 10) ?_ (fun φ os hI => ?_)
  · exact ⟨0, rfl, by rw [lowL_zero], by omega⟩
  · obtain ⟨i, rfl, rfl, hi⟩ := hI
    refine WI.seq ?_
    refine WI.regB noTabs_ok [3, 8, 9, 10, 11] ?_
    refine oG ?_
    refine oN ?_
    refine thenQ_normal ?_
    refine WI.seq ?_
    refine WI.cond (b := _) rfl rfl (fun h0 => ?_) (fun h0 => ?_)
    · try simp only [zB] at h0
      refine WI.skip ?_
      refine thenQ_normal ?_
      refine WI.seq ?_
      refine WI.block ?_
      refine WI.seq ?_
      have hi4 : i < s.length := by omega
      have uu := And.intro uu (lowL_row s i hi4)
      have hb8 : s[i].toNat < 256 := UInt8.toNat_lt _
      refine WI.regB noTabs_ok [3, 4, 5, 8, 9, 10] ?_
      refine oS ?_
      iterate 2 refine oG ?_
      iterate 2 refine oS ?_
      refine oN ?_
      refine thenQ_normal ?_
      refine WI.seq ?_
      refine WI.regB noTabs_ok [3, 4, 5, 8, 9, 10, 20] ?_
      refine oS ?_
      refine oG ?_
      refine oS ?_
      iterate 3 refine oG ?_
      refine oN ?_
      refine thenQ_normal ?_
      refine WI.cond (b := _) rfl rfl (fun h1 => ?_) (fun h1 => ?_)
      · try simp only [zB] at h1
        have hcs : 65 ≤ s[i].toNat ∧ s[i].toNat ≤ 90 := by omega
        have uu := And.intro uu (lowL_rset s i hi4 hcs)
        refine WI.regB noTabs_ok [3, 8, 9, 10] ?_
        iterate 3 refine oS ?_
        iterate 4 refine oG ?_
        refine oN ?_
        refine blockQ_normal ?_
        refine thenQ_normal ?_
        refine WI.regB noTabs_ok [3, 8, 9, 10] ?_
        refine oG ?_
        refine oS ?_
        refine oN ?_
        refine thenQ_normal ?_
        exact ⟨⟨i + 1, by first | rfl | simp, by first | rfl | rw [← hset], by omega⟩, by simp [down, Ab.get, D.val, intOf?]; omega⟩
      · try simp only [zB] at h1
        have hcs : ¬ (65 ≤ s[i].toNat ∧ s[i].toNat ≤ 90) := by omega
        have hset := lowL_skip s i hi4 (lowC_no hcs)
        refine WI.skip ?_
        refine blockQ_normal ?_
        refine thenQ_normal ?_
        refine WI.regB noTabs_ok [3, 8, 9, 10] ?_
        refine oG ?_
        refine oS ?_
        refine oN ?_
        refine thenQ_normal ?_
        exact ⟨⟨i + 1, by first | rfl | simp, by first | rfl | rw [← hset], by omega⟩, by simp [down, Ab.get, D.val, intOf?]; omega⟩
    · try simp only [zB] at h0
      refine WI.exit ?_
      refine thenQ_exit ?_
      refine thenQ_exit ?_
      refine blockQ_hit ?_
      refine thenQ_normal ?_
      refine WI.seq ?_
      have e8 : ((lowL s i).map byteRow).take s.length = (lowS s).map byteRow := by rw [List.take_of_length_le (by simp [lowL_len]), lowL_end s i (by omega)]
      have uu := And.intro uu e8
      refine WI.regB noTabs_ok [2] ?_
      refine oS ?_
      refine oG ?_
      refine oS ?_
      refine oN ?_
      refine thenQ_normal ?_
      refine WI.ret ?_
      first | refine lfR ?_ | refine lfR2 ?_
      first | rfl | exact ⟨rfl, rfl⟩ | trivial -- leaf 0
/-! ### blanks -/
theorem cutP_c (s p : List UInt8) : PCalls Tryd.prog 22 [.x (.str s), .x (.str p)] (.tup [.x (.str (Lib.trimPrefix s p)), .x (.bool (Lib.hasPrefix s p))]) := by
  intro w st vs hst hvl
  obtain ⟨hsz, hv⟩ := hvl
  obtain ⟨v0, v1, rfl⟩ : ∃ v0 v1, vs = #[v0, v1] := by
    obtain ⟨vl⟩ := vs
    match vl, hsz with
    | [a, b], _ => exact ⟨a, b, rfl⟩
  have h0 := hv 0 _ v0 rfl rfl
  have h1 := hv 1 _ v1 rfl rfl
  cases h0 with
  | x h0 =>
  cases h1 with
  | x h1 =>
  cases h1 with
  | str _ =>
  cases h0 with
  | str _ =>
  refine (Tryd.strings_CutPrefix (bstr s) (bstr p) w).mono ?_
  rintro e w' ⟨rfl, rfl⟩
  refine ⟨_, st, rfl, Kept.refl _ _, fun _ _ h => h, fun _ _ h => .inl h, ?_⟩
  have e1 : (bstr s).data.toList = s := by simp [bstr]
  have e2 : (bstr p).data.toList = p := by simp [bstr]
  rw [e1, e2]
  exact V.tup2 (V.mkstr _ _ _) _
theorem cutP_enters : Go.Ab.Enters Tryd.prog 22 := Go.Proofs.enters_of Tryd.lays103.f103 (by kernel_rfl) rfl
def cutPG : List D → Option (Bool × D)
  | [.x (.str s), .x (.str p)] => some (true, .tup [.x (.str (Lib.trimPrefix s p)), .x (.bool (Lib.hasPrefix s p))])
  | _ => none
theorem cutPG_ok : ∀ args r, cutPG args = some (true, r) → PCalls Tryd.prog 22 args r := by
  intro args r h
  unfold cutPG at h
  split at h
  · rename_i s p
    simp only [Option.some.injEq, Prod.mk.injEq, Bool.and_eq_true, decide_eq_true_eq, true_and] at h
    obtain rfl := h
    exact (cutP_c s p)
  · cases h
def joinG : List D → Option (Bool × D)
  | [.x (.sl R), .x (.str sep)] => (unrows rStr R).bind fun l => some (decide ((Lib.join l sep).length ≤ 140737488355328 ∧ l.length ≤ 140737488355328), .x (.str (Lib.join l sep)))
  | _ => none
theorem joinG_ok : ∀ args r, joinG args = some (true, r) → PCalls Tryd.prog 29 args r := by
  intro args r h
  unfold joinG at h
  split at h
  · rename_i R sep
    obtain ⟨l, hr0, h⟩ := Option.bind_eq_some_iff.1 h
    simp only [Option.some.injEq, Prod.mk.injEq, Bool.and_eq_true, decide_eq_true_eq, true_and] at h
    obtain ⟨h1, rfl⟩ := h
    rw [← rows_unrows good_rStr hr0]
    exact (join_c l sep h1.1 h1.2)
  · cases h
def splitG : List D → Option (Bool × D)
  | [.x (.str s), .x (.str [c])] => some (decide (s.length ≤ 1000000), .x (.sl (rows rStr (spl c s))))
  | _ => none
theorem splitG_ok : ∀ args r, splitG args = some (true, r) → PCalls Tryd.prog 36 args r := by
  intro args r h
  unfold splitG at h
  split at h
  · rename_i s c
    simp only [Option.some.injEq, Prod.mk.injEq, Bool.and_eq_true, decide_eq_true_eq, true_and] at h
    obtain ⟨h1, rfl⟩ := h
    exact (split_c s c h1)
  · cases h
def words (s : List UInt8) : List (List UInt8) := (spl 32 s).filter fun x => decide (x ≠ [])
def jn : List (List UInt8) → List UInt8
  | [] => []
  | [x] => x
  | x :: y :: r => x ++ 32 :: jn (y :: r)
theorem join_jn : ∀ l, Lib.join l [32] = jn l
  | [] => rfl
  | [x] => by rw [Lib.join_one]; rfl
  | x :: y :: r => by
    have := join_jn (y :: r)
    simp only [Lib.join, List.intercalate, List.intersperse_cons_cons, List.flatten_cons, jn] at this ⊢
    rw [this]; rfl
theorem jn_cons {x : List UInt8} {l : List (List UInt8)} (h : l ≠ []) : jn (x :: l) = x ++ 32 :: jn l := by
  cases l with
  | nil => exact absurd rfl h
  | cons y r => rfl
theorem spl_no (c : UInt8) : ∀ s, ∀ x ∈ spl c s, c ∉ x
  | [], x, h => by simp [spl] at h; subst h; simp
  | b :: l, x, h => by
    have ih := spl_no c l
    unfold spl at h
    split at h
    · rcases List.mem_cons.1 h with rfl | h
      · simp
      · exact ih x h
    · rename_i hb
      split at h
      · rename_i y r he
        rw [he] at ih
        rcases List.mem_cons.1 h with rfl | h
        · simp only [List.mem_cons, not_or]; exact ⟨fun e => hb e.symm, ih y List.mem_cons_self⟩
        · exact ih x (List.mem_cons_of_mem _ h)
      · rename_i he; exact absurd he (spl_ne c l)
theorem spl_pure (c : UInt8) : ∀ x : List UInt8, c ∉ x → spl c x = [x]
  | [], _ => rfl
  | b :: l, h => by
    simp only [List.mem_cons, not_or] at h
    rw [spl, if_neg (fun e => h.1 e.symm), spl_pure c l h.2]
theorem spl_app (c : UInt8) : ∀ (x l : List UInt8), c ∉ x → spl c (x ++ c :: l) = x :: spl c l
  | [], l, _ => by rw [List.nil_append, spl, if_pos rfl]
  | b :: x, l, h => by
    simp only [List.mem_cons, not_or] at h
    rw [List.cons_append, spl, if_neg (fun e => h.1 e.symm), spl_app c x l h.2]
theorem spl_jn : ∀ l : List (List UInt8), l ≠ [] → (∀ x ∈ l, (32 : UInt8) ∉ x) → spl 32 (jn l) = l
  | [x], _, h => spl_pure 32 x (h x List.mem_cons_self)
  | x :: y :: r, _, h => by
    show spl 32 (x ++ 32 :: jn (y :: r)) = _
    rw [spl_app 32 x _ (h x List.mem_cons_self), spl_jn (y :: r) (by simp) (fun z hz => h z (List.mem_cons_of_mem _ hz))]
theorem words_no (s : List UInt8) : ∀ x ∈ words s, (32 : UInt8) ∉ x := fun x hx => spl_no 32 s x (List.mem_filter.1 hx).1
theorem words_jn (s : List UInt8) : words (jn (words s)) = words s := by
  by_cases h : words s = []
  · rw [h]; rfl
  · have := spl_jn (words s) h (words_no s)
    show (spl 32 (jn (words s))).filter _ = _
    rw [this, List.filter_eq_self]
    intro x hx
    exact (List.mem_filter.1 hx).2
def wt (l : List (List UInt8)) : Nat := (l.map fun x => x.length + 1).sum
theorem wt_jn : ∀ l : List (List UInt8), l ≠ [] → (jn l).length + 1 = wt l
  | [x], _ => by simp [jn, wt]
  | x :: y :: r, _ => by
    have := wt_jn (y :: r) (by simp)
    show (x ++ 32 :: jn (y :: r)).length + 1 = (x.length + 1) + wt (y :: r)
    rw [List.length_append, List.length_cons]; omega
theorem wt_spl (c : UInt8) : ∀ s, wt (spl c s) = s.length + 1
  | [] => rfl
  | b :: l => by
    have ih := wt_spl c l
    unfold spl
    split
    · show (0 + 1) + wt (spl c l) = _; rw [ih, List.length_cons]; omega
    · split
      · rename_i y r he
        rw [he] at ih
        have e : wt (y :: r) = (y.length + 1) + wt r := rfl
        have e2 : wt ((b :: y) :: r) = (y.length + 1 + 1) + wt r := rfl
        rw [List.length_cons]; omega
      · rename_i he; exact absurd he (spl_ne c l)
theorem wt_filter (p : List UInt8 → Bool) : ∀ l, wt (l.filter p) ≤ wt l
  | [] => Nat.le_refl _
  | x :: l => by
    have := wt_filter p l
    have e : wt (x :: l) = (x.length + 1) + wt l := rfl
    rw [List.filter_cons]
    split
    · have e : wt (x :: l.filter p) = (x.length + 1) + wt (l.filter p) := rfl
      omega
    · omega
theorem wt_len : ∀ l : List (List UInt8), l.length ≤ wt l
  | [] => Nat.le_refl _
  | x :: l => by
    have := wt_len l
    have e : wt (x :: l) = (x.length + 1) + wt l := rfl
    rw [List.length_cons]; omega
theorem spl_len (c : UInt8) (s : List UInt8) : (spl c s).length ≤ s.length + 1 := by have := wt_len (spl c s); rw [wt_spl] at this; exact this
theorem words_len (s : List UInt8) : (words s).length ≤ s.length + 1 := Nat.le_trans (List.length_filter_le _ _) (spl_len 32 s)
theorem blk_len (s : List UInt8) : (jn (words s)).length ≤ s.length := by
  by_cases h : words s = []
  · rw [h]; simp [jn]
  · have h1 := wt_jn _ h
    have h2 : wt (words s) ≤ _ := wt_filter _ _
    rw [wt_spl] at h2
    omega
def blk (s : List UInt8) : List UInt8 := jn (words s)
theorem filter_snoc (x : List UInt8) (l : List (List UInt8)) (p : List UInt8 → Bool) : (l ++ [x]).filter p = if p x then l.filter p ++ [x] else l.filter p := by
  rw [List.filter_append, List.filter_cons, List.filter_nil]; split <;> simp
def tabFo1 : Tabs := addQ (addQ (addT (addQ (noTabs) 29 joinG) 29 (frzT joinG)) 36 splitG) 22 cutPG
theorem tabFo1_ok : SsOk Tryd.prog tabFo1 := addQ_ok (addQ_ok (addT_ok (addQ_ok (noTabs_ok) join_enters joinG_ok) join_enters (frzT_ok joinG_ok)) split_enters splitG_ok) cutP_enters cutPG_ok
theorem tabFo1_q29 (a : List D) : tabFo1.q 29 a = joinG a := rfl
theorem tabFo1_t29 (a : List D) (o : List Ob) : tabFo1.t 29 a o = liftT (frzT joinG) a o := rfl
theorem tabFo1_q36 (a : List D) : tabFo1.q 36 a = splitG a := rfl
theorem tabFo1_q22 (a : List D) : tabFo1.q 22 a = cutPG a := rfl
theorem tabFo1_r (f : FuncId) (a : List D) (o : List Ob) : tabFo1.r f a o = none := rfl
theorem tabFo1_k (f : FuncId) (a : List D) (o : List Ob) : tabFo1.k f a o = none := rfl
theorem blanks_c (s : List UInt8) (hl : s.length ≤ 1000000) : PCalls Tryd.prog 21 [.x (.str s)] (.x (.str (blk s))) := by
  have hsl := spl_len 32 s
  refine FCalls.pure (fcallsG (fz := true) G_ok (p := i21) rfl _ (Nat.le_of_ble_eq_true rfl) _ (fun C0 E0 => ?_)) rfl
  dsimp only [i21, argsφ]
  have uu := And.intro @joinG.eq_1 (And.intro @joinG.eq_2 (And.intro @splitG.eq_1 (And.intro @splitG.eq_2 (And.intro @tabFo1_r (And.intro @tabFo1_k (And.intro @tabFo1_q22 (And.intro @tabFo1_q29 (And.intro @tabFo1_q36 (And.intro @tabFo1_t29 (And.intro @cutPG.eq_1 (And.intro @cutPG.eq_2 (@frzT.eq_1))))))))))))
  refine WI.seq ?_
  refine WI.regB tabFo1_ok [0] ?_
  refine oS ?_
  refine oN ?_
  refine thenQ_normal ?_
  refine WI.seq ?_
  refine WI.regB tabFo1_ok [0, 3] ?_
  refine oS ?_
  refine oN ?_
  refine thenQ_normal ?_
  refine WI.seq ?_
  refine WI.seq ?_
  refine WI.regB tabFo1_ok [3, 7, 8, 9] ?_
  refine oS ?_
  refine oC (hok := by first | with_reducible rfl | omega | (rw [List.take_of_length_le (Nat.le_refl _)]; exact decide_eq_true ⟨hoj2, by omega⟩) | (simp; done) | (simp; omega) | rfl) ?_
  refine oG (hok := by first | with_reducible rfl | omega | (rw [List.take_of_length_le (Nat.le_refl _)]; exact decide_eq_true ⟨hoj2, by omega⟩) | (simp; done) | (simp; omega) | rfl) ?_
  refine oS ?_
  refine oN ?_
  refine thenQ_normal ?_
  refine WI.block ?_
  refine WI.ownA 3 9 1 ?_
  refine WI.loop (fun φ os => ∃ (j : Nat) (o : List (List UInt8)), φ = [(3, .ref 0 o.length 0 o.length), (7, .x (.sl (rows rStr (spl 32 s)))), (8, .x (.int .i64 (spl 32 s).length)), (9, .x (.int .i64 j))] ∧ os = [.rows false 9 1 (rows rStr o)] ∧ j ≤ (spl 32 s).length ∧ o = ((spl 32 s).take j).filter (fun x => decide (x ≠ [])) ∧ o.length ≤ j) (down (spl 32 s).length 9) ?_ (fun φ os hI => ?_)
  · exact ⟨0, [], rfl, rfl, by omega, rfl, by simp⟩
  · obtain ⟨j, o, rfl, rfl, hj, ho, hoj⟩ := hI
    refine WI.seq ?_
    refine WI.regB tabFo1_ok [3, 7, 8, 9, 10] ?_
    refine oG (hok := by first | with_reducible rfl | omega | (rw [List.take_of_length_le (Nat.le_refl _)]; exact decide_eq_true ⟨hoj2, by omega⟩) | (simp; done) | (simp; omega) | rfl) ?_
    refine oN ?_
    refine thenQ_normal ?_
    refine WI.seq ?_
    refine WI.cond (b := _) rfl rfl (fun h0 => ?_) (fun h0 => ?_)
    · try simp only [zB] at h0
      refine WI.skip ?_
      refine thenQ_normal ?_
      refine WI.seq ?_
      refine WI.block ?_
      refine WI.seq ?_
      have hj4 : j < (spl 32 s).length := by omega
      refine WI.regB tabFo1_ok [3, 5, 7, 8, 9] ?_
      iterate 2 refine oG (hok := by first | with_reducible rfl | omega | (rw [List.take_of_length_le (Nat.le_refl _)]; exact decide_eq_true ⟨hoj2, by omega⟩) | (simp; done) | (simp; omega) | rfl) ?_
      refine oS ?_
      refine oN ?_
      refine thenQ_normal ?_
      refine WI.seq ?_
      refine WI.regB tabFo1_ok [3, 5, 7, 8, 9, 14] ?_
      refine oS ?_
      refine oG (hok := by first | with_reducible rfl | omega | (rw [List.take_of_length_le (Nat.le_refl _)]; exact decide_eq_true ⟨hoj2, by omega⟩) | (simp; done) | (simp; omega) | rfl) ?_
      refine oN ?_
      refine thenQ_normal ?_
      refine WI.cond (b := _) rfl rfl (fun h1 => ?_) (fun h1 => ?_)
      · try simp only [zB] at h1
        have ho2 : o ++ [(spl 32 s)[j]] = ((spl 32 s).take (j + 1)).filter (fun x => decide (x ≠ [])) := by rw [List.take_succ_eq_append_getElem hj4, filter_snoc, ← ho, if_pos (by simpa using h1)]
        refine WI.post ?_
        refine WI.regB tabFo1_ok [3, 7, 8, 9] ?_
        iterate 2 refine oS ?_
        iterate 2 refine oG (hok := by first | with_reducible rfl | omega | (rw [List.take_of_length_le (Nat.le_refl _)]; exact decide_eq_true ⟨hoj2, by omega⟩) | (simp; done) | (simp; omega) | rfl) ?_
        refine oS ?_
        refine oP ?_
        refine pPick [0] ?_
        refine pEnd ?_
        refine blockQ_normal ?_
        refine thenQ_normal ?_
        refine WI.regB tabFo1_ok [3, 7, 8, 9] ?_
        refine oG (hok := by first | with_reducible rfl | omega | (rw [List.take_of_length_le (Nat.le_refl _)]; exact decide_eq_true ⟨hoj2, by omega⟩) | (simp; done) | (simp; omega) | rfl) ?_
        refine oS ?_
        refine oN ?_
        refine thenQ_normal ?_
        first | exact ⟨⟨j + 1, o ++ [(spl 32 s)[j]], by first | rfl | simp, by rw [← rows_str], by omega, ho2, by simp; omega⟩, by simp [down, Ab.get, D.val, intOf?]; omega⟩ | exact ⟨⟨j + 1, o, by first | rfl | simp, rfl, by omega, ho2, by omega⟩, by simp [down, Ab.get, D.val, intOf?]; omega⟩
      · try simp only [zB] at h1
        have ho2 : o = ((spl 32 s).take (j + 1)).filter (fun x => decide (x ≠ [])) := by rw [List.take_succ_eq_append_getElem hj4, filter_snoc, ← ho, if_neg (by simpa using h1)]
        refine WI.skip ?_
        refine blockQ_normal ?_
        refine thenQ_normal ?_
        refine WI.regB tabFo1_ok [3, 7, 8, 9] ?_
        refine oG (hok := by first | with_reducible rfl | omega | (rw [List.take_of_length_le (Nat.le_refl _)]; exact decide_eq_true ⟨hoj2, by omega⟩) | (simp; done) | (simp; omega) | rfl) ?_
        refine oS ?_
        refine oN ?_
        refine thenQ_normal ?_
        first | exact ⟨⟨j + 1, o ++ [(spl 32 s)[j]], by first | rfl | simp, by rw [← rows_str], by omega, ho2, by simp; omega⟩, by simp [down, Ab.get, D.val, intOf?]; omega⟩ | exact ⟨⟨j + 1, o, by first | rfl | simp, rfl, by omega, ho2, by omega⟩, by simp [down, Ab.get, D.val, intOf?]; omega⟩
    · try simp only [zB] at h0
      refine WI.exit ?_
      refine thenQ_exit ?_
      refine thenQ_exit ?_
      refine blockQ_hit ?_
      refine thenQ_normal ?_
      refine WI.seq ?_
      have hoe : o = words s := by rw [ho, List.take_of_length_le (by omega)]; rfl
      have hwl := words_len s
      have hoj2 : (Lib.join o [32]).length ≤ 140737488355328 := by rw [hoe, join_jn]; have := blk_len s; omega
      refine WI.regB tabFo1_ok [2] ?_
      refine oS ?_
      refine oC (hok := by first | with_reducible rfl | omega | (rw [List.take_of_length_le (Nat.le_refl _)]; exact decide_eq_true ⟨hoj2, by omega⟩) | (simp; done) | (simp; omega) | rfl) ?_
      refine oS ?_
      refine oN ?_
      refine thenQ_normal ?_
      refine WI.ret ?_
      first | refine lfR ?_ | refine lfR2 ?_
      rw [hoe, join_jn]; rfl -- leaf 0
def lowerG : List D → Option (Bool × D)
  | [.x (.str s)] => some (decide (s.length ≤ 1000000), .x (.str (lowS s)))
  | _ => none
theorem lowerG_ok : ∀ args r, lowerG args = some (true, r) → PCalls Tryd.prog 20 args r := by
  intro args r h
  unfold lowerG at h
  split at h
  · rename_i s
    simp only [Option.some.injEq, Prod.mk.injEq, Bool.and_eq_true, decide_eq_true_eq, true_and] at h
    obtain ⟨h1, rfl⟩ := h
    exact (lower_c s h1)
  · cases h
def blanksG : List D → Option (Bool × D)
  | [.x (.str s)] => some (decide (s.length ≤ 1000000), .x (.str (blk s)))
  | _ => none
theorem blanksG_ok : ∀ args r, blanksG args = some (true, r) → PCalls Tryd.prog 21 args r := by
  intro args r h
  unfold blanksG at h
  split at h
  · rename_i s
    simp only [Option.some.injEq, Prod.mk.injEq, Bool.and_eq_true, decide_eq_true_eq, true_and] at h
    obtain ⟨h1, rfl⟩ := h
    exact (blanks_c s h1)
  · cases h
def tabFo2 : Tabs := addQ (addQ (addQ (noTabs) 20 lowerG) 21 blanksG) 22 cutPG
theorem tabFo2_ok : SsOk Tryd.prog tabFo2 := addQ_ok (addQ_ok (addQ_ok (noTabs_ok) (G_enters G_ok (p := i20) rfl) lowerG_ok) (G_enters G_ok (p := i21) rfl) blanksG_ok) cutP_enters cutPG_ok
theorem tabFo2_q20 (a : List D) : tabFo2.q 20 a = lowerG a := rfl
theorem tabFo2_q21 (a : List D) : tabFo2.q 21 a = blanksG a := rfl
theorem tabFo2_q22 (a : List D) : tabFo2.q 22 a = cutPG a := rfl
theorem tabFo2_r (f : FuncId) (a : List D) (o : List Ob) : tabFo2.r f a o = none := rfl
theorem tabFo2_k (f : FuncId) (a : List D) (o : List Ob) : tabFo2.k f a o = none := rfl
def fld (s : List UInt8) : List UInt8 := lowS (blk s)
theorem fold_c (s : List UInt8) (hl : s.length ≤ 1000000) : PCalls Tryd.prog 8 [.x (.str s)] (.x (.str (fld s))) := by
  have hb : (blk s).length ≤ s.length := blk_len s
  refine FCalls.pure (fcallsG (fz := true) G_ok (p := i8) rfl _ (Nat.le_of_ble_eq_true rfl) _ (fun C0 E0 => ?_)) rfl
  dsimp only [i8, argsφ]
  have uu := And.intro @lowerG.eq_1 (And.intro @lowerG.eq_2 (And.intro @blanksG.eq_1 (And.intro @blanksG.eq_2 (And.intro @tabFo2_r (And.intro @tabFo2_k (And.intro @tabFo2_q20 (And.intro @tabFo2_q21 (And.intro @tabFo2_q22 (And.intro @cutPG.eq_1 (@cutPG.eq_2))))))))))
  refine WI.seq ?_
  refine WI.regB tabFo2_ok [0] ?_
  refine oS ?_
  refine oN ?_
  refine thenQ_normal ?_
  refine WI.seq ?_
  refine WI.regB tabFo2_ok [2] ?_
  refine oS ?_
  iterate 2 refine oC ?_
  refine oS ?_
  refine oN ?_
  refine thenQ_normal ?_
  refine WI.ret ?_
  first | refine lfR ?_ | refine lfR2 ?_
  first | rfl | exact ⟨rfl, rfl⟩ | trivial -- leaf 0
/-! ### numbers -/
def isDg (b : UInt8) : Bool := decide (48 ≤ b.toNat ∧ b.toNat ≤ 57)
def dgs (s : List UInt8) : Bool := decide (s ≠ [] ∧ s.length ≤ 32) && s.all isDg
theorem all_take (s : List UInt8) (p : UInt8 → Bool) (i : Nat) (h : i < s.length) : (s.take (i + 1)).all p = ((s.take i).all p && p s[i]) := by
  rw [List.take_succ_eq_append_getElem h, List.all_append]; simp
theorem not_all (s : List UInt8) (p : UInt8 → Bool) (i : Nat) (h : i < s.length) (hp : p s[i] = false) : s.all p = false := by
  rw [List.all_eq_false]; exact ⟨s[i], List.getElem_mem h, by rw [hp]; simp⟩
theorem rune_dg {s : List UInt8} {i : Nat} (h : i < s.length) (hr : 48 ≤ ((runeAt s i).1 : Int) ∧ ((runeAt s i).1 : Int) ≤ 57) : (runeAt s i).2 = 1 ∧ isDg s[i] = true := by
  by_cases hb : s[i].toNat < 128
  · rw [runeAt_low h hb] at hr ⊢
    simp only at hr
    exact ⟨rfl, decide_eq_true (by omega)⟩
  · have := (runeAt_high h hb).1; omega
theorem rune_no {s : List UInt8} {i : Nat} (h : i < s.length) (hr : ¬ (48 ≤ ((runeAt s i).1 : Int) ∧ ((runeAt s i).1 : Int) ≤ 57)) : isDg s[i] = false := by
  refine decide_eq_false (fun hd => hr ?_)
  rw [runeAt_low h (by omega)]
  simp only; omega
theorem digits_c (s : List UInt8) : PCalls Tryd.prog 23 [.x (.str s)] (.x (.bool (dgs s))) := by
  refine FCalls.pure (fcallsG (fz := true) G_ok (p := i23) rfl _ (Nat.le_of_ble_eq_true rfl) _ (fun C0 E0 => ?_)) rfl
  dsimp only [i23, argsφ]
  have uu := trivial
  refine WI.seq ?_
  refine WI.regB noTabs_ok [0] ?_
  refine oS ?_
  refine oN ?_
  refine thenQ_normal ?_
  refine WI.seq ?_
  refine WI.seq ?_
  refine WI.regB noTabs_ok [0, 6] ?_
  refine oS ?_
  refine oG ?_
  refine oN ?_
  refine thenQ_normal ?_
  refine WI.block ?_
  refine WI.loop (fun φ os => ∃ (i : Nat), φ = [(0, .x (.str s)), (6, .iref 0 0)] ∧ os = [.sit s i] ∧ i ≤ s.length ∧ (s.take i).all isDg = true) (strI s.length 0) ?_ (fun φ os hI => ?_)
  · exact ⟨0, rfl, rfl, by omega, rfl⟩
  · obtain ⟨i, rfl, rfl, hi, ha⟩ := hI
    refine WI.seq ?_
    refine WI.nextSA [0, 6, 7, 8] (fun hn2 => ?_) (fun hn2 => ?_)
    · have ha2 : s.all isDg = true := by rw [← ha, List.take_of_length_le (by omega)]
      have hdg : dgs s = (!(s == []) && decide ((s.length : Int) ≤ 32)) := by unfold dgs; rw [ha2, Bool.and_true]; by_cases h1 : s = [] <;> by_cases h2 : s.length ≤ 32 <;> simp [h1, h2] <;> omega
      refine thenQ_normal ?_
      refine WI.seq ?_
      refine WI.cond (b := _) rfl rfl (fun h0 => ?_) (fun h0 => ?_)
      · exact absurd h0 (by decide)
      · try simp only [zB] at h0
        refine WI.exit ?_
        refine thenQ_exit ?_
        refine thenQ_exit ?_
        refine blockQ_hit ?_
        refine thenQ_normal ?_
        refine WI.seq ?_
        refine WI.regB noTabs_ok [2] ?_
        refine oS ?_
        refine oG ?_
        refine oS ?_
        iterate 4 refine oG ?_
        refine oS ?_
        refine oN ?_
        refine thenQ_normal ?_
        refine WI.ret ?_
        first | refine lfR ?_ | refine lfR2 ?_
        rw [hdg] -- leaf 0
    · refine thenQ_normal ?_
      refine WI.seq ?_
      refine WI.cond (b := _) rfl rfl (fun h0 => ?_) (fun h0 => ?_)
      · try simp only [zB] at h0
        refine WI.skip ?_
        refine thenQ_normal ?_
        refine WI.block ?_
        refine WI.seq ?_
        refine WI.regB noTabs_ok [0, 4, 6] ?_
        refine oG ?_
        refine oS ?_
        refine oN ?_
        refine thenQ_normal ?_
        refine WI.seq ?_
        refine WI.regB noTabs_ok [0, 6, 15] ?_
        refine oS ?_
        refine oG ?_
        refine oS ?_
        iterate 3 refine oG ?_
        refine oN ?_
        refine thenQ_normal ?_
        refine WI.cond (b := _) rfl rfl (fun h1 => ?_) (fun h1 => ?_)
        · try simp only [zB] at h1
          have hd := not_all s isDg i hn2 (rune_no hn2 (by omega))
          have hdg : dgs s = false := by unfold dgs; rw [hd, Bool.and_false]
          refine WI.seq ?_
          refine WI.regB noTabs_ok [2] ?_
          refine oS ?_
          refine oN ?_
          refine thenQ_normal ?_
          refine WI.ret ?_
          refine blockQ_ret ?_
          refine thenQ_ret ?_
          refine blockQ_ret ?_
          refine thenQ_ret ?_
          first | refine lfR ?_ | refine lfR2 ?_
          rw [hdg] -- leaf 1
        · try simp only [zB] at h1
          obtain ⟨hw, hdd⟩ := rune_dg hn2 (by omega)
          have ha2 : (s.take (i + 1)).all isDg = true := by rw [all_take s isDg i hn2, ha, hdd]; rfl
          refine WI.orderA [0, 6] ?_
          refine WI.skip ?_
          refine blockQ_normal ?_
          refine thenQ_normal ?_
          exact ⟨⟨i + 1, by first | rfl | simp, by first | rfl | simp [hw], by omega, ha2⟩, by simp [strI, hw]; omega⟩
      · exact absurd h0 (by decide)
def digitsG : List D → Option (Bool × D)
  | [.x (.str s)] => some (true, .x (.bool (dgs s)))
  | _ => none
theorem digitsG_ok : ∀ args r, digitsG args = some (true, r) → PCalls Tryd.prog 23 args r := by
  intro args r h
  unfold digitsG at h
  split at h
  · rename_i s
    simp only [Option.some.injEq, Prod.mk.injEq, Bool.and_eq_true, decide_eq_true_eq, true_and] at h
    obtain rfl := h
    exact (digits_c s)
  · cases h
def tabFo3 : Tabs := addQ (addQ (noTabs) 23 digitsG) 22 cutPG
theorem tabFo3_ok : SsOk Tryd.prog tabFo3 := addQ_ok (addQ_ok (noTabs_ok) (G_enters G_ok (p := i23) rfl) digitsG_ok) cutP_enters cutPG_ok
theorem tabFo3_q23 (a : List D) : tabFo3.q 23 a = digitsG a := rfl
theorem tabFo3_q22 (a : List D) : tabFo3.q 22 a = cutPG a := rfl
theorem tabFo3_r (f : FuncId) (a : List D) (o : List Ob) : tabFo3.r f a o = none := rfl
theorem tabFo3_k (f : FuncId) (a : List D) (o : List Ob) : tabFo3.k f a o = none := rfl
/-- Without noughts ahead. -/
def stp : List UInt8 → List UInt8
  | [] => []
  | [b] => [b]
  | b :: c :: l => if b = 48 then stp (c :: l) else b :: c :: l
theorem stp_step (s : List UInt8) (h : 1 < s.length) (h0 : s[0] = 48) : stp s = stp (s.drop 1) := by
  match s, h with
  | b :: c :: l, _ => exact if_pos h0
theorem stp_stop (s : List UInt8) (h : ¬ (1 < s.length ∧ ∀ (h : 0 < s.length), s[0] = 48)) : stp s = s := by
  match s with
  | [] => rfl
  | [b] => rfl
  | b :: c :: l => rw [stp, if_neg]; intro e; exact h ⟨by simp, fun _ => e⟩
def tail05 (s : List UInt8) : List UInt8 := Lib.trimPrefix s [45]
def neg05 (s : List UInt8) : Bool := Lib.hasPrefix s [45]
def int05 (s : List UInt8) : List UInt8 × Bool :=
  if dgs (tail05 s) then (if neg05 s ∧ stp (tail05 s) ≠ [48] then 45 :: stp (tail05 s) else stp (tail05 s), true) else ([], false)
theorem b48 {b : UInt8} : b = 48 ↔ (b.toNat : Int) = 48 := ⟨fun h => by rw [h]; rfl, fun h => UInt8.toNat_inj.1 (by show b.toNat = 48; omega)⟩
theorem gd0 (t : List UInt8) (h : 0 < t.length) : t.getD 0 0 = t[0] := by simp [h]
theorem int_c (s : List UInt8) : PCalls Tryd.prog 9 [.x (.str s)] (.tup [.x (.str (int05 s).1), .x (.bool (int05 s).2)]) := by
  cases hd : dgs (tail05 s) with
  | false =>
    have hi : int05 s = ([], false) := by unfold int05; rw [if_neg (by rw [hd]; simp)]
    rw [hi]
    unfold tail05 at hd
    refine FCalls.pure (fcallsG (fz := true) G_ok (p := i9) rfl _ (Nat.le_of_ble_eq_true rfl) _ (fun C0 E0 => ?_)) rfl
    dsimp only [i9, argsφ]
    have uu := And.intro @digitsG.eq_1 (And.intro @digitsG.eq_2 (And.intro @cutPG.eq_1 (And.intro @cutPG.eq_2 (And.intro hd (And.intro @tabFo3_r (And.intro @tabFo3_k (And.intro @tabFo3_q22 (@tabFo3_q23))))))))
    refine WI.seq ?_
    refine WI.regB tabFo3_ok [0] ?_
    iterate 2 refine oS ?_
    refine oN ?_
    refine thenQ_normal ?_
    refine WI.seq ?_
    refine WI.regB tabFo3_ok [4, 5] ?_
    refine oS ?_
    refine oC ?_
    refine oS ?_
    iterate 2 refine oG ?_
    iterate 2 refine oS ?_
    refine oN ?_
    refine thenQ_normal ?_
    refine WI.seq ?_
    refine WI.seq ?_
    refine WI.regB tabFo3_ok [4, 5, 13] ?_
    refine oS ?_
    refine oC ?_
    refine oG ?_
    refine oN ?_
    refine thenQ_normal ?_
    refine WI.cond (b := _) rfl rfl (fun h0 => ?_) (fun h0 => ?_)
    · try simp only [zB] at h0
      refine WI.seq ?_
      refine WI.regB tabFo3_ok [2, 3] ?_
      iterate 2 refine oS ?_
      refine oN ?_
      refine thenQ_normal ?_
      refine WI.ret ?_
      refine thenQ_ret ?_
      first | refine lfR ?_ | refine lfR2 ?_
      rfl -- leaf 0
    · exfalso
      simp at h0
  | true =>
    unfold tail05 at hd
    have hd32 : (Lib.trimPrefix s [45]).length ≤ 32 := by
      unfold dgs at hd
      rw [Bool.and_eq_true] at hd
      exact (of_decide_eq_true hd.1).2
    have hi : int05 s = (if neg05 s ∧ stp (tail05 s) ≠ [48] then 45 :: stp (tail05 s) else stp (tail05 s), true) := by have hd2 : dgs (tail05 s) = true := hd; unfold int05; rw [if_pos hd2]
    unfold tail05 neg05 at hi
    refine FCalls.pure (fcallsG (fz := true) G_ok (p := i9) rfl _ (Nat.le_of_ble_eq_true rfl) _ (fun C0 E0 => ?_)) rfl
    dsimp only [i9, argsφ]
    have uu := And.intro @digitsG.eq_1 (And.intro @digitsG.eq_2 (And.intro @cutPG.eq_1 (And.intro @cutPG.eq_2 (And.intro hd (And.intro @tabFo3_r (And.intro @tabFo3_k (And.intro @tabFo3_q22 (@tabFo3_q23))))))))
    refine WI.seq ?_
    refine WI.regB tabFo3_ok [0] ?_
    iterate 2 refine oS ?_
    refine oN ?_
    refine thenQ_normal ?_
    refine WI.seq ?_
    refine WI.regB tabFo3_ok [4, 5] ?_
    refine oS ?_
    refine oC ?_
    refine oS ?_
    iterate 2 refine oG ?_
    iterate 2 refine oS ?_
    refine oN ?_
    refine thenQ_normal ?_
    refine WI.seq ?_
    refine WI.seq ?_
    refine WI.regB tabFo3_ok [4, 5, 13] ?_
    refine oS ?_
    refine oC ?_
    refine oG ?_
    refine oN ?_
    refine thenQ_normal ?_
    refine WI.cond (b := _) rfl rfl (fun h0 => ?_) (fun h0 => ?_)
    · exfalso
      simp at h0
    · try simp only [zB] at h0
      refine WI.skip ?_
      refine thenQ_normal ?_
      refine WI.seq ?_
      refine WI.block ?_
      refine WI.orderA [4, 5] ?_
      refine WI.loop (fun φ os => ∃ (t : List UInt8), φ = [(4, .x (.str t)), (5, .x (.bool (Lib.hasPrefix s [45])))] ∧ os = [] ∧ stp t = stp (Lib.trimPrefix s [45]) ∧ t.length ≤ 32) (fun φ _ => match φ with | (_, .x (.str t)) :: _ => t.length | _ => 0) ?_ (fun φ os hI => ?_)
      · exact ⟨_, rfl, rfl, rfl, hd32⟩
      · obtain ⟨t, rfl, rfl, ht, htl⟩ := hI
        refine WI.seq ?_
        refine WI.seq ?_
        by_cases hl1 : 1 < t.length
        · have hk : t[0]? = some t[0] := List.getElem?_eq_getElem (by omega)
          have hdl := decide_eq_true (show (1 : Int) < (t.length : Int) by omega)
          have uu := And.intro uu (And.intro hk hdl)
          refine WI.regB tabFo3_ok [4, 5, 21] ?_
          refine oS ?_
          iterate 2 refine oG ?_
          refine oS ?_
          iterate 4 refine oG ?_
          refine oN ?_
          refine thenQ_normal ?_
          refine WI.cond (b := _) rfl rfl (fun h1 => ?_) (fun h1 => ?_)
          · try simp only [zB] at h1
            have ht2 : stp (t.drop 1) = stp (Lib.trimPrefix s [45]) := by rw [← ht, stp_step t hl1 ((gd0 t (by omega)).symm.trans (b48.2 h1))]
            refine WI.skip ?_
            refine thenQ_normal ?_
            refine WI.block ?_
            refine WI.regB tabFo3_ok [4, 5] ?_
            refine oS ?_
            refine oG ?_
            refine oS ?_
            refine oN ?_
            refine blockQ_normal ?_
            refine thenQ_normal ?_
            exact ⟨⟨t.drop 1, rfl, rfl, ht2, by rw [List.length_drop]; omega⟩, by simp; omega⟩
          · try simp only [zB] at h1
            have hts : stp t = t := stp_stop t (fun hh => h1 (b48.1 ((gd0 t (by omega)).trans (hh.2 (by omega)))))
            have htt := ht.symm.trans hts
            refine WI.exit ?_
            refine thenQ_exit ?_
            refine thenQ_exit ?_
            refine blockQ_hit ?_
            refine thenQ_normal ?_
            refine WI.seq ?_
            refine WI.seq ?_
            refine WI.regB tabFo3_ok [4, 28] ?_
            iterate 2 refine oS ?_
            iterate 3 refine oG ?_
            refine oN ?_
            refine thenQ_normal ?_
            refine WI.cond (b := _) rfl rfl (fun h2 => ?_) (fun h2 => ?_)
            · try simp only [zB] at h2
              refine WI.regB tabFo3_ok [4] ?_
              refine oS ?_
              refine oG ?_
              refine oS ?_
              refine oN ?_
              refine thenQ_normal ?_
              refine WI.seq ?_
              refine WI.regB tabFo3_ok [2, 3] ?_
              iterate 3 refine oS ?_
              refine oN ?_
              refine thenQ_normal ?_
              refine WI.ret ?_
              first | refine lfR ?_ | refine lfR2 ?_
              rw [hi, htt]; first | (rw [if_pos ⟨h2.1, h2.2⟩]; done) | (rw [if_pos ⟨h2.1, h2.2⟩]; rfl) | (rw [if_neg (by rcases h2 with h2 | h2 <;> simp [h2])]; done) | (rw [if_neg (by rcases h2 with h2 | h2 <;> simp [h2])]; rfl) -- leaf 0
            · try simp only [zB] at h2
              refine WI.skip ?_
              refine thenQ_normal ?_
              refine WI.seq ?_
              refine WI.regB tabFo3_ok [2, 3] ?_
              iterate 3 refine oS ?_
              refine oN ?_
              refine thenQ_normal ?_
              refine WI.ret ?_
              first | refine lfR ?_ | refine lfR2 ?_
              rw [hi, htt]; first | (rw [if_pos ⟨h2.1, h2.2⟩]; done) | (rw [if_pos ⟨h2.1, h2.2⟩]; rfl) | (rw [if_neg (by rcases h2 with h2 | h2 <;> simp [h2])]; done) | (rw [if_neg (by rcases h2 with h2 | h2 <;> simp [h2])]; rfl) -- leaf 1
        · have hdl := decide_eq_false (show ¬ (1 : Int) < (t.length : Int) by omega)
          have uu := And.intro uu hdl
          refine WI.regB tabFo3_ok [4, 5, 21] ?_
          refine oS ?_
          iterate 2 refine oG ?_
          refine oS ?_
          iterate 4 refine oG ?_
          refine oN ?_
          refine thenQ_normal ?_
          refine WI.cond (b := _) rfl rfl (fun h1 => ?_) (fun h1 => ?_)
          · exfalso
            simp at h1
          · try simp only [zB] at h1
            have hts : stp t = t := stp_stop t (fun hh => hl1 hh.1)
            have htt := ht.symm.trans hts
            refine WI.exit ?_
            refine thenQ_exit ?_
            refine thenQ_exit ?_
            refine blockQ_hit ?_
            refine thenQ_normal ?_
            refine WI.seq ?_
            refine WI.seq ?_
            refine WI.regB tabFo3_ok [4, 28] ?_
            iterate 2 refine oS ?_
            iterate 3 refine oG ?_
            refine oN ?_
            refine thenQ_normal ?_
            refine WI.cond (b := _) rfl rfl (fun h2 => ?_) (fun h2 => ?_)
            · try simp only [zB] at h2
              refine WI.regB tabFo3_ok [4] ?_
              refine oS ?_
              refine oG ?_
              refine oS ?_
              refine oN ?_
              refine thenQ_normal ?_
              refine WI.seq ?_
              refine WI.regB tabFo3_ok [2, 3] ?_
              iterate 3 refine oS ?_
              refine oN ?_
              refine thenQ_normal ?_
              refine WI.ret ?_
              first | refine lfR ?_ | refine lfR2 ?_
              rw [hi, htt]; first | (rw [if_pos ⟨h2.1, h2.2⟩]; done) | (rw [if_pos ⟨h2.1, h2.2⟩]; rfl) | (rw [if_neg (by rcases h2 with h2 | h2 <;> simp [h2])]; done) | (rw [if_neg (by rcases h2 with h2 | h2 <;> simp [h2])]; rfl) -- leaf 2
            · try simp only [zB] at h2
              refine WI.skip ?_
              refine thenQ_normal ?_
              refine WI.seq ?_
              refine WI.regB tabFo3_ok [2, 3] ?_
              iterate 3 refine oS ?_
              refine oN ?_
              refine thenQ_normal ?_
              refine WI.ret ?_
              first | refine lfR ?_ | refine lfR2 ?_
              rw [hi, htt]; first | (rw [if_pos ⟨h2.1, h2.2⟩]; done) | (rw [if_pos ⟨h2.1, h2.2⟩]; rfl) | (rw [if_neg (by rcases h2 with h2 | h2 <;> simp [h2])]; done) | (rw [if_neg (by rcases h2 with h2 | h2 <;> simp [h2])]; rfl) -- leaf 3
end Go.Proofs.YtobflnngfochiaaDoor
end
section
/- Fold: the laws. -/
set_option linter.unusedSimpArgs false
set_option linter.unusedVariables false
namespace Go.Proofs.YtobflnngfochiaaDoor
open Go.RowKit Go.Bo Go.Ab

def int05G : List D → Option (Bool × D)
  | [.x (.str s)] => some (true, .tup [.x (.str (int05 s).1), .x (.bool (int05 s).2)])
  | _ => none
theorem int05G_ok : ∀ args r, int05G args = some (true, r) → PCalls Tryd.prog 9 args r := by
  intro args r h
  unfold int05G at h
  split at h
  · rename_i s
    simp only [Option.some.injEq, Prod.mk.injEq, Bool.and_eq_true, decide_eq_true_eq, true_and] at h
    obtain rfl := h
    exact (int_c s)
  · cases h
def foldG : List D → Option (Bool × D)
  | [.x (.str s)] => some (decide (s.length ≤ 1000000), .x (.str (fld s)))
  | _ => none
theorem foldG_ok : ∀ args r, foldG args = some (true, r) → PCalls Tryd.prog 8 args r := by
  intro args r h
  unfold foldG at h
  split at h
  · rename_i s
    simp only [Option.some.injEq, Prod.mk.injEq, Bool.and_eq_true, decide_eq_true_eq, true_and] at h
    obtain ⟨h1, rfl⟩ := h
    exact (fold_c s h1)
  · cases h
def tabFo4 : Tabs := addQ (addQ (noTabs) 9 int05G) 22 cutPG
theorem tabFo4_ok : SsOk Tryd.prog tabFo4 := addQ_ok (addQ_ok (noTabs_ok) (G_enters G_ok (p := i9) rfl) int05G_ok) cutP_enters cutPG_ok
theorem tabFo4_q9 (a : List D) : tabFo4.q 9 a = int05G a := rfl
theorem tabFo4_q22 (a : List D) : tabFo4.q 22 a = cutPG a := rfl
theorem tabFo4_r (f : FuncId) (a : List D) (o : List Ob) : tabFo4.r f a o = none := rfl
theorem tabFo4_k (f : FuncId) (a : List D) (o : List Ob) : tabFo4.k f a o = none := rfl
def num05 (s : List UInt8) : Bool := (int05 s).2 && s == (int05 s).1
theorem number_c (s : List UInt8) : PCalls Tryd.prog 24 [.x (.str s)] (.x (.bool (num05 s))) := by
  refine FCalls.pure (fcallsG (fz := true) G_ok (p := i24) rfl _ (Nat.le_of_ble_eq_true rfl) _ (fun C0 E0 => ?_)) rfl
  dsimp only [i24, argsφ]
  have uu := And.intro @int05G.eq_1 (And.intro @int05G.eq_2 (And.intro @tabFo4_r (And.intro @tabFo4_k (And.intro @tabFo4_q22 (And.intro @tabFo4_q9 (And.intro @cutPG.eq_1 (@cutPG.eq_2)))))))
  refine WI.seq ?_
  refine WI.regB tabFo4_ok [0] ?_
  refine oS ?_
  refine oN ?_
  refine thenQ_normal ?_
  refine WI.seq ?_
  refine WI.regB tabFo4_ok [0, 3, 4] ?_
  refine oS ?_
  refine oC ?_
  refine oS ?_
  iterate 2 refine oG ?_
  iterate 2 refine oS ?_
  refine oN ?_
  refine thenQ_normal ?_
  refine WI.seq ?_
  refine WI.regB tabFo4_ok [2] ?_
  iterate 2 refine oS ?_
  iterate 4 refine oG ?_
  refine oS ?_
  refine oN ?_
  refine thenQ_normal ?_
  refine WI.ret ?_
  first | refine lfR ?_ | refine lfR2 ?_
  first | rfl | exact ⟨rfl, rfl⟩ | trivial -- leaf 0
def sml (a b : List UInt8) : Bool := decide ((a.length : Int) < b.length) || ((a.length : Int) == b.length && Op.bytesLess a b)
theorem smaller_c (a b : List UInt8) : PCalls Tryd.prog 25 [.x (.str a), .x (.str b)] (.x (.bool (sml a b))) := by
  refine FCalls.pure (fcallsG (fz := true) G_ok (p := i25) rfl _ (Nat.le_of_ble_eq_true rfl) _ (fun C0 E0 => ?_)) rfl
  dsimp only [i25, argsφ]
  have uu := trivial
  refine WI.seq ?_
  refine WI.regB noTabs_ok [0, 1] ?_
  refine oS ?_
  refine oN ?_
  refine thenQ_normal ?_
  refine WI.seq ?_
  refine WI.regB noTabs_ok [4] ?_
  refine oS ?_
  refine oG ?_
  refine oS ?_
  iterate 2 refine oG ?_
  refine oS ?_
  iterate 11 refine oG ?_
  refine oS ?_
  refine oN ?_
  refine thenQ_normal ?_
  refine WI.ret ?_
  first | refine lfR ?_ | refine lfR2 ?_
  first | rfl | exact ⟨rfl, rfl⟩ | trivial -- leaf 0
def numberG : List D → Option (Bool × D)
  | [.x (.str s)] => some (true, .x (.bool (num05 s)))
  | _ => none
theorem numberG_ok : ∀ args r, numberG args = some (true, r) → PCalls Tryd.prog 24 args r := by
  intro args r h
  unfold numberG at h
  split at h
  · rename_i s
    simp only [Option.some.injEq, Prod.mk.injEq, Bool.and_eq_true, decide_eq_true_eq, true_and] at h
    obtain rfl := h
    exact (number_c s)
  · cases h
def smallerG : List D → Option (Bool × D)
  | [.x (.str a), .x (.str b)] => some (true, .x (.bool (sml a b)))
  | _ => none
theorem smallerG_ok : ∀ args r, smallerG args = some (true, r) → PCalls Tryd.prog 25 args r := by
  intro args r h
  unfold smallerG at h
  split at h
  · rename_i a b
    simp only [Option.some.injEq, Prod.mk.injEq, Bool.and_eq_true, decide_eq_true_eq, true_and] at h
    obtain rfl := h
    exact (smaller_c a b)
  · cases h
def tabFo5 : Tabs := addQ (addQ (addQ (noTabs) 24 numberG) 25 smallerG) 22 cutPG
theorem tabFo5_ok : SsOk Tryd.prog tabFo5 := addQ_ok (addQ_ok (addQ_ok (noTabs_ok) (G_enters G_ok (p := i24) rfl) numberG_ok) (G_enters G_ok (p := i25) rfl) smallerG_ok) cutP_enters cutPG_ok
theorem tabFo5_q24 (a : List D) : tabFo5.q 24 a = numberG a := rfl
theorem tabFo5_q25 (a : List D) : tabFo5.q 25 a = smallerG a := rfl
theorem tabFo5_q22 (a : List D) : tabFo5.q 22 a = cutPG a := rfl
theorem tabFo5_r (f : FuncId) (a : List D) (o : List Ob) : tabFo5.r f a o = none := rfl
theorem tabFo5_k (f : FuncId) (a : List D) (o : List Ob) : tabFo5.k f a o = none := rfl
def les (a b : List UInt8) : Bool :=
  if num05 a && num05 b then
    if neg05 a && neg05 b then sml (tail05 b) (tail05 a) else if neg05 a != neg05 b then neg05 a else sml (tail05 a) (tail05 b)
  else Op.bytesLess a b
theorem less_c (a b : List UInt8) : PCalls Tryd.prog 10 [.x (.str a), .x (.str b)] (.x (.bool (les a b))) := by
  refine FCalls.pure (fcallsG (fz := true) G_ok (p := i10) rfl _ (Nat.le_of_ble_eq_true rfl) _ (fun C0 E0 => ?_)) rfl
  dsimp only [i10, argsφ]
  have uu := And.intro @numberG.eq_1 (And.intro @numberG.eq_2 (And.intro @smallerG.eq_1 (And.intro @smallerG.eq_2 (And.intro @cutPG.eq_1 (And.intro @cutPG.eq_2 (And.intro @tabFo5_r (And.intro @tabFo5_k (And.intro @tabFo5_q22 (And.intro @tabFo5_q24 (@tabFo5_q25))))))))))
  refine WI.seq ?_
  refine WI.regB tabFo5_ok [0, 1] ?_
  refine oS ?_
  refine oN ?_
  refine thenQ_normal ?_
  refine WI.seq ?_
  refine WI.seq ?_
  refine WI.regB tabFo5_ok [0, 1, 16] ?_
  refine oS ?_
  refine oC ?_
  refine oG ?_
  refine oS ?_
  refine oG ?_
  refine oC ?_
  iterate 2 refine oG ?_
  refine oN ?_
  refine thenQ_normal ?_
  refine WI.cond (b := _) rfl rfl (fun h0 => ?_) (fun h0 => ?_)
  · try simp only [zB] at h0
    refine WI.seq ?_
    refine WI.regB tabFo5_ok [4] ?_
    iterate 2 refine oS ?_
    refine oG ?_
    refine oS ?_
    refine oN ?_
    refine thenQ_normal ?_
    refine WI.ret ?_
    refine thenQ_ret ?_
    first | refine lfR ?_ | refine lfR2 ?_
    rw [les, if_neg (by rcases h0 with h | h <;> simp [h])] -- leaf 0
  · try simp only [zB] at h0
    refine WI.skip ?_
    refine thenQ_normal ?_
    refine WI.seq ?_
    refine WI.regB tabFo5_ok [1, 5, 6] ?_
    refine oS ?_
    refine oC ?_
    refine oS ?_
    iterate 2 refine oG ?_
    iterate 2 refine oS ?_
    refine oN ?_
    refine thenQ_normal ?_
    refine WI.seq ?_
    refine WI.regB tabFo5_ok [5, 6, 7, 8] ?_
    refine oS ?_
    refine oC ?_
    refine oS ?_
    iterate 2 refine oG ?_
    iterate 2 refine oS ?_
    refine oN ?_
    refine thenQ_normal ?_
    refine WI.seq ?_
    refine WI.block ?_
    refine WI.seq ?_
    refine WI.regB tabFo5_ok [5, 6, 7, 8, 30] ?_
    iterate 2 refine oS ?_
    iterate 2 refine oG ?_
    refine oS ?_
    refine oN ?_
    refine thenQ_normal ?_
    refine WI.cond (b := _) rfl rfl (fun h1 => ?_) (fun h1 => ?_)
    · try simp only [zB] at h1
      refine WI.seq ?_
      refine WI.regB tabFo5_ok [4] ?_
      iterate 2 refine oS ?_
      refine oC ?_
      refine oS ?_
      refine oN ?_
      refine thenQ_normal ?_
      refine WI.ret ?_
      refine blockQ_ret ?_
      refine thenQ_ret ?_
      first | refine lfR ?_ | refine lfR2 ?_
      unfold les neg05 tail05; rw [if_pos (by simp [h0]), if_pos (by simp [h1])] -- leaf 1
    · try simp only [zB] at h1
      refine WI.seq ?_
      refine WI.regB tabFo5_ok [5, 6, 7, 38] ?_
      iterate 2 refine oS ?_
      refine oG ?_
      refine oS ?_
      refine oN ?_
      refine thenQ_normal ?_
      refine WI.cond (b := _) rfl rfl (fun h2 => ?_) (fun h2 => ?_)
      · try simp only [zB] at h2
        refine WI.seq ?_
        refine WI.regB tabFo5_ok [4] ?_
        iterate 2 refine oS ?_
        refine oN ?_
        refine thenQ_normal ?_
        refine WI.ret ?_
        refine blockQ_ret ?_
        refine thenQ_ret ?_
        first | refine lfR ?_ | refine lfR2 ?_
        unfold les neg05 tail05; rw [if_pos (by simp [h0]), if_neg (by rcases h1 with h | h <;> simp [h]), if_pos (by simpa using h2)] -- leaf 2
      · try simp only [zB] at h2
        refine WI.skip ?_
        refine blockQ_normal ?_
        refine thenQ_normal ?_
        refine WI.seq ?_
        refine WI.regB tabFo5_ok [4] ?_
        iterate 2 refine oS ?_
        refine oC ?_
        refine oS ?_
        refine oN ?_
        refine thenQ_normal ?_
        refine WI.ret ?_
        first | refine lfR ?_ | refine lfR2 ?_
        unfold les neg05 tail05; rw [if_pos (by simp [h0]), if_neg (by rcases h1 with h | h <;> simp [h]), if_neg (by simpa using h2)] -- leaf 3
def lessG : List D → Option (Bool × D)
  | [.x (.str a), .x (.str b)] => some (true, .x (.bool (les a b)))
  | _ => none
theorem lessG_ok : ∀ args r, lessG args = some (true, r) → PCalls Tryd.prog 10 args r := by
  intro args r h
  unfold lessG at h
  split at h
  · rename_i a b
    simp only [Option.some.injEq, Prod.mk.injEq, Bool.and_eq_true, decide_eq_true_eq, true_and] at h
    obtain rfl := h
    exact (less_c a b)
  · cases h
def tabFo6 : Tabs := addQ (addQ (addQ (addQ (addQ (noTabs) 9 int05G) 8 foldG) 20 lowerG) 21 blanksG) 10 lessG
theorem tabFo6_ok : SsOk Tryd.prog tabFo6 := addQ_ok (addQ_ok (addQ_ok (addQ_ok (addQ_ok (noTabs_ok) (G_enters G_ok (p := i9) rfl) int05G_ok) (G_enters G_ok (p := i8) rfl) foldG_ok) (G_enters G_ok (p := i20) rfl) lowerG_ok) (G_enters G_ok (p := i21) rfl) blanksG_ok) (G_enters G_ok (p := i10) rfl) lessG_ok
theorem tabFo6_q9 (a : List D) : tabFo6.q 9 a = int05G a := rfl
theorem tabFo6_q8 (a : List D) : tabFo6.q 8 a = foldG a := rfl
theorem tabFo6_q20 (a : List D) : tabFo6.q 20 a = lowerG a := rfl
theorem tabFo6_q21 (a : List D) : tabFo6.q 21 a = blanksG a := rfl
theorem tabFo6_q10 (a : List D) : tabFo6.q 10 a = lessG a := rfl
theorem tabFo6_r (f : FuncId) (a : List D) (o : List Ob) : tabFo6.r f a o = none := rfl
theorem tabFo6_k (f : FuncId) (a : List D) (o : List Ob) : tabFo6.k f a o = none := rfl
theorem awake05_c : PCalls Tryd.prog 7 [] (.x (.bool true)) := by
  have e1 : int05 [45, 48, 48, 55] = ([45, 55], true) := by kernel_rfl
  have e2 : int05 [45, 48] = ([48], true) := by kernel_rfl
  have e3 : int05 [49, 120] = ([], false) := by kernel_rfl
  have e4 : fld [32, 32, 65, 32, 32, 98] = [97, 32, 98] := by kernel_rfl
  have e5 : lowS [97, 90] = [97, 122] := by kernel_rfl
  have e6 : blk [32, 97, 32, 32, 98, 32] = [97, 32, 98] := by kernel_rfl
  have e7 : les [57] [49, 48] = true := by kernel_rfl
  have e8 : les [45, 49, 48] [45, 57] = true := by kernel_rfl
  have e9 : les [45, 49] [48] = true := by kernel_rfl
  have e10 : les [97] [98] = true := by kernel_rfl
  refine FCalls.pure (fcallsG (fz := true) G_ok (p := i7) rfl _ (Nat.le_of_ble_eq_true rfl) _ (fun C0 E0 => ?_)) rfl
  dsimp only [i7, argsφ]
  have uu := And.intro @int05G.eq_1 (And.intro @int05G.eq_2 (And.intro @foldG.eq_1 (And.intro @foldG.eq_2 (And.intro @lowerG.eq_1 (And.intro @lowerG.eq_2 (And.intro @blanksG.eq_1 (And.intro @blanksG.eq_2 (And.intro @lessG.eq_1 (And.intro @lessG.eq_2 (And.intro @e1 (And.intro @e2 (And.intro @e3 (And.intro @e4 (And.intro @e5 (And.intro @e6 (And.intro @e7 (And.intro @e8 (And.intro @e9 (And.intro @e10 (And.intro @tabFo6_r (And.intro @tabFo6_k (And.intro @tabFo6_q10 (And.intro @tabFo6_q20 (And.intro @tabFo6_q21 (And.intro @tabFo6_q8 (@tabFo6_q9))))))))))))))))))))))))))
  refine WI.seq ?_
  refine WI.regB tabFo6_ok [] ?_
  refine oS ?_
  refine oN ?_
  refine thenQ_normal ?_
  refine WI.seq ?_
  refine WI.regB tabFo6_ok [1, 2] ?_
  refine oC ?_
  refine oS ?_
  iterate 2 refine oG ?_
  iterate 2 refine oS ?_
  refine oN ?_
  refine thenQ_normal ?_
  refine WI.seq ?_
  refine WI.regB tabFo6_ok [1, 2, 3] ?_
  refine oC ?_
  refine oS ?_
  iterate 2 refine oG ?_
  iterate 2 refine oS ?_
  refine oN ?_
  refine thenQ_normal ?_
  refine WI.seq ?_
  refine WI.regB tabFo6_ok [1, 2, 3, 6] ?_
  refine oC ?_
  refine oS ?_
  iterate 2 refine oG ?_
  iterate 2 refine oS ?_
  refine oN ?_
  refine thenQ_normal ?_
  refine WI.seq ?_
  refine WI.regB tabFo6_ok [0] ?_
  refine oC ?_
  refine oG ?_
  refine oS ?_
  refine oC ?_
  iterate 2 refine oG ?_
  refine oS ?_
  refine oC ?_
  iterate 2 refine oG ?_
  refine oS ?_
  iterate 3 refine oG ?_
  refine oS ?_
  iterate 2 refine oG ?_
  refine oS ?_
  iterate 3 refine oG ?_
  refine oS ?_
  iterate 3 refine oG ?_
  refine oS ?_
  refine oC ?_
  refine oG ?_
  refine oS ?_
  refine oC ?_
  refine oG ?_
  refine oS ?_
  refine oC ?_
  refine oG ?_
  refine oS ?_
  refine oC ?_
  refine oG ?_
  refine oS ?_
  refine oN ?_
  refine thenQ_normal ?_
  refine WI.ret ?_
  first | refine lfR ?_ | refine lfR2 ?_
  first | rfl | exact ⟨rfl, rfl⟩ | trivial -- leaf 0
def awake05G : List D → Option (Bool × D)
  | [] => some (true, .x (.bool true))
  | _ => none
theorem awake05G_ok : ∀ args r, awake05G args = some (true, r) → PCalls Tryd.prog 7 args r := by
  intro args r h
  unfold awake05G at h
  split at h
  · simp only [Option.some.injEq, Prod.mk.injEq, Bool.and_eq_true, decide_eq_true_eq, true_and] at h
    obtain rfl := h
    exact awake05_c
  · cases h
/-! ### the plain laws -/
theorem stp_dg : ∀ t : List UInt8, t ≠ [] → t.all isDg = true → stp t ≠ [] ∧ (stp t).all isDg = true ∧ (stp t).length ≤ t.length
  | [b], _, h => ⟨by simp [stp], by simpa [stp] using h, Nat.le_refl _⟩
  | b :: c :: l, _, h => by
    unfold stp
    split
    · obtain ⟨h1, h2, h3⟩ := stp_dg (c :: l) (by simp) (by simp at h ⊢; exact ⟨h.2.1, h.2.2⟩)
      exact ⟨h1, h2, by simp at h3 ⊢; omega⟩
    · exact ⟨by simp, h, Nat.le_refl _⟩
theorem stp_idem : ∀ t : List UInt8, stp (stp t) = stp t
  | [] => rfl
  | [b] => rfl
  | b :: c :: l => by
    rw [stp]
    split
    · exact stp_idem (c :: l)
    · rename_i h; rw [stp, if_neg h]
theorem dgs_iff (t : List UInt8) : dgs t = true ↔ t ≠ [] ∧ t.length ≤ 32 ∧ t.all isDg = true := by
  unfold dgs; rw [Bool.and_eq_true, decide_eq_true_eq, and_assoc]
theorem dgs_stp {t : List UInt8} (h : dgs t = true) : dgs (stp t) = true := by
  rw [dgs_iff] at h ⊢
  obtain ⟨h1, h2, h3⟩ := stp_dg t h.1 h.2.2
  exact ⟨h1, by omega, h2⟩
theorem neg_cons (t : List UInt8) : neg05 (45 :: t) = true ∧ tail05 (45 :: t) = t := by
  have h : Lib.hasPrefix (45 :: t) [45] = true := by simp [Lib.hasPrefix, List.isPrefixOf]
  exact ⟨h, by unfold tail05 Lib.trimPrefix; rw [if_pos h]; rfl⟩
theorem neg_dgs {t : List UInt8} (h : dgs t = true) : neg05 t = false ∧ tail05 t = t := by
  rw [dgs_iff] at h
  have h0 : Lib.hasPrefix t [45] = false := by
    cases t with
    | nil => exact absurd rfl h.1
    | cons b l =>
      have hb := h.2.2
      rw [List.all_cons, Bool.and_eq_true] at hb
      have := of_decide_eq_true hb.1
      simp only [Lib.hasPrefix, List.isPrefixOf, Bool.and_true, beq_eq_false_iff_ne]
      rintro rfl
      simp at this
  exact ⟨h0, by unfold tail05 Lib.trimPrefix; rw [if_neg (by rw [h0]; simp)]⟩
theorem neg_is (a : List UInt8) : a = if neg05 a then 45 :: tail05 a else tail05 a := by
  cases h : neg05 a with
  | false => rw [if_neg (by simp)]; unfold tail05 Lib.trimPrefix; rw [if_neg (by unfold neg05 at h; rw [h]; simp)]
  | true =>
    rw [if_pos rfl]; unfold tail05 Lib.trimPrefix
    rw [if_pos (show Lib.hasPrefix a [45] = true from h)]
    cases a with
    | nil => simp [neg05, Lib.hasPrefix, List.isPrefixOf] at h
    | cons b l =>
      simp [neg05, Lib.hasPrefix, List.isPrefixOf] at h
      subst h; rfl
theorem int_canon {s a : List UInt8} (h : int05 s = (a, true)) : int05 a = (a, true) := by
  unfold int05 at h
  split at h
  · rename_i hd
    have hs := dgs_stp hd
    have hi := stp_idem (tail05 s)
    generalize stp (tail05 s) = t at h hs hi
    simp only [Prod.mk.injEq, and_true] at h
    split at h
    · rename_i hn
      subst h
      obtain ⟨h1, h2⟩ := neg_cons t
      unfold int05
      rw [h2, if_pos hs, if_pos ⟨h1, by rw [hi]; exact hn.2⟩, hi]
    · subst h
      obtain ⟨h1, h2⟩ := neg_dgs hs
      unfold int05
      rw [h2, if_pos hs, if_neg (by rw [h1]; simp), hi]
  · simp at h
theorem num_canon {s a : List UInt8} (h : int05 s = (a, true)) : num05 a = true := by
  unfold num05; rw [int_canon h]; simp
theorem bl_irr : ∀ a, Op.bytesLess a a = false
  | [] => rfl
  | x :: a => by rw [Op.bytesLess, bl_irr a]; simp
theorem bl_asym : ∀ a b, Op.bytesLess a b = true → Op.bytesLess b a = false
  | _, [], h => by simp [Op.bytesLess] at h
  | [], _ :: _, _ => by simp [Op.bytesLess]
  | x :: a, y :: b, h => by
    rw [Op.bytesLess, Bool.or_eq_true, Bool.and_eq_true, decide_eq_true_eq, beq_iff_eq] at h
    rw [Op.bytesLess, Bool.or_eq_false_iff, Bool.and_eq_false_imp, decide_eq_false_iff_not, beq_iff_eq]
    rcases h with h | ⟨rfl, h⟩
    · exact ⟨UInt8.lt_asymm h, fun e => by subst e; exact absurd h (UInt8.lt_irrefl _)⟩
    · exact ⟨UInt8.lt_irrefl _, fun _ => bl_asym a b h⟩
theorem bl_trans : ∀ a b c, Op.bytesLess a b = true → Op.bytesLess b c = true → Op.bytesLess a c = true
  | _, [], _, h, _ => by simp [Op.bytesLess] at h
  | _, _ :: _, [], _, h => by simp [Op.bytesLess] at h
  | [], _ :: _, _ :: _, _, _ => by simp [Op.bytesLess]
  | x :: a, y :: b, z :: c, h, k => by
    rw [Op.bytesLess, Bool.or_eq_true, Bool.and_eq_true, decide_eq_true_eq, beq_iff_eq] at h k ⊢
    rcases h with h | ⟨rfl, h⟩ <;> rcases k with k | ⟨rfl, k⟩
    · exact .inl (UInt8.lt_trans h k)
    · exact .inl h
    · exact .inl k
    · exact .inr ⟨rfl, bl_trans a b c h k⟩
theorem bl_tot : ∀ a b, a ≠ b → Op.bytesLess a b = true ∨ Op.bytesLess b a = true
  | [], [], h => absurd rfl h
  | _ :: _, [], _ => .inr (by simp [Op.bytesLess])
  | [], _ :: _, _ => .inl (by simp [Op.bytesLess])
  | x :: a, y :: b, h => by
    simp only [Op.bytesLess, Bool.or_eq_true, Bool.and_eq_true, decide_eq_true_eq, beq_iff_eq]
    by_cases e : x = y
    · subst e
      rcases bl_tot a b (fun k => h (by rw [k])) with k | k
      · exact .inl (.inr ⟨rfl, k⟩)
      · exact .inr (.inr ⟨rfl, k⟩)
    · rcases UInt8.lt_or_lt_of_ne e with k | k
      · exact .inl (.inl k)
      · exact .inr (.inl k)
theorem sml_iff (a b : List UInt8) : sml a b = true ↔ a.length < b.length ∨ (a.length = b.length ∧ Op.bytesLess a b = true) := by
  unfold sml; rw [Bool.or_eq_true, Bool.and_eq_true, decide_eq_true_eq, beq_iff_eq, Int.ofNat_lt, Int.ofNat_inj]
theorem sml_irr (a : List UInt8) : sml a a = false := by
  rw [Bool.eq_false_iff]; intro h; rw [sml_iff, bl_irr] at h; simp at h
theorem sml_asym {a b : List UInt8} (h : sml a b = true) : sml b a = false := by
  rw [Bool.eq_false_iff]; intro k
  rw [sml_iff] at h k
  rcases h with h | ⟨h, h'⟩ <;> rcases k with k | ⟨k, k'⟩
  · omega
  · omega
  · omega
  · rw [bl_asym a b h'] at k'; cases k'
theorem sml_trans {a b c : List UInt8} (h : sml a b = true) (k : sml b c = true) : sml a c = true := by
  rw [sml_iff] at h k ⊢
  rcases h with h | ⟨h, h'⟩ <;> rcases k with k | ⟨k, k'⟩
  · left; omega
  · left; omega
  · left; omega
  · right; exact ⟨by omega, bl_trans a b c h' k'⟩
theorem sml_tot {a b : List UInt8} (h : a ≠ b) : sml a b = true ∨ sml b a = true := by
  rw [sml_iff, sml_iff]
  rcases Nat.lt_trichotomy a.length b.length with k | k | k
  · exact .inl (.inl k)
  · rcases bl_tot a b h with j | j
    · exact .inl (.inr ⟨k, j⟩)
    · exact .inr (.inr ⟨k.symm, j⟩)
  · exact .inr (.inl k)
theorem les_asym {a b : List UInt8} (ha : num05 a = true) (hb : num05 b = true) (h : les a b = true) : les b a = false := by
  unfold les at h ⊢
  simp only [ha, hb, Bool.and_self, if_true] at h ⊢
  cases hna : neg05 a <;> cases hnb : neg05 b <;> simp [hna, hnb] at h ⊢ <;> exact sml_asym h
theorem les_trans {a b c : List UInt8} (ha : num05 a = true) (hb : num05 b = true) (hc : num05 c = true) (h : les a b = true) (k : les b c = true) : les a c = true := by
  unfold les at h k ⊢
  simp only [ha, hb, hc, Bool.and_self, if_true] at h k ⊢
  cases hna : neg05 a <;> cases hnb : neg05 b <;> cases hnc : neg05 c <;> simp [hna, hnb, hnc] at h k ⊢ <;> first | exact sml_trans h k | exact sml_trans k h
theorem les_tot {a b : List UInt8} (ha : num05 a = true) (hb : num05 b = true) : (les a b || les b a) = !(a == b) := by
  by_cases e : a = b
  · subst e
    have : les a a = false := by
      rw [Bool.eq_false_iff]; intro h
      have := les_asym ha ha h
      rw [h] at this; cases this
    simp [this]
  · have e1 : (a == b) = false := by simpa using e
    rw [e1]
    have hia := neg_is a
    have hib := neg_is b
    unfold les
    simp only [ha, hb, Bool.and_self, if_true, Bool.not_false]
    cases hna : neg05 a <;> cases hnb : neg05 b <;> simp [hna, hnb] at hia hib ⊢
    · exact sml_tot (fun k => e (by rw [hia, hib, k]))
    · exact (sml_tot (fun k => e (by rw [hia, hib, k]))).symm
theorem low_low (s : List UInt8) : lowS (lowS s) = lowS s := by
  unfold lowS
  rw [List.map_map]
  refine List.map_congr_left fun c _ => ?_
  show lowC (lowC c) = lowC c
  by_cases h : 65 ≤ c.toNat ∧ c.toNat ≤ 90
  · have := lowC_up h
    exact lowC_no (by omega)
  · rw [lowC_no h, lowC_no h]
theorem lowC_32 (c : UInt8) : lowC c = 32 ↔ c = 32 := by
  by_cases h : 65 ≤ c.toNat ∧ c.toNat ≤ 90
  · have h1 := lowC_up h
    constructor
    · intro e; rw [e] at h1; simp at h1; omega
    · rintro rfl; simp at h
  · rw [lowC_no h]
theorem spl_low : ∀ s, spl 32 (lowS s) = (spl 32 s).map lowS
  | [] => rfl
  | b :: l => by
    have ih := spl_low l
    show spl 32 (lowC b :: lowS l) = _
    unfold spl
    by_cases h : b = 32
    · rw [if_pos ((lowC_32 b).2 h), if_pos h, ih]; rfl
    · rw [if_neg (fun k => h ((lowC_32 b).1 k)), if_neg h, ih]
      cases spl 32 l with
      | nil => rfl
      | cons x r => rfl
theorem words_low (s : List UInt8) : words (lowS s) = (words s).map lowS := by
  unfold words
  rw [spl_low, List.filter_map]
  congr 1
  refine List.filter_congr fun x _ => ?_
  simp [lowS]
theorem jn_low : ∀ l : List (List UInt8), jn (l.map lowS) = lowS (jn l)
  | [] => rfl
  | [x] => rfl
  | x :: y :: r => by
    have := jn_low (y :: r)
    show lowS x ++ 32 :: jn ((y :: r).map lowS) = lowS (x ++ 32 :: jn (y :: r))
    rw [this]; unfold lowS
    rw [List.map_append, List.map_cons]; rfl
theorem fld_fld (s : List UInt8) : fld (fld s) = fld s := by
  unfold fld
  have : blk (lowS (blk s)) = lowS (blk s) := by
    show jn (words (lowS (jn (words s)))) = lowS (jn (words s))
    rw [words_low, words_jn, jn_low]
  rw [this, low_low]
theorem fld_len (s : List UInt8) : (fld s).length ≤ s.length := by
  unfold fld lowS; rw [List.length_map]; exact blk_len s
def tabFo7 : Tabs := addQ (addQ (addQ (addQ (noTabs) 9 int05G) 8 foldG) 10 lessG) 7 awake05G
theorem tabFo7_ok : SsOk Tryd.prog tabFo7 := addQ_ok (addQ_ok (addQ_ok (addQ_ok (noTabs_ok) (G_enters G_ok (p := i9) rfl) int05G_ok) (G_enters G_ok (p := i8) rfl) foldG_ok) (G_enters G_ok (p := i10) rfl) lessG_ok) (G_enters G_ok (p := i7) rfl) awake05G_ok
theorem tabFo7_q9 (a : List D) : tabFo7.q 9 a = int05G a := rfl
theorem tabFo7_q8 (a : List D) : tabFo7.q 8 a = foldG a := rfl
theorem tabFo7_q10 (a : List D) : tabFo7.q 10 a = lessG a := rfl
theorem tabFo7_q7 (a : List D) : tabFo7.q 7 a = awake05G a := rfl
theorem tabFo7_r (f : FuncId) (a : List D) (o : List Ob) : tabFo7.r f a o = none := rfl
theorem tabFo7_k (f : FuncId) (a : List D) (o : List Ob) : tabFo7.k f a o = none := rfl
theorem foldOnce_c (s : List UInt8) : PCalls Tryd.prog 3 [.x (.str s)] (.x (.bool true)) := by
  have h1 := fld_fld s
  have h2 := fld_len s
  have h3 : decide (((fld s).length : Int) ≤ s.length) = true := decide_eq_true (by omega)
  rcases hi : int05 s with ⟨a, b⟩
  cases b with
  | true =>
    have hc := int_canon hi
    refine FCalls.pure (fcallsG (fz := true) G_ok (p := i3) rfl _ (Nat.le_of_ble_eq_true rfl) _ (fun C0 E0 => ?_)) rfl
    dsimp only [i3, argsφ]
    have uu := And.intro @int05G.eq_1 (And.intro @int05G.eq_2 (And.intro @foldG.eq_1 (And.intro @foldG.eq_2 (And.intro @awake05G.eq_1 (And.intro @awake05G.eq_2 (And.intro h1 (And.intro hi (And.intro hc (And.intro h3 (And.intro @tabFo7_r (And.intro @tabFo7_k (And.intro @tabFo7_q10 (And.intro @tabFo7_q7 (And.intro @tabFo7_q8 (And.intro @tabFo7_q9 (And.intro @lessG.eq_1 (@lessG.eq_2)))))))))))))))))
    refine WI.seq ?_
    refine WI.regB tabFo7_ok [0] ?_
    refine oS ?_
    refine oN ?_
    refine thenQ_normal ?_
    refine WI.seq ?_
    refine WI.seq ?_
    refine WI.regB tabFo7_ok [0, 10] ?_
    refine oS ?_
    iterate 2 refine oG ?_
    refine oN ?_
    refine thenQ_normal ?_
    refine WI.cond (b := _) rfl rfl (fun h0 => ?_) (fun h0 => ?_)
    · try simp only [zB] at h0
      refine WI.seq ?_
      refine WI.regB tabFo7_ok [2] ?_
      refine oC ?_
      refine oS ?_
      refine oN ?_
      refine thenQ_normal ?_
      refine WI.ret ?_
      refine thenQ_ret ?_
      first | refine lfR ?_ | refine lfR2 ?_
      first | rfl | exact ⟨rfl, rfl⟩ | trivial -- leaf 0
    · try simp only [zB] at h0
      refine WI.skip ?_
      refine thenQ_normal ?_
      refine WI.seq ?_
      refine WI.regB tabFo7_ok [0, 3] ?_
      refine oS ?_
      refine oC ?_
      refine oS ?_
      refine oN ?_
      refine thenQ_normal ?_
      refine WI.seq ?_
      refine WI.regB tabFo7_ok [0, 3, 4, 5] ?_
      refine oS ?_
      refine oC ?_
      refine oS ?_
      iterate 2 refine oG ?_
      iterate 2 refine oS ?_
      refine oN ?_
      refine thenQ_normal ?_
      refine WI.seq ?_
      refine WI.regB tabFo7_ok [0, 3, 4, 5, 6, 7] ?_
      refine oS ?_
      refine oC ?_
      refine oS ?_
      iterate 2 refine oG ?_
      iterate 2 refine oS ?_
      refine oN ?_
      refine thenQ_normal ?_
      refine WI.seq ?_
      refine WI.regB tabFo7_ok [2] ?_
      refine oS ?_
      refine oC ?_
      refine oS ?_
      refine oG ?_
      refine oS ?_
      iterate 6 refine oG ?_
      refine oS ?_
      iterate 11 refine oG ?_
      refine oS ?_
      refine oC ?_
      refine oG ?_
      refine oS ?_
      refine oN ?_
      refine thenQ_normal ?_
      refine WI.ret ?_
      first | refine lfR ?_ | refine lfR2 ?_
      first | rfl | exact ⟨rfl, rfl⟩ | trivial -- leaf 1
  | false =>
    refine FCalls.pure (fcallsG (fz := true) G_ok (p := i3) rfl _ (Nat.le_of_ble_eq_true rfl) _ (fun C0 E0 => ?_)) rfl
    dsimp only [i3, argsφ]
    have uu := And.intro @int05G.eq_1 (And.intro @int05G.eq_2 (And.intro @foldG.eq_1 (And.intro @foldG.eq_2 (And.intro @awake05G.eq_1 (And.intro @awake05G.eq_2 (And.intro h1 (And.intro hi (And.intro h3 (And.intro @tabFo7_r (And.intro @tabFo7_k (And.intro @tabFo7_q10 (And.intro @tabFo7_q7 (And.intro @tabFo7_q8 (And.intro @tabFo7_q9 (And.intro @lessG.eq_1 (@lessG.eq_2))))))))))))))))
    refine WI.seq ?_
    refine WI.regB tabFo7_ok [0] ?_
    refine oS ?_
    refine oN ?_
    refine thenQ_normal ?_
    refine WI.seq ?_
    refine WI.seq ?_
    refine WI.regB tabFo7_ok [0, 10] ?_
    refine oS ?_
    iterate 2 refine oG ?_
    refine oN ?_
    refine thenQ_normal ?_
    refine WI.cond (b := _) rfl rfl (fun h0 => ?_) (fun h0 => ?_)
    · try simp only [zB] at h0
      refine WI.seq ?_
      refine WI.regB tabFo7_ok [2] ?_
      refine oC ?_
      refine oS ?_
      refine oN ?_
      refine thenQ_normal ?_
      refine WI.ret ?_
      refine thenQ_ret ?_
      first | refine lfR ?_ | refine lfR2 ?_
      first | rfl | exact ⟨rfl, rfl⟩ | trivial -- leaf 0
    · try simp only [zB] at h0
      refine WI.skip ?_
      refine thenQ_normal ?_
      refine WI.seq ?_
      refine WI.regB tabFo7_ok [0, 3] ?_
      refine oS ?_
      refine oC ?_
      refine oS ?_
      refine oN ?_
      refine thenQ_normal ?_
      refine WI.seq ?_
      refine WI.regB tabFo7_ok [0, 3, 4, 5] ?_
      refine oS ?_
      refine oC ?_
      refine oS ?_
      iterate 2 refine oG ?_
      iterate 2 refine oS ?_
      refine oN ?_
      refine thenQ_normal ?_
      refine WI.seq ?_
      refine WI.regB tabFo7_ok [0, 3, 4, 5, 6, 7] ?_
      refine oS ?_
      refine oC ?_
      refine oS ?_
      iterate 2 refine oG ?_
      iterate 2 refine oS ?_
      refine oN ?_
      refine thenQ_normal ?_
      refine WI.seq ?_
      refine WI.regB tabFo7_ok [2] ?_
      refine oS ?_
      refine oC ?_
      refine oS ?_
      refine oG ?_
      refine oS ?_
      iterate 6 refine oG ?_
      refine oS ?_
      iterate 11 refine oG ?_
      refine oS ?_
      refine oC ?_
      refine oG ?_
      refine oS ?_
      refine oN ?_
      refine thenQ_normal ?_
      refine WI.ret ?_
      first | refine lfR ?_ | refine lfR2 ?_
      first | rfl | exact ⟨rfl, rfl⟩ | trivial -- leaf 1
theorem foldOrder_c (x y z : List UInt8) : PCalls Tryd.prog 4 [.x (.str x), .x (.str y), .x (.str z)] (.x (.bool true)) := by
  rcases hx : int05 x with ⟨a, p⟩
  rcases hy : int05 y with ⟨b, q⟩
  rcases hz : int05 z with ⟨c, r⟩
  by_cases hp : p = true ∧ q = true ∧ r = true
  · obtain ⟨rfl, rfl, rfl⟩ := hp
    have na := num_canon hx
    have nb := num_canon hy
    have nc := num_canon hz
    have t1 := les_tot na nb
    have t2 := @les_asym a b na nb
    have t3 := @les_trans a b c na nb nc
    refine FCalls.pure (fcallsG (fz := true) G_ok (p := i4) rfl _ (Nat.le_of_ble_eq_true rfl) _ (fun C0 E0 => ?_)) rfl
    dsimp only [i4, argsφ]
    have uu := And.intro @int05G.eq_1 (And.intro @int05G.eq_2 (And.intro @lessG.eq_1 (And.intro @lessG.eq_2 (And.intro @awake05G.eq_1 (And.intro @awake05G.eq_2 (And.intro hx (And.intro hy (And.intro hz (And.intro @tabFo7_r (And.intro @tabFo7_k (And.intro @tabFo7_q10 (And.intro @tabFo7_q7 (And.intro @tabFo7_q8 (And.intro @tabFo7_q9 (And.intro @foldG.eq_1 (@foldG.eq_2))))))))))))))))
    refine WI.seq ?_
    refine WI.regB tabFo7_ok [0, 1, 2] ?_
    refine oS ?_
    refine oN ?_
    refine thenQ_normal ?_
    refine WI.seq ?_
    refine WI.regB tabFo7_ok [1, 2, 7, 8] ?_
    refine oS ?_
    refine oC (hok := by first | with_reducible rfl | omega | (cases les a b <;> cases les b a <;> rfl) | (simp; done) | (simp; omega) | rfl) ?_
    refine oS ?_
    iterate 2 refine oG (hok := by first | with_reducible rfl | omega | (cases les a b <;> cases les b a <;> rfl) | (simp; done) | (simp; omega) | rfl) ?_
    iterate 2 refine oS ?_
    refine oN ?_
    refine thenQ_normal ?_
    refine WI.seq ?_
    refine WI.regB tabFo7_ok [2, 7, 8, 9, 10] ?_
    refine oS ?_
    refine oC (hok := by first | with_reducible rfl | omega | (cases les a b <;> cases les b a <;> rfl) | (simp; done) | (simp; omega) | rfl) ?_
    refine oS ?_
    iterate 2 refine oG (hok := by first | with_reducible rfl | omega | (cases les a b <;> cases les b a <;> rfl) | (simp; done) | (simp; omega) | rfl) ?_
    iterate 2 refine oS ?_
    refine oN ?_
    refine thenQ_normal ?_
    refine WI.seq ?_
    refine WI.regB tabFo7_ok [7, 8, 9, 10, 11, 12] ?_
    refine oS ?_
    refine oC (hok := by first | with_reducible rfl | omega | (cases les a b <;> cases les b a <;> rfl) | (simp; done) | (simp; omega) | rfl) ?_
    refine oS ?_
    iterate 2 refine oG (hok := by first | with_reducible rfl | omega | (cases les a b <;> cases les b a <;> rfl) | (simp; done) | (simp; omega) | rfl) ?_
    iterate 2 refine oS ?_
    refine oN ?_
    refine thenQ_normal ?_
    refine WI.seq ?_
    refine WI.seq ?_
    refine WI.regB tabFo7_ok [7, 9, 11, 37] ?_
    refine oS ?_
    refine oG (hok := by first | with_reducible rfl | omega | (cases les a b <;> cases les b a <;> rfl) | (simp; done) | (simp; omega) | rfl) ?_
    refine oS ?_
    iterate 3 refine oG (hok := by first | with_reducible rfl | omega | (cases les a b <;> cases les b a <;> rfl) | (simp; done) | (simp; omega) | rfl) ?_
    refine oS ?_
    iterate 3 refine oG (hok := by first | with_reducible rfl | omega | (cases les a b <;> cases les b a <;> rfl) | (simp; done) | (simp; omega) | rfl) ?_
    refine oN ?_
    refine thenQ_normal ?_
    refine WI.cond (b := _) rfl rfl (fun h0 => ?_) (fun h0 => ?_)
    · exfalso
      simp at h0
    · try simp only [zB] at h0
      refine WI.skip ?_
      refine thenQ_normal ?_
      refine WI.seq ?_
      refine WI.seq ?_
      refine WI.regB tabFo7_ok [7, 9, 11, 60] ?_
      iterate 2 refine oS ?_
      refine oC (hok := by first | with_reducible rfl | omega | (cases les a b <;> cases les b a <;> rfl) | (simp; done) | (simp; omega) | rfl) ?_
      refine oS ?_
      iterate 2 refine oG (hok := by first | with_reducible rfl | omega | (cases les a b <;> cases les b a <;> rfl) | (simp; done) | (simp; omega) | rfl) ?_
      refine oC (hok := by first | with_reducible rfl | omega | (cases les a b <;> cases les b a <;> rfl) | (simp; done) | (simp; omega) | rfl) ?_
      refine oG (hok := by first | with_reducible rfl | omega | (cases les a b <;> cases les b a <;> rfl) | (simp; done) | (simp; omega) | rfl) ?_
      refine oS ?_
      iterate 2 refine oG (hok := by first | with_reducible rfl | omega | (cases les a b <;> cases les b a <;> rfl) | (simp; done) | (simp; omega) | rfl) ?_
      refine oC (hok := by first | with_reducible rfl | omega | (cases les a b <;> cases les b a <;> rfl) | (simp; done) | (simp; omega) | rfl) ?_
      iterate 3 refine oG (hok := by first | with_reducible rfl | omega | (cases les a b <;> cases les b a <;> rfl) | (simp; done) | (simp; omega) | rfl) ?_
      refine oC (hok := by first | with_reducible rfl | omega | (cases les a b <;> cases les b a <;> rfl) | (simp; done) | (simp; omega) | rfl) ?_
      iterate 6 refine oG (hok := by first | with_reducible rfl | omega | (cases les a b <;> cases les b a <;> rfl) | (simp; done) | (simp; omega) | rfl) ?_
      refine oN ?_
      refine thenQ_normal ?_
      refine WI.cond (b := _) rfl rfl (fun h1 => ?_) (fun h1 => ?_)
      · exfalso
        revert h1 t1 t2; cases les a b <;> cases les b a <;> cases (a == b) <;> simp
      · try simp only [zB] at h1
        refine WI.skip ?_
        refine thenQ_normal ?_
        refine WI.seq ?_
        refine WI.regB tabFo7_ok [6] ?_
        iterate 2 refine oS ?_
        refine oC (hok := by first | with_reducible rfl | omega | (cases les a b <;> cases les b a <;> rfl) | (simp; done) | (simp; omega) | rfl) ?_
        refine oG (hok := by first | with_reducible rfl | omega | (cases les a b <;> cases les b a <;> rfl) | (simp; done) | (simp; omega) | rfl) ?_
        refine oS ?_
        iterate 2 refine oG (hok := by first | with_reducible rfl | omega | (cases les a b <;> cases les b a <;> rfl) | (simp; done) | (simp; omega) | rfl) ?_
        refine oC (hok := by first | with_reducible rfl | omega | (cases les a b <;> cases les b a <;> rfl) | (simp; done) | (simp; omega) | rfl) ?_
        iterate 2 refine oG (hok := by first | with_reducible rfl | omega | (cases les a b <;> cases les b a <;> rfl) | (simp; done) | (simp; omega) | rfl) ?_
        refine oS ?_
        iterate 2 refine oG (hok := by first | with_reducible rfl | omega | (cases les a b <;> cases les b a <;> rfl) | (simp; done) | (simp; omega) | rfl) ?_
        refine oC (hok := by first | with_reducible rfl | omega | (cases les a b <;> cases les b a <;> rfl) | (simp; done) | (simp; omega) | rfl) ?_
        refine oG (hok := by first | with_reducible rfl | omega | (cases les a b <;> cases les b a <;> rfl) | (simp; done) | (simp; omega) | rfl) ?_
        refine oS ?_
        refine oC (hok := by first | with_reducible rfl | omega | (cases les a b <;> cases les b a <;> rfl) | (simp; done) | (simp; omega) | rfl) ?_
        refine oG (hok := by first | with_reducible rfl | omega | (cases les a b <;> cases les b a <;> rfl) | (simp; done) | (simp; omega) | rfl) ?_
        refine oS ?_
        refine oN ?_
        refine thenQ_normal ?_
        refine WI.ret ?_
        first | refine lfR ?_ | refine lfR2 ?_
        revert t3; cases les a b <;> cases les b c <;> cases les a c <;> simp -- leaf 0
  · have uu0 := hp
    refine FCalls.pure (fcallsG (fz := true) G_ok (p := i4) rfl _ (Nat.le_of_ble_eq_true rfl) _ (fun C0 E0 => ?_)) rfl
    dsimp only [i4, argsφ]
    have uu := And.intro @int05G.eq_1 (And.intro @int05G.eq_2 (And.intro @lessG.eq_1 (And.intro @lessG.eq_2 (And.intro @awake05G.eq_1 (And.intro @awake05G.eq_2 (And.intro hx (And.intro hy (And.intro hz (And.intro @tabFo7_r (And.intro @tabFo7_k (And.intro @tabFo7_q10 (And.intro @tabFo7_q7 (And.intro @tabFo7_q8 (And.intro @tabFo7_q9 (And.intro @foldG.eq_1 (@foldG.eq_2))))))))))))))))
    refine WI.seq ?_
    refine WI.regB tabFo7_ok [0, 1, 2] ?_
    refine oS ?_
    refine oN ?_
    refine thenQ_normal ?_
    refine WI.seq ?_
    refine WI.regB tabFo7_ok [1, 2, 7, 8] ?_
    refine oS ?_
    refine oC ?_
    refine oS ?_
    iterate 2 refine oG ?_
    iterate 2 refine oS ?_
    refine oN ?_
    refine thenQ_normal ?_
    refine WI.seq ?_
    refine WI.regB tabFo7_ok [2, 7, 8, 9, 10] ?_
    refine oS ?_
    refine oC ?_
    refine oS ?_
    iterate 2 refine oG ?_
    iterate 2 refine oS ?_
    refine oN ?_
    refine thenQ_normal ?_
    refine WI.seq ?_
    refine WI.regB tabFo7_ok [7, 8, 9, 10, 11, 12] ?_
    refine oS ?_
    refine oC ?_
    refine oS ?_
    iterate 2 refine oG ?_
    iterate 2 refine oS ?_
    refine oN ?_
    refine thenQ_normal ?_
    refine WI.seq ?_
    refine WI.seq ?_
    refine WI.regB tabFo7_ok [7, 9, 11, 37] ?_
    refine oS ?_
    refine oG ?_
    refine oS ?_
    iterate 3 refine oG ?_
    refine oS ?_
    iterate 3 refine oG ?_
    refine oN ?_
    refine thenQ_normal ?_
    refine WI.cond (b := _) rfl rfl (fun h0 => ?_) (fun h0 => ?_)
    · try simp only [zB] at h0
      refine WI.seq ?_
      refine WI.regB tabFo7_ok [6] ?_
      refine oC ?_
      refine oS ?_
      refine oN ?_
      refine thenQ_normal ?_
      refine WI.ret ?_
      refine thenQ_ret ?_
      first | refine lfR ?_ | refine lfR2 ?_
      first | rfl | exact ⟨rfl, rfl⟩ | trivial -- leaf 0
    · exfalso
      exact hp (by revert h0; cases p <;> cases q <;> cases r <;> simp)
end Go.Proofs.YtobflnngfochiaaDoor
end
section
/- bothyref01.Texts: whether two lists of texts are the same. -/
set_option linter.unusedSimpArgs false
namespace Go.Proofs.YtobflnngfochiaaDoor
open Go.RowKit Go.Bo Go.Ab

theorem take_extT {α : Type} {a b : List α} {i : Nat} (h : a.take i = b.take i) (ha : i < a.length) (hb : i < b.length) (he : a[i] = b[i]) : a.take (i + 1) = b.take (i + 1) := by
  rw [List.take_add_one, List.take_add_one, h]; simp [List.getElem?_eq_getElem ha, List.getElem?_eq_getElem hb, he]

theorem texts_c (a b : List (List UInt8)) : PCalls Tryd.prog 26 [.x (.sl (rows rStr a)), .x (.sl (rows rStr b))] (.x (.bool (decide (a = b)))) := by
  refine PCalls.wf (fun hw => ?_)
  have ha : a.length ≤ maxLen := by have := (hw _ (List.mem_cons_self)).1; rwa [rows_len] at this
  have hb : b.length ≤ maxLen := by have := (hw _ (List.mem_cons_of_mem _ List.mem_cons_self)).1; rwa [rows_len] at this
  clear hw
  simp only [maxLen] at ha hb
  refine FCalls.pure (fcallsG (fz := true) G_ok (p := i26) rfl _ (Nat.le_of_ble_eq_true rfl) _ (fun c E0 => ?_)) rfl
  dsimp only [i26, argsφ]
  have uu := trivial
  refine WI.seq ?_
  refine WI.regB noTabs_ok [0, 1] ?_
  refine oS ?_
  refine oN ?_
  refine thenQ_normal ?_
  refine WI.seq ?_
  refine WI.seq ?_
  refine WI.regB noTabs_ok [0, 1, 10] ?_
  refine oS ?_
  refine oG ?_
  refine oS ?_
  iterate 2 refine oG ?_
  refine oN ?_
  refine thenQ_normal ?_
  refine WI.cond (b := _) rfl rfl (fun h0 => ?_) (fun h0 => ?_)
  · try simp only [zB] at h0
    refine WI.seq ?_
    refine WI.regB noTabs_ok [4] ?_
    refine oS ?_
    refine oN ?_
    refine thenQ_normal ?_
    refine WI.ret ?_
    refine thenQ_ret ?_
    first | refine lfR ?_ | refine lfR2 ?_
    rw [decide_eq_false (fun e => h0 (by rw [e]))] -- leaf 0
  · try simp only [zB] at h0
    refine WI.skip ?_
    refine thenQ_normal ?_
    refine WI.seq ?_
    refine WI.seq ?_
    refine WI.regB noTabs_ok [0, 1, 5] ?_
    refine oS ?_
    refine oN ?_
    refine thenQ_normal ?_
    refine WI.block ?_
    refine WI.loop (fun φ os => ∃ i : Nat, φ = [(0, .x (.sl (rows rStr a))), (1, .x (.sl (rows rStr b))), (5, .x (.int .i64 i))] ∧ os = [] ∧ i ≤ a.length ∧ a.take i = b.take i) (down a.length 5) ?_ (fun φ os hI => ?_)
    · exact ⟨0, rfl, rfl, by omega, by simp⟩
    · obtain ⟨i, rfl, rfl, hi, he⟩ := hI
      refine WI.seq ?_
      refine WI.seq ?_
      refine WI.regB noTabs_ok [0, 1, 5, 14] ?_
      iterate 2 refine oS ?_
      iterate 2 refine oG ?_
      refine oN ?_
      refine thenQ_normal ?_
      refine WI.cond (b := _) rfl rfl (fun h1 => ?_) (fun h1 => ?_)
      · try simp only [zB] at h1
        refine WI.skip ?_
        refine thenQ_normal ?_
        refine WI.seq ?_
        refine WI.block ?_
        refine WI.seq ?_
        refine WI.dregB noTabs_ok [0, 1, 5, 25] ?_
        iterate 2 refine dFS ?_
        iterate 2 refine dQG ?_
        iterate 2 refine dFS ?_
        iterate 2 refine dQG ?_
        refine dFG ?_
        refine dN ?_
        refine thenQ_normal ?_
        refine WI.cond (b := _) rfl rfl (fun h2 => ?_) (fun h2 => ?_)
        · try simp only [zB] at h2
          refine WI.seq ?_
          refine WI.regB noTabs_ok [4] ?_
          refine oS ?_
          refine oN ?_
          refine thenQ_normal ?_
          refine WI.ret ?_
          refine blockQ_ret ?_
          refine thenQ_ret ?_
          refine thenQ_ret ?_
          refine blockQ_ret ?_
          refine thenQ_ret ?_
          first | refine lfR ?_ | refine lfR2 ?_
          rw [decide_eq_false (fun e => h2 (by subst e; rfl))] -- leaf 1
        · try simp only [zB] at h2
          refine WI.skip ?_
          refine blockQ_normal ?_
          refine thenQ_normal ?_
          refine WI.regB noTabs_ok [0, 1, 5] ?_
          refine oS ?_
          refine oG ?_
          refine oS ?_
          refine oN ?_
          refine thenQ_normal ?_
          exact ⟨⟨i + 1, by simp, rfl, by omega, take_extT he (by omega) (by omega) h2⟩, by simp [down, Ab.get, D.val, intOf?]; omega⟩
      · try simp only [zB] at h1
        refine WI.exit ?_
        refine thenQ_exit ?_
        refine thenQ_exit ?_
        refine blockQ_hit ?_
        refine thenQ_normal ?_
        refine WI.seq ?_
        refine WI.regB noTabs_ok [4] ?_
        refine oS ?_
        refine oN ?_
        refine thenQ_normal ?_
        refine WI.ret ?_
        first | refine lfR ?_ | refine lfR2 ?_
        rw [decide_eq_true]; rw [List.take_of_length_le (by omega), List.take_of_length_le (by omega)] at he; exact he -- leaf 2
def textsG : List D → Option (Bool × D)
  | [.x (.sl A), .x (.sl B)] => (unrows rStr A).bind fun a => (unrows rStr B).map fun b => (true, .x (.bool (decide (a = b))))
  | _ => none
theorem textsG_ok : ∀ args r, textsG args = some (true, r) → PCalls Tryd.prog 26 args r := by
  intro args r h
  unfold textsG at h
  split at h
  · simp only [Option.bind_eq_some_iff, Option.map_eq_some_iff] at h
    obtain ⟨a, h1, b, h2, h3⟩ := h
    cases h3
    rw [← rows_unrows good_rStr h1, ← rows_unrows good_rStr h2]
    exact texts_c a b
  · cases h
/-- With Texts. -/
def addTexts (S : Tabs) : Tabs := addQ S 26 (viaNN textsG)
theorem addTexts_ok {S : Tabs} (hS : SsOk Tryd.prog S) : SsOk Tryd.prog (addTexts S) := addQ_ok hS (G_enters G_ok (p := i26) rfl) (viaNN_ok textsG_ok)
end Go.Proofs.YtobflnngfochiaaDoor
end
section
/- Defs: names. -/
set_option linter.unusedSimpArgs false
set_option linter.unusedVariables false
namespace Go.Proofs.YtobflnngfochiaaDoor
open Go.RowKit Go.Bo Go.Ab

def isAl (b : UInt8) : Bool := decide ((97 ≤ b.toNat ∧ b.toNat ≤ 122) ∨ (65 ≤ b.toNat ∧ b.toNat ≤ 90))
def isDD (b : UInt8) : Bool := decide ((48 ≤ b.toNat ∧ b.toNat ≤ 57) ∨ b.toNat = 45)
def gdAt (i : Nat) (b : UInt8) : Bool := isAl b || (decide (0 < i) && isDD b)
def gdTo (s : List UInt8) : Nat → Bool
  | 0 => true
  | i + 1 => gdTo s i && (match s[i]? with | some b => gdAt i b | none => true)
theorem gdTo_succ {s : List UInt8} {i : Nat} (h : i < s.length) : gdTo s (i + 1) = (gdTo s i && gdAt i s[i]) := by
  rw [gdTo, List.getElem?_eq_getElem h]
theorem gdTo_mono {s : List UInt8} {i : Nat} (h : gdTo s i = false) : ∀ j, i ≤ j → gdTo s j = false := by
  intro j hj
  induction hj with
  | refl => exact h
  | step _ ih => rw [gdTo, ih]; rfl
theorem gdTo_past {s : List UInt8} : ∀ j, s.length ≤ j → gdTo s j = gdTo s s.length := by
  intro j hj
  induction hj with
  | refl => rfl
  | @step m hm ih => rw [gdTo, ih, List.getElem?_eq_none hm]; simp
def typB (s : List UInt8) : Bool := (!(s == []) && decide ((s.length : Int) ≤ 64)) && gdTo s s.length
theorem lowS_len (s : List UInt8) : (lowS s).length = s.length := by simp [lowS]
theorem lowS_get (s : List UInt8) (i : Nat) (h : i < s.length) : (lowS s)[i]'(by rw [lowS_len]; exact h) = lowC s[i] := by simp [lowS]
theorem low_al (b : UInt8) : (97 ≤ (lowC b).toNat ∧ (lowC b).toNat ≤ 122) ↔ isAl b = true := by
  unfold isAl
  rw [decide_eq_true_eq]
  by_cases h : 65 ≤ b.toNat ∧ b.toNat ≤ 90
  · have := lowC_up h; omega
  · rw [lowC_no h]; omega
theorem low_dd (b : UInt8) : ((48 ≤ (lowC b).toNat ∧ (lowC b).toNat ≤ 57) ∨ (lowC b).toNat = 45) ↔ isDD b = true := by
  unfold isDD
  rw [decide_eq_true_eq]
  by_cases h : 65 ≤ b.toNat ∧ b.toNat ≤ 90
  · have := lowC_up h; omega
  · rw [lowC_no h]
theorem low_hi (b : UInt8) (h : ¬ (lowC b).toNat < 128) : isAl b = false ∧ isDD b = false := by
  constructor
  · rw [Bool.eq_false_iff]; intro k; have := (low_al b).2 k; omega
  · rw [Bool.eq_false_iff]; intro k; have := (low_dd b).2 k; omega
/-- The test of a rune, as the code makes it. -/
def rnT (i : Nat) (r : Int) : Bool := (decide (97 ≤ r) && decide (r ≤ 122)) || (decide (0 < (i : Int)) && ((decide (48 ≤ r) && decide (r ≤ 57)) || r == 45))
theorem rnT_eq {s : List UInt8} {i : Nat} (h : i < s.length) : rnT i ((runeAt (lowS s) i).1 : Int) = gdAt i s[i] ∧ (gdAt i s[i] = true → (runeAt (lowS s) i).2 = 1) ∧ 1 ≤ (runeAt (lowS s) i).2 := by
  have h' : i < (lowS s).length := by rw [lowS_len]; exact h
  have e := lowS_get s i h
  by_cases hb : (lowC s[i]).toNat < 128
  · rw [runeAt_low h' (by rw [e]; exact hb), e]
    refine ⟨?_, fun _ => rfl, Nat.le_refl _⟩
    have h1 := low_al s[i]
    have h2 := low_dd s[i]
    generalize (lowC s[i]).toNat = n at h1 h2
    unfold rnT gdAt
    rw [Bool.eq_iff_iff]
    simp only [Bool.or_eq_true, Bool.and_eq_true, decide_eq_true_eq, beq_iff_eq, ← h1, ← h2]
    omega
  · obtain ⟨h1, h2⟩ := low_hi s[i] hb
    obtain ⟨h3, h4⟩ := runeAt_high h' (by rw [e]; exact hb)
    have hg : gdAt i s[i] = false := by unfold gdAt; rw [h1, h2]; simp
    refine ⟨?_, fun k => (by rw [hg] at k; cases k), h4⟩
    rw [hg]; unfold rnT
    rw [Bool.eq_false_iff]
    simp only [ne_eq, Bool.or_eq_true, Bool.and_eq_true, decide_eq_true_eq, beq_iff_eq]
    omega
theorem typed_step {s : List UInt8} {i : Nat} {a b : Bool} (h : i < s.length) (ha : b = (a && gdTo s i)) : (b && rnT i ((runeAt (lowS s) i).1 : Int)) = (a && gdTo s (i + (runeAt (lowS s) i).2)) := by
  obtain ⟨h1, h2, h3⟩ := rnT_eq h
  rw [h1, ha]
  cases hg : gdAt i s[i] with
  | true => rw [h2 hg, gdTo_succ h, hg]; simp
  | false =>
    have : gdTo s (i + 1) = false := by rw [gdTo_succ h, hg]; simp
    rw [gdTo_mono this (i + (runeAt (lowS s) i).2) (by omega)]; simp
def tabDf1 : Tabs := addQ (noTabs) 20 lowerG
theorem tabDf1_ok : SsOk Tryd.prog tabDf1 := addQ_ok (noTabs_ok) (G_enters G_ok (p := i20) rfl) lowerG_ok
theorem tabDf1_q20 (a : List D) : tabDf1.q 20 a = lowerG a := rfl
theorem tabDf1_r (f : FuncId) (a : List D) (o : List Ob) : tabDf1.r f a o = none := rfl
theorem tabDf1_k (f : FuncId) (a : List D) (o : List Ob) : tabDf1.k f a o = none := rfl
theorem typed_c (s : List UInt8) (hl : s.length ≤ 1000000) : PCalls Tryd.prog 27 [.x (.str s)] (.x (.bool (typB s))) := by
  have hll := lowS_len s
  refine FCalls.pure (fcallsG (fz := true) G_ok (p := i27) rfl _ (Nat.le_of_ble_eq_true rfl) _ (fun C0 E0 => ?_)) rfl
  dsimp only [i27, argsφ]
  have uu := And.intro @lowerG.eq_1 (And.intro @lowerG.eq_2 (And.intro @tabDf1_r (And.intro @tabDf1_k (@tabDf1_q20))))
  refine WI.seq ?_
  refine WI.regB tabDf1_ok [0] ?_
  refine oS ?_
  refine oN ?_
  refine thenQ_normal ?_
  refine WI.seq ?_
  refine WI.regB tabDf1_ok [0, 3] ?_
  refine oS ?_
  refine oG (hok := by first | with_reducible rfl | omega | (generalize decide (((runeAt (lowS s) i).1 : Int) ≥ 97) = p1; generalize decide (((runeAt (lowS s) i).1 : Int) ≤ 122) = p2; generalize decide ((i : Int) > 0) = p3; generalize decide (((runeAt (lowS s) i).1 : Int) ≥ 48) = p4; generalize decide (((runeAt (lowS s) i).1 : Int) ≤ 57) = p5; cases b <;> cases p1 <;> cases p2 <;> cases p3 <;> cases p4 <;> cases p5 <;> rfl) | (simp; done) | (simp; omega) | rfl) ?_
  refine oS ?_
  iterate 4 refine oG (hok := by first | with_reducible rfl | omega | (generalize decide (((runeAt (lowS s) i).1 : Int) ≥ 97) = p1; generalize decide (((runeAt (lowS s) i).1 : Int) ≤ 122) = p2; generalize decide ((i : Int) > 0) = p3; generalize decide (((runeAt (lowS s) i).1 : Int) ≥ 48) = p4; generalize decide (((runeAt (lowS s) i).1 : Int) ≤ 57) = p5; cases b <;> cases p1 <;> cases p2 <;> cases p3 <;> cases p4 <;> cases p5 <;> rfl) | (simp; done) | (simp; omega) | rfl) ?_
  refine oS ?_
  refine oN ?_
  refine thenQ_normal ?_
  refine WI.seq ?_
  refine WI.seq ?_
  refine WI.regB tabDf1_ok [3, 16] ?_
  refine oS ?_
  refine oC (hok := by first | with_reducible rfl | omega | (generalize decide (((runeAt (lowS s) i).1 : Int) ≥ 97) = p1; generalize decide (((runeAt (lowS s) i).1 : Int) ≤ 122) = p2; generalize decide ((i : Int) > 0) = p3; generalize decide (((runeAt (lowS s) i).1 : Int) ≥ 48) = p4; generalize decide (((runeAt (lowS s) i).1 : Int) ≤ 57) = p5; cases b <;> cases p1 <;> cases p2 <;> cases p3 <;> cases p4 <;> cases p5 <;> rfl) | (simp; done) | (simp; omega) | rfl) ?_
  refine oG (hok := by first | with_reducible rfl | omega | (generalize decide (((runeAt (lowS s) i).1 : Int) ≥ 97) = p1; generalize decide (((runeAt (lowS s) i).1 : Int) ≤ 122) = p2; generalize decide ((i : Int) > 0) = p3; generalize decide (((runeAt (lowS s) i).1 : Int) ≥ 48) = p4; generalize decide (((runeAt (lowS s) i).1 : Int) ≤ 57) = p5; cases b <;> cases p1 <;> cases p2 <;> cases p3 <;> cases p4 <;> cases p5 <;> rfl) | (simp; done) | (simp; omega) | rfl) ?_
  refine oN ?_
  refine thenQ_normal ?_
  refine WI.block ?_
  refine WI.loop (fun φ os => ∃ (i : Nat) (b : Bool), φ = [(3, .x (.bool b)), (16, .iref 0 0)] ∧ os = [.sit (lowS s) i] ∧ b = ((!(s == []) && decide ((s.length : Int) ≤ 64)) && gdTo s i)) (strI s.length 0) ?_ (fun φ os hI => ?_)
  · exact ⟨0, _, rfl, rfl, by simp [gdTo]⟩
  · obtain ⟨i, b, rfl, rfl, hb⟩ := hI
    refine WI.seq ?_
    refine WI.nextSA [3, 16, 17, 18] (fun hn3 => ?_) (fun hn3 => ?_)
    · have hbt : b = typB s := by rw [hb]; unfold typB; rw [gdTo_past i (by omega)]
      refine thenQ_normal ?_
      refine WI.seq ?_
      refine WI.cond (b := _) rfl rfl (fun h0 => ?_) (fun h0 => ?_)
      · exact absurd h0 (by decide)
      · try simp only [zB] at h0
        refine WI.exit ?_
        refine thenQ_exit ?_
        refine thenQ_exit ?_
        refine blockQ_hit ?_
        refine thenQ_normal ?_
        refine WI.seq ?_
        refine WI.regB tabDf1_ok [2] ?_
        iterate 2 refine oS ?_
        refine oN ?_
        refine thenQ_normal ?_
        refine WI.ret ?_
        first | refine lfR ?_ | refine lfR2 ?_
        rw [hbt] -- leaf 0
    · have his : i < s.length := by omega
      have hst := typed_step (a := (!(s == []) && decide ((s.length : Int) ≤ 64))) his hb
      have hw := (rnT_eq his).2.2
      refine thenQ_normal ?_
      refine WI.seq ?_
      refine WI.cond (b := _) rfl rfl (fun h0 => ?_) (fun h0 => ?_)
      · try simp only [zB] at h0
        refine WI.skip ?_
        refine thenQ_normal ?_
        refine WI.block ?_
        refine WI.seq ?_
        refine WI.regB tabDf1_ok [3, 4, 5, 16] ?_
        iterate 2 refine oG (hok := by first | with_reducible rfl | omega | (generalize decide (((runeAt (lowS s) i).1 : Int) ≥ 97) = p1; generalize decide (((runeAt (lowS s) i).1 : Int) ≤ 122) = p2; generalize decide ((i : Int) > 0) = p3; generalize decide (((runeAt (lowS s) i).1 : Int) ≥ 48) = p4; generalize decide (((runeAt (lowS s) i).1 : Int) ≤ 57) = p5; cases b <;> cases p1 <;> cases p2 <;> cases p3 <;> cases p4 <;> cases p5 <;> rfl) | (simp; done) | (simp; omega) | rfl) ?_
        iterate 2 refine oS ?_
        refine oN ?_
        refine thenQ_normal ?_
        refine WI.seq ?_
        refine WI.regB tabDf1_ok [3, 4, 5, 6, 16] ?_
        refine oS ?_
        refine oG (hok := by first | with_reducible rfl | omega | (generalize decide (((runeAt (lowS s) i).1 : Int) ≥ 97) = p1; generalize decide (((runeAt (lowS s) i).1 : Int) ≤ 122) = p2; generalize decide ((i : Int) > 0) = p3; generalize decide (((runeAt (lowS s) i).1 : Int) ≥ 48) = p4; generalize decide (((runeAt (lowS s) i).1 : Int) ≤ 57) = p5; cases b <;> cases p1 <;> cases p2 <;> cases p3 <;> cases p4 <;> cases p5 <;> rfl) | (simp; done) | (simp; omega) | rfl) ?_
        refine oS ?_
        iterate 3 refine oG (hok := by first | with_reducible rfl | omega | (generalize decide (((runeAt (lowS s) i).1 : Int) ≥ 97) = p1; generalize decide (((runeAt (lowS s) i).1 : Int) ≤ 122) = p2; generalize decide ((i : Int) > 0) = p3; generalize decide (((runeAt (lowS s) i).1 : Int) ≥ 48) = p4; generalize decide (((runeAt (lowS s) i).1 : Int) ≤ 57) = p5; cases b <;> cases p1 <;> cases p2 <;> cases p3 <;> cases p4 <;> cases p5 <;> rfl) | (simp; done) | (simp; omega) | rfl) ?_
        refine oS ?_
        refine oN ?_
        refine thenQ_normal ?_
        refine WI.regB tabDf1_ok [3, 16] ?_
        iterate 2 refine oS ?_
        iterate 18 refine oG (hok := by first | with_reducible rfl | omega | (generalize decide (((runeAt (lowS s) i).1 : Int) ≥ 97) = p1; generalize decide (((runeAt (lowS s) i).1 : Int) ≤ 122) = p2; generalize decide ((i : Int) > 0) = p3; generalize decide (((runeAt (lowS s) i).1 : Int) ≥ 48) = p4; generalize decide (((runeAt (lowS s) i).1 : Int) ≤ 57) = p5; cases b <;> cases p1 <;> cases p2 <;> cases p3 <;> cases p4 <;> cases p5 <;> rfl) | (simp; done) | (simp; omega) | rfl) ?_
        refine oS ?_
        refine oN ?_
        refine blockQ_normal ?_
        refine thenQ_normal ?_
        exact ⟨⟨_, _, rfl, rfl, by rw [← hst]; rfl⟩, by simp [strI]; omega⟩
      · exact absurd h0 (by decide)
def typedG : List D → Option (Bool × D)
  | [.x (.str s)] => some (decide (s.length ≤ 1000000), .x (.bool (typB s)))
  | _ => none
theorem typedG_ok : ∀ args r, typedG args = some (true, r) → PCalls Tryd.prog 27 args r := by
  intro args r h
  unfold typedG at h
  split at h
  · rename_i s
    simp only [Option.some.injEq, Prod.mk.injEq, Bool.and_eq_true, decide_eq_true_eq, true_and] at h
    obtain ⟨h1, rfl⟩ := h
    exact (typed_c s h1)
  · cases h
theorem gd_al (i : Nat) (b : UInt8) : gdAt i b = ((decide (97 ≤ (b.toNat : Int)) && decide ((b.toNat : Int) ≤ 122) || decide (65 ≤ (b.toNat : Int)) && decide ((b.toNat : Int) ≤ 90)) || (decide (0 < (i : Int)) && (decide (48 ≤ (b.toNat : Int)) && decide ((b.toNat : Int) ≤ 57) || (b.toNat : Int) == 45))) := by
  unfold gdAt isAl isDD
  rw [Bool.eq_iff_iff]
  simp only [Bool.or_eq_true, Bool.and_eq_true, decide_eq_true_eq, beq_iff_eq]
  omega
theorem typedR_c (s : List UInt8) (hl : s.length ≤ 1000000) : PCalls Tryd.prog 30 [.x (.str s)] (.x (.bool (typB s))) := by
  refine FCalls.pure (fcallsG (fz := true) G_ok (p := i30) rfl _ (Nat.le_of_ble_eq_true rfl) _ (fun C0 E0 => ?_)) rfl
  dsimp only [i30, argsφ]
  have uu := trivial
  refine WI.seq ?_
  refine WI.regB noTabs_ok [0] ?_
  refine oS ?_
  refine oN ?_
  refine thenQ_normal ?_
  refine WI.seq ?_
  refine WI.seq ?_
  refine WI.regB noTabs_ok [0, 3] ?_
  refine oS ?_
  refine oN ?_
  refine thenQ_normal ?_
  refine WI.block ?_
  refine WI.loop (fun φ os => ∃ (i : Nat), φ = [(0, .x (.str s)), (3, .x (.int .i64 i))] ∧ os = [] ∧ i ≤ s.length ∧ gdTo s i = true) (down s.length 3) ?_ (fun φ os hI => ?_)
  · exact ⟨0, rfl, rfl, by omega, rfl⟩
  · obtain ⟨i, rfl, rfl, hi, hg⟩ := hI
    refine WI.seq ?_
    refine WI.seq ?_
    refine WI.regB noTabs_ok [0, 3, 9] ?_
    iterate 2 refine oS ?_
    iterate 2 refine oG ?_
    refine oN ?_
    refine thenQ_normal ?_
    refine WI.cond (b := _) rfl rfl (fun h0 => ?_) (fun h0 => ?_)
    · try simp only [zB] at h0
      refine WI.skip ?_
      refine thenQ_normal ?_
      refine WI.seq ?_
      refine WI.block ?_
      refine WI.seq ?_
      have his : i < s.length := by omega
      have eg : s.getD i 0 = s[i] := by simp [his]
      refine WI.regB noTabs_ok [0, 3, 4] ?_
      iterate 2 refine oS ?_
      refine oG ?_
      refine oS ?_
      refine oN ?_
      refine thenQ_normal ?_
      refine WI.seq ?_
      refine WI.regB noTabs_ok [0, 3, 4, 5] ?_
      refine oS ?_
      refine oG ?_
      refine oS ?_
      iterate 3 refine oG ?_
      refine oS ?_
      iterate 7 refine oG ?_
      refine oS ?_
      refine oN ?_
      refine thenQ_normal ?_
      refine WI.seq ?_
      refine WI.regB noTabs_ok [0, 3, 47] ?_
      refine oS ?_
      refine oG ?_
      refine oS ?_
      iterate 16 refine oG ?_
      refine oN ?_
      refine thenQ_normal ?_
      refine WI.cond (b := _) rfl rfl (fun h1 => ?_) (fun h1 => ?_)
      · try simp only [zB] at h1
        rw [eg] at h1
        have hbad : gdAt i s[i] = false := by
          rw [gd_al, Bool.eq_false_iff]
          simp only [ne_eq, Bool.or_eq_true, Bool.and_eq_true, decide_eq_true_eq, beq_iff_eq]
          omega
        have ht : typB s = false := by
          have : gdTo s (i + 1) = false := by rw [gdTo_succ his, hbad]; simp
          unfold typB; rw [gdTo_mono this s.length (by omega)]; simp
        refine WI.seq ?_
        refine WI.regB noTabs_ok [2] ?_
        refine oS ?_
        refine oN ?_
        refine thenQ_normal ?_
        refine WI.ret ?_
        refine blockQ_ret ?_
        refine thenQ_ret ?_
        refine thenQ_ret ?_
        refine blockQ_ret ?_
        refine thenQ_ret ?_
        first | refine lfR ?_ | refine lfR2 ?_
        rw [ht] -- leaf 0
      · try simp only [zB] at h1
        rw [eg] at h1
        have hgd : gdAt i s[i] = true := by
          rw [gd_al]
          simp only [Bool.or_eq_true, Bool.and_eq_true, decide_eq_true_eq, beq_iff_eq]
          omega
        have hg2 : gdTo s (i + 1) = true := by rw [gdTo_succ his, hg, hgd]; rfl
        refine WI.skip ?_
        refine blockQ_normal ?_
        refine thenQ_normal ?_
        refine WI.regB noTabs_ok [0, 3] ?_
        refine oS ?_
        refine oG ?_
        refine oS ?_
        refine oN ?_
        refine thenQ_normal ?_
        exact ⟨⟨i + 1, rfl, rfl, by omega, hg2⟩, by simp [down, Ab.get, D.val, intOf?]; omega⟩
    · try simp only [zB] at h0
      refine WI.exit ?_
      refine thenQ_exit ?_
      refine thenQ_exit ?_
      refine blockQ_hit ?_
      refine thenQ_normal ?_
      refine WI.seq ?_
      refine WI.regB noTabs_ok [2] ?_
      refine oS ?_
      iterate 2 refine oG ?_
      refine oS ?_
      iterate 4 refine oG ?_
      refine oS ?_
      refine oN ?_
      refine thenQ_normal ?_
      refine WI.ret ?_
      first | refine lfR ?_ | refine lfR2 ?_
      have e : i = s.length := by omega
      subst e; unfold typB; rw [hg, Bool.and_true]
      cases s with
      | nil => rfl
      | cons b l => simp; intro _; omega -- leaf 1
end Go.Proofs.YtobflnngfochiaaDoor
end
section
/- Defs: types. -/
set_option linter.unusedSimpArgs false
set_option linter.unusedVariables false
namespace Go.Proofs.YtobflnngfochiaaDoor
open Go.RowKit Go.Bo Go.Ab

abbrev mt1 : List UInt8 := [99, 97, 115, 101, 73, 103, 110, 111, 114, 101, 77, 97, 116, 99, 104]
abbrev mt2 : List UInt8 := [99, 97, 115, 101, 69, 120, 97, 99, 116, 77, 97, 116, 99, 104]
abbrev mt3 : List UInt8 := [105, 110, 116, 101, 103, 101, 114, 77, 97, 116, 99, 104]
abbrev mt4 : List UInt8 := [111, 99, 116, 101, 116, 83, 116, 114, 105, 110, 103, 77, 97, 116, 99, 104]
abbrev mt5 : List UInt8 := [100, 105, 115, 116, 105, 110, 103, 117, 105, 115, 104, 101, 100, 78, 97, 109, 101, 77, 97, 116, 99, 104]
abbrev wNAME : List UInt8 := [78, 65, 77, 69]
abbrev wEQ : List UInt8 := [69, 81, 85, 65, 76, 73, 84, 89]
abbrev wSV : List UInt8 := [83, 73, 78, 71, 76, 69, 45, 86, 65, 76, 85, 69]
abbrev wMUST : List UInt8 := [77, 85, 83, 84]
abbrev wMAY : List UInt8 := [77, 65, 89]
/-- The word of a rule. -/
def ruleN (r : Int) : List UInt8 := if r = 1 then mt1 else if r = 2 then mt2 else if r = 3 then mt3 else if r = 4 then mt4 else mt5
def wordsT (n : List UInt8) (r : Int) (b : Bool) : List (List UInt8) := [[40], wNAME, 39 :: n ++ [39], wEQ, ruleN r] ++ (if b then [wSV] else []) ++ [[41]]
def putT (n : List UInt8) (r : Int) (b : Bool) : List UInt8 × Int := if typB n then if 1 ≤ r ∧ r ≤ 5 then (jn (wordsT n r b), 0) else ([], 1) else ([], 13)
theorem un_s (l : List (List UInt8)) : unrows rStr (rows rStr l) = some l := unrows_rows good_rStr l
theorem rul5 {r : Int} (h : 1 ≤ r ∧ r ≤ 5) : r = 1 ∨ r = 2 ∨ r = 3 ∨ r = 4 ∨ r = 5 := by omega
theorem un_s6 (a b c d e f : List UInt8) : unrows rStr [[.str a], [.str b], [.str c], [.str d], [.str e], [.str f]] = some [a, b, c, d, e, f] := rfl
theorem un_s7 (a b c d e f g : List UInt8) : unrows rStr [[.str a], [.str b], [.str c], [.str d], [.str e], [.str f], [.str g]] = some [a, b, c, d, e, f, g] := rfl
theorem matches_c : PCalls Tryd.prog 28 [] (.agg [.x (.str mt1), .x (.str mt2), .x (.str mt3), .x (.str mt4), .x (.str mt5)]) := by
  refine FCalls.pure (fcallsG (fz := true) G_ok (p := i28) rfl _ (Nat.le_of_ble_eq_true rfl) _ (fun C0 E0 => ?_)) rfl
  dsimp only [i28, argsφ]
  have uu := trivial
  refine WI.seq ?_
  refine WI.regB noTabs_ok [0] ?_
  refine oG ?_
  refine oN ?_
  refine thenQ_normal ?_
  refine WI.seq ?_
  refine WI.regB noTabs_ok [0] ?_
  iterate 2 refine oG ?_
  refine oN ?_
  refine thenQ_normal ?_
  refine WI.ret ?_
  first | refine lfR ?_ | refine lfR2 ?_
  first | rfl | exact ⟨rfl, rfl⟩ | trivial -- leaf 0
def matchesG : List D → Option (Bool × D)
  | [] => some (true, .agg [.x (.str mt1), .x (.str mt2), .x (.str mt3), .x (.str mt4), .x (.str mt5)])
  | _ => none
theorem matchesG_ok : ∀ args r, matchesG args = some (true, r) → PCalls Tryd.prog 28 args r := by
  intro args r h
  unfold matchesG at h
  split at h
  · simp only [Option.some.injEq, Prod.mk.injEq, Bool.and_eq_true, decide_eq_true_eq, true_and] at h
    obtain rfl := h
    exact matches_c
  · cases h
def typedRG : List D → Option (Bool × D)
  | [.x (.str s)] => some (decide (s.length ≤ 1000000), .x (.bool (typB s)))
  | _ => none
theorem typedRG_ok : ∀ args r, typedRG args = some (true, r) → PCalls Tryd.prog 30 args r := by
  intro args r h
  unfold typedRG at h
  split at h
  · rename_i s
    simp only [Option.some.injEq, Prod.mk.injEq, Bool.and_eq_true, decide_eq_true_eq, true_and] at h
    obtain ⟨h1, rfl⟩ := h
    exact (typedR_c s h1)
  · cases h
def tabDf2 : Tabs := addT (addQ (addQ (addQ (addQ (noTabs) 28 matchesG) 27 typedG) 30 typedRG) 29 joinG) 29 (frzT joinG)
theorem tabDf2_ok : SsOk Tryd.prog tabDf2 := addT_ok (addQ_ok (addQ_ok (addQ_ok (addQ_ok (noTabs_ok) (G_enters G_ok (p := i28) rfl) matchesG_ok) (G_enters G_ok (p := i27) rfl) typedG_ok) (G_enters G_ok (p := i30) rfl) typedRG_ok) join_enters joinG_ok) join_enters (frzT_ok joinG_ok)
theorem tabDf2_q28 (a : List D) : tabDf2.q 28 a = matchesG a := rfl
theorem tabDf2_q27 (a : List D) : tabDf2.q 27 a = typedG a := rfl
theorem tabDf2_q30 (a : List D) : tabDf2.q 30 a = typedRG a := rfl
theorem tabDf2_q29 (a : List D) : tabDf2.q 29 a = joinG a := rfl
theorem tabDf2_t29 (a : List D) (o : List Ob) : tabDf2.t 29 a o = liftT (frzT joinG) a o := rfl
theorem tabDf2_r (f : FuncId) (a : List D) (o : List Ob) : tabDf2.r f a o = none := rfl
theorem tabDf2_k (f : FuncId) (a : List D) (o : List Ob) : tabDf2.k f a o = none := rfl
theorem putType_c (n : List UInt8) (r : Int) (b : Bool) (hl : n.length ≤ 1000) : PCalls Tryd.prog 12 [.agg [.x (.str n), .x (.int .i64 r), .x (.bool b)]] (.tup [.x (.str (putT n r b).1), .x (.int .i64 (putT n r b).2)]) := by
  by_cases ht : typB n = true
  · by_cases hr : 1 ≤ r ∧ r ≤ 5
    · have hp : putT n r b = (jn (wordsT n r b), 0) := by unfold putT; rw [if_pos ht, if_pos hr]
      rw [hp]
      rcases rul5 hr with rfl | rfl | rfl | rfl | rfl
      all_goals
        refine FCalls.pure (fcallsG (fz := true) G_ok (p := i12) rfl _ (Nat.le_of_ble_eq_true rfl) _ (fun C0 E0 => ?_)) rfl
        dsimp only [i12, argsφ]
        have uu := And.intro @matchesG.eq_1 (And.intro @matchesG.eq_2 (And.intro @typedG.eq_1 (And.intro @typedG.eq_2 (And.intro @joinG.eq_1 (And.intro @joinG.eq_2 (And.intro @un_s6 (And.intro @un_s7 (And.intro ht (And.intro @tabDf2_r (And.intro @tabDf2_k (And.intro @tabDf2_q27 (And.intro @tabDf2_q28 (And.intro @tabDf2_q29 (And.intro @tabDf2_q30 (And.intro @tabDf2_t29 (And.intro @frzT.eq_1 (And.intro @typedRG.eq_1 (@typedRG.eq_2))))))))))))))))))
        refine WI.seq ?_
        refine WI.regB tabDf2_ok [1] ?_
        refine oG (hok := by first | with_reducible rfl | omega | (rw [join_jn]; simp [jn, mt1, mt2, mt3, mt4, mt5]; omega) | (simp; done) | (simp; omega) | rfl) ?_
        iterate 2 refine oS ?_
        refine oN ?_
        refine thenQ_normal ?_
        refine WI.seq ?_
        refine WI.block ?_
        refine WI.seq ?_
        refine WI.regB tabDf2_ok [1, 5] ?_
        refine oS ?_
        refine oG (hok := by first | with_reducible rfl | omega | (rw [join_jn]; simp [jn, mt1, mt2, mt3, mt4, mt5]; omega) | (simp; done) | (simp; omega) | rfl) ?_
        refine oC (hok := by first | with_reducible rfl | omega | (rw [join_jn]; simp [jn, mt1, mt2, mt3, mt4, mt5]; omega) | (simp; done) | (simp; omega) | rfl) ?_
        refine oG (hok := by first | with_reducible rfl | omega | (rw [join_jn]; simp [jn, mt1, mt2, mt3, mt4, mt5]; omega) | (simp; done) | (simp; omega) | rfl) ?_
        refine oS ?_
        refine oN ?_
        refine thenQ_normal ?_
        refine WI.cond (b := _) rfl rfl (fun h0 => ?_) (fun h0 => ?_)
        · exfalso
          simp at h0
        · try simp only [zB] at h0
          refine WI.seq ?_
          refine WI.regB tabDf2_ok [1, 10] ?_
          refine oS ?_
          iterate 2 refine oG (hok := by first | with_reducible rfl | omega | (rw [join_jn]; simp [jn, mt1, mt2, mt3, mt4, mt5]; omega) | (simp; done) | (simp; omega) | rfl) ?_
          refine oS ?_
          iterate 4 refine oG (hok := by first | with_reducible rfl | omega | (rw [join_jn]; simp [jn, mt1, mt2, mt3, mt4, mt5]; omega) | (simp; done) | (simp; omega) | rfl) ?_
          refine oS ?_
          refine oN ?_
          refine thenQ_normal ?_
          refine WI.cond (b := _) rfl rfl (fun h1 => ?_) (fun h1 => ?_)
          · exfalso
            simp at h1
          · try simp only [zB] at h1
            refine WI.skip ?_
            refine blockQ_normal ?_
            refine thenQ_normal ?_
            refine WI.seq ?_
            refine WI.dregB tabDf2_ok [1, 4] ?_
            refine dFS ?_
            refine dQG (hok := by first | with_reducible rfl | omega | (rw [join_jn]; simp [jn, mt1, mt2, mt3, mt4, mt5]; omega) | (simp; done) | (simp; omega) | rfl) ?_
            iterate 2 refine dFG (hok := by first | with_reducible rfl | omega | (rw [join_jn]; simp [jn, mt1, mt2, mt3, mt4, mt5]; omega) | (simp; done) | (simp; omega) | rfl) ?_
            refine dQC (hok := by first | with_reducible rfl | omega | (rw [join_jn]; simp [jn, mt1, mt2, mt3, mt4, mt5]; omega) | (simp; done) | (simp; omega) | rfl) ?_
            refine dFS ?_
            refine dQG (hok := by first | with_reducible rfl | omega | (rw [join_jn]; simp [jn, mt1, mt2, mt3, mt4, mt5]; omega) | (simp; done) | (simp; omega) | rfl) ?_
            iterate 2 refine dFG (hok := by first | with_reducible rfl | omega | (rw [join_jn]; simp [jn, mt1, mt2, mt3, mt4, mt5]; omega) | (simp; done) | (simp; omega) | rfl) ?_
            refine dAG (hok := by first | with_reducible rfl | omega | (rw [join_jn]; simp [jn, mt1, mt2, mt3, mt4, mt5]; omega) | (simp; done) | (simp; omega) | rfl) ?_
            refine dFS ?_
            refine dN ?_
            refine thenQ_normal ?_
            refine WI.seq ?_
            refine WI.seq ?_
            refine WI.regB tabDf2_ok [4, 30] ?_
            refine oS ?_
            refine oG (hok := by first | with_reducible rfl | omega | (rw [join_jn]; simp [jn, mt1, mt2, mt3, mt4, mt5]; omega) | (simp; done) | (simp; omega) | rfl) ?_
            refine oN ?_
            refine thenQ_normal ?_
            refine WI.cond (b := _) rfl rfl (fun h2 => ?_) (fun h2 => ?_)
            · try simp only [zB] at h2
              subst h2
              refine WI.regB tabDf2_ok [4] ?_
              refine oS ?_
              iterate 2 refine oG (hok := by first | with_reducible rfl | omega | (rw [join_jn]; simp [jn, mt1, mt2, mt3, mt4, mt5]; omega) | (simp; done) | (simp; omega) | rfl) ?_
              refine oS ?_
              refine oN ?_
              refine thenQ_normal ?_
              refine WI.seq ?_
              refine WI.regB tabDf2_ok [2, 3] ?_
              refine oS ?_
              iterate 2 refine oG (hok := by first | with_reducible rfl | omega | (rw [join_jn]; simp [jn, mt1, mt2, mt3, mt4, mt5]; omega) | (simp; done) | (simp; omega) | rfl) ?_
              refine oC (hok := by first | with_reducible rfl | omega | (rw [join_jn]; simp [jn, mt1, mt2, mt3, mt4, mt5]; omega) | (simp; done) | (simp; omega) | rfl) ?_
              iterate 2 refine oS ?_
              refine oN ?_
              refine thenQ_normal ?_
              refine WI.ret ?_
              first | refine lfR ?_ | refine lfR2 ?_
              rw [join_jn]; rfl -- leaf 0
            · try simp only [zB] at h2
              subst h2
              refine WI.skip ?_
              refine thenQ_normal ?_
              refine WI.seq ?_
              refine WI.regB tabDf2_ok [2, 3] ?_
              refine oS ?_
              iterate 2 refine oG (hok := by first | with_reducible rfl | omega | (rw [join_jn]; simp [jn, mt1, mt2, mt3, mt4, mt5]; omega) | (simp; done) | (simp; omega) | rfl) ?_
              refine oC (hok := by first | with_reducible rfl | omega | (rw [join_jn]; simp [jn, mt1, mt2, mt3, mt4, mt5]; omega) | (simp; done) | (simp; omega) | rfl) ?_
              iterate 2 refine oS ?_
              refine oN ?_
              refine thenQ_normal ?_
              refine WI.ret ?_
              first | refine lfR ?_ | refine lfR2 ?_
              rw [join_jn]; rfl -- leaf 1
    · have hp : putT n r b = ([], 1) := by unfold putT; rw [if_pos ht, if_neg hr]
      rw [hp]
      refine FCalls.pure (fcallsG (fz := true) G_ok (p := i12) rfl _ (Nat.le_of_ble_eq_true rfl) _ (fun C0 E0 => ?_)) rfl
      dsimp only [i12, argsφ]
      have uu := And.intro @typedG.eq_1 (And.intro @typedG.eq_2 (And.intro ht (And.intro @tabDf2_r (And.intro @tabDf2_k (And.intro @tabDf2_q27 (And.intro @tabDf2_q28 (And.intro @tabDf2_q29 (And.intro @tabDf2_q30 (And.intro @tabDf2_t29 (And.intro @frzT.eq_1 (And.intro @joinG.eq_1 (And.intro @joinG.eq_2 (And.intro @matchesG.eq_1 (And.intro @matchesG.eq_2 (And.intro @typedRG.eq_1 (@typedRG.eq_2))))))))))))))))
      refine WI.seq ?_
      refine WI.regB tabDf2_ok [1] ?_
      refine oG ?_
      iterate 2 refine oS ?_
      refine oN ?_
      refine thenQ_normal ?_
      refine WI.seq ?_
      refine WI.block ?_
      refine WI.seq ?_
      refine WI.regB tabDf2_ok [1, 5] ?_
      refine oS ?_
      refine oG ?_
      refine oC ?_
      refine oG ?_
      refine oS ?_
      refine oN ?_
      refine thenQ_normal ?_
      refine WI.cond (b := _) rfl rfl (fun h0 => ?_) (fun h0 => ?_)
      · exfalso
        simp at h0
      · try simp only [zB] at h0
        refine WI.seq ?_
        refine WI.regB tabDf2_ok [1, 10] ?_
        refine oS ?_
        iterate 2 refine oG ?_
        refine oS ?_
        iterate 4 refine oG ?_
        refine oS ?_
        refine oN ?_
        refine thenQ_normal ?_
        refine WI.cond (b := _) rfl rfl (fun h1 => ?_) (fun h1 => ?_)
        · try simp only [zB] at h1
          refine WI.seq ?_
          refine WI.regB tabDf2_ok [2, 3] ?_
          iterate 2 refine oS ?_
          refine oN ?_
          refine thenQ_normal ?_
          refine WI.ret ?_
          refine blockQ_ret ?_
          refine thenQ_ret ?_
          first | refine lfR ?_ | refine lfR2 ?_
          first | rfl | exact ⟨rfl, rfl⟩ | trivial -- leaf 0
        · exfalso
          simp at h1; omega
  · have hp : putT n r b = ([], 13) := by unfold putT; rw [if_neg ht]
    rw [hp]
    have ht2 : typB n = false := by simpa using ht
    refine FCalls.pure (fcallsG (fz := true) G_ok (p := i12) rfl _ (Nat.le_of_ble_eq_true rfl) _ (fun C0 E0 => ?_)) rfl
    dsimp only [i12, argsφ]
    have uu := And.intro @typedG.eq_1 (And.intro @typedG.eq_2 (And.intro ht2 (And.intro @tabDf2_r (And.intro @tabDf2_k (And.intro @tabDf2_q27 (And.intro @tabDf2_q28 (And.intro @tabDf2_q29 (And.intro @tabDf2_q30 (And.intro @tabDf2_t29 (And.intro @frzT.eq_1 (And.intro @joinG.eq_1 (And.intro @joinG.eq_2 (And.intro @matchesG.eq_1 (And.intro @matchesG.eq_2 (And.intro @typedRG.eq_1 (@typedRG.eq_2))))))))))))))))
    refine WI.seq ?_
    refine WI.regB tabDf2_ok [1] ?_
    refine oG ?_
    iterate 2 refine oS ?_
    refine oN ?_
    refine thenQ_normal ?_
    refine WI.seq ?_
    refine WI.block ?_
    refine WI.seq ?_
    refine WI.regB tabDf2_ok [1, 5] ?_
    refine oS ?_
    refine oG ?_
    refine oC ?_
    refine oG ?_
    refine oS ?_
    refine oN ?_
    refine thenQ_normal ?_
    refine WI.cond (b := _) rfl rfl (fun h0 => ?_) (fun h0 => ?_)
    · try simp only [zB] at h0
      refine WI.seq ?_
      refine WI.regB tabDf2_ok [2, 3] ?_
      iterate 2 refine oS ?_
      refine oN ?_
      refine thenQ_normal ?_
      refine WI.ret ?_
      refine blockQ_ret ?_
      refine thenQ_ret ?_
      first | refine lfR ?_ | refine lfR2 ?_
      first | rfl | exact ⟨rfl, rfl⟩ | trivial -- leaf 0
    · exfalso
      simp at h0
/-- The definition's text as the law makes it. -/
def txtT (n : List UInt8) (r : Int) (b : Bool) : List UInt8 := (([40, 32, 78, 65, 77, 69, 32, 39] ++ n ++ [39, 32, 69, 81, 85, 65, 76, 73, 84, 89, 32] ++ ruleN r) ++ (if b then 32 :: wSV else [])) ++ [32, 41]
theorem txtT_eq (n : List UInt8) (r : Int) (b : Bool) : jn (wordsT n r b) = txtT n r b := by
  unfold wordsT txtT
  cases b <;> simp [jn, wNAME, wEQ, wSV]
theorem putTR_c (n : List UInt8) (r : Int) (b : Bool) (hl : n.length ≤ 1000) : PCalls Tryd.prog 13 [.agg [.x (.str n), .x (.int .i64 r), .x (.bool b)]] (.tup [.x (.str (putT n r b).1), .x (.int .i64 (putT n r b).2)]) := by
  by_cases ht : typB n = true
  · by_cases hr : 1 ≤ r ∧ r ≤ 5
    · have hp : putT n r b = (jn (wordsT n r b), 0) := by unfold putT; rw [if_pos ht, if_pos hr]
      rw [hp, txtT_eq]
      rcases rul5 hr with rfl | rfl | rfl | rfl | rfl
      all_goals
        refine FCalls.pure (fcallsG (fz := true) G_ok (p := i13) rfl _ (Nat.le_of_ble_eq_true rfl) _ (fun C0 E0 => ?_)) rfl
        dsimp only [i13, argsφ]
        have uu := And.intro @typedRG.eq_1 (And.intro @typedRG.eq_2 (And.intro ht (And.intro @tabDf2_r (And.intro @tabDf2_k (And.intro @tabDf2_q27 (And.intro @tabDf2_q28 (And.intro @tabDf2_q29 (And.intro @tabDf2_q30 (And.intro @tabDf2_t29 (And.intro @frzT.eq_1 (And.intro @joinG.eq_1 (And.intro @joinG.eq_2 (And.intro @matchesG.eq_1 (And.intro @matchesG.eq_2 (And.intro @typedG.eq_1 (@typedG.eq_2))))))))))))))))
        refine WI.seq ?_
        refine WI.regB tabDf2_ok [1] ?_
        refine oG ?_
        iterate 2 refine oS ?_
        refine oN ?_
        refine thenQ_normal ?_
        refine WI.seq ?_
        refine WI.seq ?_
        refine WI.regB tabDf2_ok [1, 9] ?_
        refine oS ?_
        refine oG ?_
        refine oC ?_
        refine oG ?_
        refine oN ?_
        refine thenQ_normal ?_
        refine WI.cond (b := _) rfl rfl (fun h0 => ?_) (fun h0 => ?_)
        · exfalso
          simp at h0
        · try simp only [zB] at h0
          refine WI.skip ?_
          refine thenQ_normal ?_
          refine WI.seq ?_
          refine WI.seq ?_
          refine WI.regB tabDf2_ok [1, 17] ?_
          refine oS ?_
          iterate 2 refine oG ?_
          refine oS ?_
          iterate 4 refine oG ?_
          refine oN ?_
          refine thenQ_normal ?_
          refine WI.cond (b := _) rfl rfl (fun h1 => ?_) (fun h1 => ?_)
          · exfalso
            simp at h1
          · try simp only [zB] at h1
            refine WI.skip ?_
            refine thenQ_normal ?_
            refine WI.seq ?_
            refine WI.regB tabDf2_ok [1, 4] ?_
            refine oG ?_
            refine oS ?_
            refine oN ?_
            refine thenQ_normal ?_
            refine WI.seq ?_
            refine WI.dregB tabDf2_ok [1, 5] ?_
            refine dFS ?_
            refine dQG ?_
            iterate 2 refine dFG ?_
            iterate 2 refine dFS ?_
            refine dQG ?_
            refine dFG ?_
            iterate 2 refine dQG ?_
            refine dFG ?_
            refine dFS ?_
            refine dN ?_
            refine thenQ_normal ?_
            refine WI.seq ?_
            refine WI.seq ?_
            refine WI.regB tabDf2_ok [5, 31] ?_
            refine oS ?_
            refine oG ?_
            refine oN ?_
            refine thenQ_normal ?_
            refine WI.cond (b := _) rfl rfl (fun h2 => ?_) (fun h2 => ?_)
            · try simp only [zB] at h2
              subst h2
              refine WI.regB tabDf2_ok [5] ?_
              refine oS ?_
              refine oG ?_
              refine oS ?_
              refine oN ?_
              refine thenQ_normal ?_
              refine WI.seq ?_
              refine WI.regB tabDf2_ok [2, 3] ?_
              refine oS ?_
              refine oG ?_
              iterate 2 refine oS ?_
              refine oN ?_
              refine thenQ_normal ?_
              refine WI.ret ?_
              first | refine lfR ?_ | refine lfR2 ?_
              simp [txtT, ruleN, wSV] -- leaf 0
            · try simp only [zB] at h2
              subst h2
              refine WI.skip ?_
              refine thenQ_normal ?_
              refine WI.seq ?_
              refine WI.regB tabDf2_ok [2, 3] ?_
              refine oS ?_
              refine oG ?_
              iterate 2 refine oS ?_
              refine oN ?_
              refine thenQ_normal ?_
              refine WI.ret ?_
              first | refine lfR ?_ | refine lfR2 ?_
              simp [txtT, ruleN, wSV] -- leaf 1
    · have hp : putT n r b = ([], 1) := by unfold putT; rw [if_pos ht, if_neg hr]
      rw [hp]
      refine FCalls.pure (fcallsG (fz := true) G_ok (p := i13) rfl _ (Nat.le_of_ble_eq_true rfl) _ (fun C0 E0 => ?_)) rfl
      dsimp only [i13, argsφ]
      have uu := And.intro @typedRG.eq_1 (And.intro @typedRG.eq_2 (And.intro ht (And.intro @tabDf2_r (And.intro @tabDf2_k (And.intro @tabDf2_q27 (And.intro @tabDf2_q28 (And.intro @tabDf2_q29 (And.intro @tabDf2_q30 (And.intro @tabDf2_t29 (And.intro @frzT.eq_1 (And.intro @joinG.eq_1 (And.intro @joinG.eq_2 (And.intro @matchesG.eq_1 (And.intro @matchesG.eq_2 (And.intro @typedG.eq_1 (@typedG.eq_2))))))))))))))))
      refine WI.seq ?_
      refine WI.regB tabDf2_ok [1] ?_
      refine oG ?_
      iterate 2 refine oS ?_
      refine oN ?_
      refine thenQ_normal ?_
      refine WI.seq ?_
      refine WI.seq ?_
      refine WI.regB tabDf2_ok [1, 9] ?_
      refine oS ?_
      refine oG ?_
      refine oC ?_
      refine oG ?_
      refine oN ?_
      refine thenQ_normal ?_
      refine WI.cond (b := _) rfl rfl (fun h0 => ?_) (fun h0 => ?_)
      · exfalso
        simp at h0
      · try simp only [zB] at h0
        refine WI.skip ?_
        refine thenQ_normal ?_
        refine WI.seq ?_
        refine WI.seq ?_
        refine WI.regB tabDf2_ok [1, 17] ?_
        refine oS ?_
        iterate 2 refine oG ?_
        refine oS ?_
        iterate 4 refine oG ?_
        refine oN ?_
        refine thenQ_normal ?_
        refine WI.cond (b := _) rfl rfl (fun h1 => ?_) (fun h1 => ?_)
        · try simp only [zB] at h1
          refine WI.seq ?_
          refine WI.regB tabDf2_ok [2, 3] ?_
          iterate 2 refine oS ?_
          refine oN ?_
          refine thenQ_normal ?_
          refine WI.ret ?_
          refine thenQ_ret ?_
          first | refine lfR ?_ | refine lfR2 ?_
          first | rfl | exact ⟨rfl, rfl⟩ | trivial -- leaf 0
        · exfalso
          simp at h1; omega
  · have hp : putT n r b = ([], 13) := by unfold putT; rw [if_neg ht]
    rw [hp]
    have ht2 : typB n = false := by simpa using ht
    refine FCalls.pure (fcallsG (fz := true) G_ok (p := i13) rfl _ (Nat.le_of_ble_eq_true rfl) _ (fun C0 E0 => ?_)) rfl
    dsimp only [i13, argsφ]
    have uu := And.intro @typedRG.eq_1 (And.intro @typedRG.eq_2 (And.intro ht2 (And.intro @tabDf2_r (And.intro @tabDf2_k (And.intro @tabDf2_q27 (And.intro @tabDf2_q28 (And.intro @tabDf2_q29 (And.intro @tabDf2_q30 (And.intro @tabDf2_t29 (And.intro @frzT.eq_1 (And.intro @joinG.eq_1 (And.intro @joinG.eq_2 (And.intro @matchesG.eq_1 (And.intro @matchesG.eq_2 (And.intro @typedG.eq_1 (@typedG.eq_2))))))))))))))))
    refine WI.seq ?_
    refine WI.regB tabDf2_ok [1] ?_
    refine oG ?_
    iterate 2 refine oS ?_
    refine oN ?_
    refine thenQ_normal ?_
    refine WI.seq ?_
    refine WI.seq ?_
    refine WI.regB tabDf2_ok [1, 9] ?_
    refine oS ?_
    refine oG ?_
    refine oC ?_
    refine oG ?_
    refine oN ?_
    refine thenQ_normal ?_
    refine WI.cond (b := _) rfl rfl (fun h0 => ?_) (fun h0 => ?_)
    · try simp only [zB] at h0
      refine WI.seq ?_
      refine WI.regB tabDf2_ok [2, 3] ?_
      iterate 2 refine oS ?_
      refine oN ?_
      refine thenQ_normal ?_
      refine WI.ret ?_
      refine thenQ_ret ?_
      first | refine lfR ?_ | refine lfR2 ?_
      first | rfl | exact ⟨rfl, rfl⟩ | trivial -- leaf 0
    · exfalso
      simp at h0
end Go.Proofs.YtobflnngfochiaaDoor
end
section
/- Defs: reading types. -/
set_option linter.unusedSimpArgs false
set_option linter.unusedVariables false
namespace Go.Proofs.YtobflnngfochiaaDoor
open Go.RowKit Go.Bo Go.Ab

theorem cutS_c (s p : List UInt8) (hs : s.length ≤ 9223372036854775807) : PCalls Tryd.prog 46 [.x (.str s), .x (.str p)] (.tup [.x (.str (Lib.trimSuffix s p)), .x (.bool (Lib.hasSuffix s p))]) := by
  intro w st vs hst hvl
  obtain ⟨hsz, hv⟩ := hvl
  obtain ⟨v0, v1, rfl⟩ : ∃ v0 v1, vs = #[v0, v1] := by
    obtain ⟨vl⟩ := vs
    match vl, hsz with
    | [a, b], _ => exact ⟨a, b, rfl⟩
  have h0 := hv 0 _ v0 rfl rfl
  have h1 := hv 1 _ v1 rfl rfl
  cases h0 with
  | x h0 =>
  cases h1 with
  | x h1 =>
  cases h1 with
  | str _ =>
  cases h0 with
  | str _ =>
  have hbs : (bstr s).size = s.length := by simp [bstr, ByteArray.size]
  refine (Tryd.strings_CutSuffix (bstr s) (bstr p) w (by omega)).mono ?_
  rintro e w' ⟨rfl, rfl⟩
  refine ⟨_, st, rfl, Kept.refl _ _, fun _ _ h => h, fun _ _ h => .inl h, ?_⟩
  have e1 : (bstr s).data.toList = s := by simp [bstr]
  have e2 : (bstr p).data.toList = p := by simp [bstr]
  rw [e1, e2]
  exact V.tup2 (V.mkstr _ _ _) _
theorem cutS_enters : Go.Ab.Enters Tryd.prog 46 := Go.Proofs.enters_of Tryd.lays104.f104 (by kernel_rfl) rfl
def cutSG : List D → Option (Bool × D)
  | [.x (.str s), .x (.str p)] => some (decide (s.length ≤ 9223372036854775807), .tup [.x (.str (Lib.trimSuffix s p)), .x (.bool (Lib.hasSuffix s p))])
  | _ => none
theorem cutSG_ok : ∀ args r, cutSG args = some (true, r) → PCalls Tryd.prog 46 args r := by
  intro args r h
  unfold cutSG at h
  split at h
  · rename_i s p
    simp only [Option.some.injEq, Prod.mk.injEq, Bool.and_eq_true, decide_eq_true_eq, true_and] at h
    obtain ⟨h1, rfl⟩ := h
    exact (cutS_c s p h1)
  · cases h
def tabDf3 : Tabs := addQ (addQ (addQ (addQ (noTabs) 22 cutPG) 46 cutSG) 27 typedG) 36 splitG
theorem tabDf3_ok : SsOk Tryd.prog tabDf3 := addQ_ok (addQ_ok (addQ_ok (addQ_ok (noTabs_ok) cutP_enters cutPG_ok) cutS_enters cutSG_ok) (G_enters G_ok (p := i27) rfl) typedG_ok) split_enters splitG_ok
theorem tabDf3_q22 (a : List D) : tabDf3.q 22 a = cutPG a := rfl
theorem tabDf3_q46 (a : List D) : tabDf3.q 46 a = cutSG a := rfl
theorem tabDf3_q27 (a : List D) : tabDf3.q 27 a = typedG a := rfl
theorem tabDf3_q36 (a : List D) : tabDf3.q 36 a = splitG a := rfl
theorem tabDf3_r (f : FuncId) (a : List D) (o : List Ob) : tabDf3.r f a o = none := rfl
theorem tabDf3_k (f : FuncId) (a : List D) (o : List Ob) : tabDf3.k f a o = none := rfl
def quo (s : List UInt8) : List UInt8 × Bool := (Lib.trimSuffix (Lib.trimPrefix s [39]) [39], (Lib.hasPrefix s [39] && Lib.hasSuffix (Lib.trimPrefix s [39]) [39]) && typB (Lib.trimSuffix (Lib.trimPrefix s [39]) [39]))
theorem trimP_le (s p : List UInt8) : (Lib.trimPrefix s p).length ≤ s.length := by unfold Lib.trimPrefix; split <;> simp
theorem trimS_le (s p : List UInt8) : (Lib.trimSuffix s p).length ≤ s.length := by
  unfold Lib.trimSuffix; split
  · rw [List.length_take]; omega
  · exact Nat.le_refl _
theorem quoted_c (s : List UInt8) (hl : s.length ≤ 1000000) : PCalls Tryd.prog 41 [.x (.str s)] (.tup [.x (.str (quo s).1), .x (.bool (quo s).2)]) := by
  have h1 := trimP_le s [39]
  have h2 := trimS_le (Lib.trimPrefix s [39]) [39]
  have h3 : decide ((Lib.trimSuffix (Lib.trimPrefix s [39]) [39]).length ≤ 1000000) = true := decide_eq_true (by omega)
  refine FCalls.pure (fcallsG (fz := true) G_ok (p := i41) rfl _ (Nat.le_of_ble_eq_true rfl) _ (fun C0 E0 => ?_)) rfl
  dsimp only [i41, argsφ]
  have uu := And.intro @cutPG.eq_1 (And.intro @cutPG.eq_2 (And.intro @cutSG.eq_1 (And.intro @cutSG.eq_2 (And.intro @typedG.eq_1 (And.intro @typedG.eq_2 (And.intro h3 (And.intro @tabDf3_r (And.intro @tabDf3_k (And.intro @tabDf3_q22 (And.intro @tabDf3_q27 (And.intro @tabDf3_q36 (And.intro @tabDf3_q46 (And.intro @splitG.eq_1 (@splitG.eq_2))))))))))))))
  refine WI.seq ?_
  refine WI.regB tabDf3_ok [0] ?_
  iterate 2 refine oS ?_
  refine oN ?_
  refine thenQ_normal ?_
  refine WI.seq ?_
  refine WI.regB tabDf3_ok [0, 4] ?_
  refine oS ?_
  refine oC (hok := by first | with_reducible rfl | omega | (cases (Lib.hasPrefix s [39] && Lib.hasSuffix (Lib.trimPrefix s [39]) [39]) <;> rfl) | (simp; done) | (simp; omega) | rfl) ?_
  refine oS ?_
  iterate 2 refine oG (hok := by first | with_reducible rfl | omega | (cases (Lib.hasPrefix s [39] && Lib.hasSuffix (Lib.trimPrefix s [39]) [39]) <;> rfl) | (simp; done) | (simp; omega) | rfl) ?_
  iterate 2 refine oS ?_
  refine oN ?_
  refine thenQ_normal ?_
  refine WI.seq ?_
  refine WI.regB tabDf3_ok [0, 4, 5] ?_
  refine oS ?_
  refine oC (hok := by first | with_reducible rfl | omega | (cases (Lib.hasPrefix s [39] && Lib.hasSuffix (Lib.trimPrefix s [39]) [39]) <;> rfl) | (simp; done) | (simp; omega) | rfl) ?_
  refine oS ?_
  iterate 2 refine oG (hok := by first | with_reducible rfl | omega | (cases (Lib.hasPrefix s [39] && Lib.hasSuffix (Lib.trimPrefix s [39]) [39]) <;> rfl) | (simp; done) | (simp; omega) | rfl) ?_
  iterate 2 refine oS ?_
  refine oN ?_
  refine thenQ_normal ?_
  refine WI.seq ?_
  refine WI.regB tabDf3_ok [2, 3] ?_
  iterate 3 refine oS ?_
  iterate 2 refine oG (hok := by first | with_reducible rfl | omega | (cases (Lib.hasPrefix s [39] && Lib.hasSuffix (Lib.trimPrefix s [39]) [39]) <;> rfl) | (simp; done) | (simp; omega) | rfl) ?_
  refine oS ?_
  refine oG (hok := by first | with_reducible rfl | omega | (cases (Lib.hasPrefix s [39] && Lib.hasSuffix (Lib.trimPrefix s [39]) [39]) <;> rfl) | (simp; done) | (simp; omega) | rfl) ?_
  refine oC (hok := by first | with_reducible rfl | omega | (cases (Lib.hasPrefix s [39] && Lib.hasSuffix (Lib.trimPrefix s [39]) [39]) <;> rfl) | (simp; done) | (simp; omega) | rfl) ?_
  refine oG (hok := by first | with_reducible rfl | omega | (cases (Lib.hasPrefix s [39] && Lib.hasSuffix (Lib.trimPrefix s [39]) [39]) <;> rfl) | (simp; done) | (simp; omega) | rfl) ?_
  iterate 2 refine oS ?_
  refine oN ?_
  refine thenQ_normal ?_
  refine WI.ret ?_
  first | refine lfR ?_ | refine lfR2 ?_
  first | rfl | exact ⟨rfl, rfl⟩ | trivial -- leaf 0
def quotedG : List D → Option (Bool × D)
  | [.x (.str s)] => some (decide (s.length ≤ 1000000), .tup [.x (.str (quo s).1), .x (.bool (quo s).2)])
  | _ => none
theorem quotedG_ok : ∀ args r, quotedG args = some (true, r) → PCalls Tryd.prog 41 args r := by
  intro args r h
  unfold quotedG at h
  split at h
  · rename_i s
    simp only [Option.some.injEq, Prod.mk.injEq, Bool.and_eq_true, decide_eq_true_eq, true_and] at h
    obtain ⟨h1, rfl⟩ := h
    exact (quoted_c s h1)
  · cases h
def tabDf4 : Tabs := addQ (addQ (noTabs) 41 quotedG) 36 splitG
theorem tabDf4_ok : SsOk Tryd.prog tabDf4 := addQ_ok (addQ_ok (noTabs_ok) (G_enters G_ok (p := i41) rfl) quotedG_ok) split_enters splitG_ok
theorem tabDf4_q41 (a : List D) : tabDf4.q 41 a = quotedG a := rfl
theorem tabDf4_q36 (a : List D) : tabDf4.q 36 a = splitG a := rfl
theorem tabDf4_r (f : FuncId) (a : List D) (o : List Ob) : tabDf4.r f a o = none := rfl
theorem tabDf4_k (f : FuncId) (a : List D) (o : List Ob) : tabDf4.k f a o = none := rfl
theorem rows_0 : rows rStr [] = [] := rfl
theorem rows_1 (a : List UInt8) : rows rStr [a] = [[.str a]] := rfl
theorem rows_2 (a b : List UInt8) : rows rStr [a, b] = [[.str a], [.str b]] := rfl
theorem rows_3 (a b c : List UInt8) : rows rStr [a, b, c] = [[.str a], [.str b], [.str c]] := rfl
/-- How a definition begins, of its words. -/
def bgnW (L : List (List UInt8)) : List UInt8 × List (List UInt8) × Bool :=
  if 4 ≤ L.length ∧ L.getD 0 [] = [40] ∧ L.getD 1 [] = wNAME ∧ L.getD (L.length - 1) [] = [41] then ((quo (L.getD 2 [])).1, (L.take (L.length - 1)).drop 3, (quo (L.getD 2 [])).2) else ([], [], false)
def bgn (s : List UInt8) := bgnW (spl 32 s)
theorem getD_lt {α : Type} (L : List α) (d : α) (i : Nat) (h : i < L.length) : L.getD i d = L[i] := by simp [h]
theorem wt_mem : ∀ (l : List (List UInt8)) (x), x ∈ l → x.length < wt l
  | y :: l, x, h => by
    have e : wt (y :: l) = (y.length + 1) + wt l := rfl
    rcases List.mem_cons.1 h with rfl | h
    · omega
    · have := wt_mem l x h; omega
theorem spl_mem (c : UInt8) (s x : List UInt8) (h : x ∈ spl c s) : x.length ≤ s.length := by have := wt_mem _ x h; rw [wt_spl] at this; omega
theorem begin_c (s : List UInt8) (hl : s.length ≤ 100000) : PCalls Tryd.prog 31 [.x (.str s)] (.tup [.x (.str (bgn s).1), .x (.sl (rows rStr (bgn s).2.1)), .x (.bool (bgn s).2.2)]) := by
  have hsm := spl_mem 32 s
  have hsl := spl_len 32 s
  unfold bgn
  generalize hL : spl 32 s = L at hsm hsl
  by_cases h4 : 4 ≤ L.length
  · obtain ⟨k, hk⟩ : ∃ k, L.length = k + 4 := ⟨L.length - 4, by omega⟩
    have e1 : ((L.length : Int) - 1) = ((k + 3 : Nat) : Int) := by omega
    have e2 : decide (((k + 3 : Nat) : Int) < 3) = false := decide_eq_false (by omega)
    have hq := hsm L[2] (List.getElem_mem _)
    have hk1 : L.length - 1 = k + 3 := by omega
    have hD : L.getD (L.length - 1) [] = L[k + 3] := by rw [hk1, getD_lt L [] (k + 3) (by omega)]
    refine FCalls.pure (fcallsG (fz := true) G_ok (p := i31) rfl _ (Nat.le_of_ble_eq_true rfl) _ (fun C0 E0 => ?_)) rfl
    dsimp only [i31, argsφ]
    have uu := And.intro @splitG.eq_1 (And.intro @splitG.eq_2 (And.intro @quotedG.eq_1 (And.intro @quotedG.eq_2 (And.intro hL (And.intro @e1 (And.intro @e2 (And.intro @tabDf4_r (And.intro @tabDf4_k (And.intro @tabDf4_q36 (@tabDf4_q41))))))))))
    refine WI.seq ?_
    refine WI.regB tabDf4_ok [0] ?_
    iterate 3 refine oS ?_
    refine oN ?_
    refine thenQ_normal ?_
    refine WI.seq ?_
    refine WI.regB tabDf4_ok [5] ?_
    refine oS ?_
    refine oC ?_
    refine oS ?_
    refine oN ?_
    refine thenQ_normal ?_
    refine WI.seq ?_
    refine WI.regB tabDf4_ok [5, 6] ?_
    refine oS ?_
    iterate 2 refine oG ?_
    refine oS ?_
    refine oN ?_
    refine thenQ_normal ?_
    refine WI.seq ?_
    refine WI.seq ?_
    refine WI.regB tabDf4_ok [5, 6, 34] ?_
    refine oS ?_
    refine oG ?_
    refine oS ?_
    iterate 5 refine oG ?_
    refine oS ?_
    iterate 5 refine oG ?_
    refine oS ?_
    iterate 6 refine oG ?_
    refine oN ?_
    refine thenQ_normal ?_
    refine WI.cond (b := _) rfl rfl (fun h0 => ?_) (fun h0 => ?_)
    · try simp only [zB] at h0
      refine WI.seq ?_
      refine WI.regB tabDf4_ok [2, 3, 4] ?_
      iterate 3 refine oS ?_
      refine oN ?_
      refine thenQ_normal ?_
      refine WI.nnA ?_
      refine WI.ret ?_
      refine thenQ_ret ?_
      first | refine lfR ?_ | refine lfR2 ?_
      have hb : bgnW L = ([], [], false) := by
        unfold bgnW
        refine if_neg ?_
        rintro ⟨_, k1, k2, k3⟩
        rw [getD_lt L [] 0 (by omega)] at k1
        rw [getD_lt L [] 1 (by omega)] at k2
        rw [hD] at k3
        rcases h0 with (h0 | h0) | h0
        · exact h0 k1
        · exact h0 k2
        · exact h0 k3
      rw [hb]; rfl -- leaf 0
    · try simp only [zB] at h0
      refine WI.skip ?_
      refine thenQ_normal ?_
      refine WI.seq ?_
      refine WI.regB tabDf4_ok [5, 6, 7, 8] ?_
      refine oS ?_
      iterate 2 refine oG ?_
      refine oC ?_
      refine oS ?_
      iterate 2 refine oG ?_
      iterate 2 refine oS ?_
      refine oN ?_
      refine thenQ_normal ?_
      refine WI.seq ?_
      refine WI.dregB tabDf4_ok [2, 3, 4] ?_
      iterate 3 refine dFS ?_
      refine dAG ?_
      iterate 4 refine dFS ?_
      refine dN ?_
      refine thenQ_normal ?_
      refine WI.nnA ?_
      refine WI.ret ?_
      first | refine lfR ?_ | refine lfR2 ?_
      have hb : bgnW L = ((quo L[2]).1, (L.take (k + 3)).drop 3, (quo L[2]).2) := by
        unfold bgnW
        rw [if_pos ⟨h4, by rw [getD_lt L [] 0 (by omega)]; exact h0.1.1, by rw [getD_lt L [] 1 (by omega)]; exact h0.1.2, by rw [hD]; exact h0.2⟩, getD_lt L [] 2 (by omega), hk1]
      rw [hb] -- leaf 1
  · have hb : bgnW L = ([], [], false) := by unfold bgnW; rw [if_neg (fun h => h4 h.1)]
    rw [hb]
    rcases L with _ | ⟨a, _ | ⟨b, _ | ⟨c, _ | ⟨d, r⟩⟩⟩⟩
    · exact absurd hL (spl_ne 32 s)
    · have uu0 := trivial
      refine FCalls.pure (fcallsG (fz := true) G_ok (p := i31) rfl _ (Nat.le_of_ble_eq_true rfl) _ (fun C0 E0 => ?_)) rfl
      dsimp only [i31, argsφ]
      have uu := And.intro @splitG.eq_1 (And.intro @splitG.eq_2 (And.intro @quotedG.eq_1 (And.intro @quotedG.eq_2 (And.intro hL (And.intro @rows_1 (And.intro @rows_2 (And.intro @rows_3 (And.intro @tabDf4_r (And.intro @tabDf4_k (And.intro @tabDf4_q36 (@tabDf4_q41)))))))))))
      refine WI.seq ?_
      refine WI.regB tabDf4_ok [0] ?_
      iterate 3 refine oS ?_
      refine oN ?_
      refine thenQ_normal ?_
      refine WI.seq ?_
      refine WI.regB tabDf4_ok [5] ?_
      refine oS ?_
      refine oC ?_
      refine oS ?_
      refine oN ?_
      refine thenQ_normal ?_
      refine WI.seq ?_
      refine WI.regB tabDf4_ok [5, 6] ?_
      refine oS ?_
      iterate 2 refine oG ?_
      refine oS ?_
      refine oN ?_
      refine thenQ_normal ?_
      refine WI.seq ?_
      refine WI.seq ?_
      refine WI.regB tabDf4_ok [5, 6, 34] ?_
      refine oS ?_
      refine oG ?_
      refine oS ?_
      iterate 5 refine oG ?_
      refine oS ?_
      iterate 5 refine oG ?_
      refine oS ?_
      iterate 6 refine oG ?_
      refine oN ?_
      refine thenQ_normal ?_
      refine WI.cond (b := _) rfl rfl (fun h0 => ?_) (fun h0 => ?_)
      · try simp only [zB] at h0
        refine WI.seq ?_
        refine WI.regB tabDf4_ok [2, 3, 4] ?_
        iterate 3 refine oS ?_
        refine oN ?_
        refine thenQ_normal ?_
        refine WI.nnA ?_
        refine WI.ret ?_
        refine thenQ_ret ?_
        first | refine lfR ?_ | refine lfR2 ?_
        first | rfl | exact ⟨rfl, rfl⟩ | trivial -- leaf 0
      · exfalso
        simp at h0
    · have uu0 := trivial
      refine FCalls.pure (fcallsG (fz := true) G_ok (p := i31) rfl _ (Nat.le_of_ble_eq_true rfl) _ (fun C0 E0 => ?_)) rfl
      dsimp only [i31, argsφ]
      have uu := And.intro @splitG.eq_1 (And.intro @splitG.eq_2 (And.intro @quotedG.eq_1 (And.intro @quotedG.eq_2 (And.intro hL (And.intro @rows_1 (And.intro @rows_2 (And.intro @rows_3 (And.intro @tabDf4_r (And.intro @tabDf4_k (And.intro @tabDf4_q36 (@tabDf4_q41)))))))))))
      refine WI.seq ?_
      refine WI.regB tabDf4_ok [0] ?_
      iterate 3 refine oS ?_
      refine oN ?_
      refine thenQ_normal ?_
      refine WI.seq ?_
      refine WI.regB tabDf4_ok [5] ?_
      refine oS ?_
      refine oC ?_
      refine oS ?_
      refine oN ?_
      refine thenQ_normal ?_
      refine WI.seq ?_
      refine WI.regB tabDf4_ok [5, 6] ?_
      refine oS ?_
      iterate 2 refine oG ?_
      refine oS ?_
      refine oN ?_
      refine thenQ_normal ?_
      refine WI.seq ?_
      refine WI.seq ?_
      refine WI.regB tabDf4_ok [5, 6, 34] ?_
      refine oS ?_
      refine oG ?_
      refine oS ?_
      iterate 5 refine oG ?_
      refine oS ?_
      iterate 5 refine oG ?_
      refine oS ?_
      iterate 6 refine oG ?_
      refine oN ?_
      refine thenQ_normal ?_
      refine WI.cond (b := _) rfl rfl (fun h0 => ?_) (fun h0 => ?_)
      · try simp only [zB] at h0
        refine WI.seq ?_
        refine WI.regB tabDf4_ok [2, 3, 4] ?_
        iterate 3 refine oS ?_
        refine oN ?_
        refine thenQ_normal ?_
        refine WI.nnA ?_
        refine WI.ret ?_
        refine thenQ_ret ?_
        first | refine lfR ?_ | refine lfR2 ?_
        first | rfl | exact ⟨rfl, rfl⟩ | trivial -- leaf 0
      · exfalso
        simp at h0
    · have uu0 := trivial
      refine FCalls.pure (fcallsG (fz := true) G_ok (p := i31) rfl _ (Nat.le_of_ble_eq_true rfl) _ (fun C0 E0 => ?_)) rfl
      dsimp only [i31, argsφ]
      have uu := And.intro @splitG.eq_1 (And.intro @splitG.eq_2 (And.intro @quotedG.eq_1 (And.intro @quotedG.eq_2 (And.intro hL (And.intro @rows_1 (And.intro @rows_2 (And.intro @rows_3 (And.intro @tabDf4_r (And.intro @tabDf4_k (And.intro @tabDf4_q36 (@tabDf4_q41)))))))))))
      refine WI.seq ?_
      refine WI.regB tabDf4_ok [0] ?_
      iterate 3 refine oS ?_
      refine oN ?_
      refine thenQ_normal ?_
      refine WI.seq ?_
      refine WI.regB tabDf4_ok [5] ?_
      refine oS ?_
      refine oC ?_
      refine oS ?_
      refine oN ?_
      refine thenQ_normal ?_
      refine WI.seq ?_
      refine WI.regB tabDf4_ok [5, 6] ?_
      refine oS ?_
      iterate 2 refine oG ?_
      refine oS ?_
      refine oN ?_
      refine thenQ_normal ?_
      refine WI.seq ?_
      refine WI.seq ?_
      refine WI.regB tabDf4_ok [5, 6, 34] ?_
      refine oS ?_
      refine oG ?_
      refine oS ?_
      iterate 5 refine oG ?_
      refine oS ?_
      iterate 5 refine oG ?_
      refine oS ?_
      iterate 6 refine oG ?_
      refine oN ?_
      refine thenQ_normal ?_
      refine WI.cond (b := _) rfl rfl (fun h0 => ?_) (fun h0 => ?_)
      · try simp only [zB] at h0
        refine WI.seq ?_
        refine WI.regB tabDf4_ok [2, 3, 4] ?_
        iterate 3 refine oS ?_
        refine oN ?_
        refine thenQ_normal ?_
        refine WI.nnA ?_
        refine WI.ret ?_
        refine thenQ_ret ?_
        first | refine lfR ?_ | refine lfR2 ?_
        first | rfl | exact ⟨rfl, rfl⟩ | trivial -- leaf 0
      · exfalso
        simp at h0
    · exact absurd (by simp) h4
def beginG : List D → Option (Bool × D)
  | [.x (.str s)] => some (decide (s.length ≤ 100000), .tup [.x (.str (bgn s).1), .x (.sl (rows rStr (bgn s).2.1)), .x (.bool (bgn s).2.2)])
  | _ => none
theorem beginG_ok : ∀ args r, beginG args = some (true, r) → PCalls Tryd.prog 31 args r := by
  intro args r h
  unfold beginG at h
  split at h
  · rename_i s
    simp only [Option.some.injEq, Prod.mk.injEq, Bool.and_eq_true, decide_eq_true_eq, true_and] at h
    obtain ⟨h1, rfl⟩ := h
    exact (begin_c s h1)
  · cases h
def tabDf5 : Tabs := addQ (addQ (noTabs) 31 beginG) 28 matchesG
theorem tabDf5_ok : SsOk Tryd.prog tabDf5 := addQ_ok (addQ_ok (noTabs_ok) (G_enters G_ok (p := i31) rfl) beginG_ok) (G_enters G_ok (p := i28) rfl) matchesG_ok
theorem tabDf5_q31 (a : List D) : tabDf5.q 31 a = beginG a := rfl
theorem tabDf5_q28 (a : List D) : tabDf5.q 28 a = matchesG a := rfl
theorem tabDf5_r (f : FuncId) (a : List D) (o : List Ob) : tabDf5.r f a o = none := rfl
theorem tabDf5_k (f : FuncId) (a : List D) (o : List Ob) : tabDf5.k f a o = none := rfl
def ruleI (m : List UInt8) : Int := if mt1 = m then 1 else if mt2 = m then 2 else if mt3 = m then 3 else if mt4 = m then 4 else if mt5 = m then 5 else 0
abbrev TyX := List UInt8 × Int × Bool
def rdW (n : List UInt8) (l : List (List UInt8)) (ok : Bool) : TyX × Int :=
  match ok, l with
  | true, [e, m] => if e = wEQ ∧ ruleI m ≠ 0 then ((n, ruleI m, false), 0) else (([], 0, false), 5)
  | true, [e, m, z] => if (e = wEQ ∧ z = wSV) ∧ ruleI m ≠ 0 then ((n, ruleI m, true), 0) else (([], 0, false), 5)
  | _, _ => (([], 0, false), 5)
def rdT (s : List UInt8) : TyX × Int := rdW (bgn s).1 (bgn s).2.1 (bgn s).2.2
abbrev tyD (t : TyX × Int) : D := .tup [.agg [.x (.str t.1.1), .x (.int .i64 t.1.2.1), .x (.bool t.1.2.2)], .x (.int .i64 t.2)]
theorem rdW3_no (n : List UInt8) (e m z : List UInt8) (ok : Bool) (h : (ok = false ∨ ¬ e = wEQ) ∨ ¬ z = wSV) : rdW n [e, m, z] ok = (([], 0, false), 5) := by
  cases ok with
  | false => rfl
  | true =>
    show (if (e = wEQ ∧ z = wSV) ∧ ruleI m ≠ 0 then _ else _) = _
    rw [if_neg]
    rintro ⟨⟨h1, h2⟩, _⟩
    rcases h with (h | h) | h
    · cases h
    · exact h h1
    · exact h h2
set_option maxHeartbeats 4000000 in
theorem readType_c (s : List UInt8) (hl : s.length ≤ 1000) : PCalls Tryd.prog 14 [.x (.str s)] (tyD (rdT s)) := by
  unfold rdT
  generalize hb : bgn s = B
  obtain ⟨n, l, ok⟩ := B
  rcases l with _ | ⟨e, _ | ⟨m, _ | ⟨z, _ | ⟨d, r⟩⟩⟩⟩
  · have c1 : ((0 : Nat) : Int) = 0 := rfl
    have c2 : decide ((0 : Int) < 2) = true := rfl
    have c3 : decide ((0 : Int) > 3) = false := rfl
    have c4 : ((0 : Int) == 3) = false := rfl
    refine FCalls.pure (fcallsG (fz := true) G_ok (p := i14) rfl _ (Nat.le_of_ble_eq_true rfl) _ (fun C0 E0 => ?_)) rfl
    dsimp only [i14, argsφ]
    have uu := And.intro @beginG.eq_1 (And.intro @beginG.eq_2 (And.intro @matchesG.eq_1 (And.intro @matchesG.eq_2 (And.intro hb (And.intro @rows_0 (And.intro @rows_1 (And.intro @rows_2 (And.intro @rows_3 (And.intro @c1 (And.intro @c2 (And.intro @c3 (And.intro @c4 (And.intro @List.getElem?_nil.{0} (And.intro @tabDf5_r (And.intro @tabDf5_k (And.intro @tabDf5_q28 (@tabDf5_q31)))))))))))))))))
    refine WI.seq ?_
    refine WI.regB tabDf5_ok [0, 2] ?_
    refine oG ?_
    refine oS ?_
    refine oN ?_
    refine thenQ_normal ?_
    refine WI.seq ?_
    refine WI.regB tabDf5_ok [2, 4, 5, 6] ?_
    refine oS ?_
    refine oC ?_
    refine oS ?_
    iterate 3 refine oG ?_
    iterate 3 refine oS ?_
    refine oN ?_
    refine thenQ_normal ?_
    refine WI.seq ?_
    refine WI.seq ?_
    refine WI.regB tabDf5_ok [2, 4, 5, 43] ?_
    refine oS ?_
    refine oG ?_
    refine oS ?_
    iterate 4 refine oG ?_
    refine oS ?_
    iterate 4 refine oG ?_
    refine oS ?_
    iterate 5 refine oG ?_
    refine oS ?_
    iterate 10 refine oG ?_
    refine oN ?_
    refine thenQ_normal ?_
    refine WI.cond (b := _) rfl rfl (fun h0 => ?_) (fun h0 => ?_)
    · try simp only [zB] at h0
      refine WI.seq ?_
      refine WI.regB tabDf5_ok [2, 3] ?_
      iterate 2 refine oG ?_
      refine oS ?_
      refine oN ?_
      refine thenQ_normal ?_
      refine WI.ret ?_
      refine thenQ_ret ?_
      first | refine lfR ?_ | refine lfR2 ?_
      cases ok <;> simp_all [rdW, ruleI] -- leaf 0
    · exfalso
      simp at h0
  · have c1 : ((1 : Nat) : Int) = 1 := rfl
    have c2 : decide ((1 : Int) < 2) = true := rfl
    have c3 : decide ((1 : Int) > 3) = false := rfl
    have c4 : ((1 : Int) == 3) = false := rfl
    refine FCalls.pure (fcallsG (fz := true) G_ok (p := i14) rfl _ (Nat.le_of_ble_eq_true rfl) _ (fun C0 E0 => ?_)) rfl
    dsimp only [i14, argsφ]
    have uu := And.intro @beginG.eq_1 (And.intro @beginG.eq_2 (And.intro @matchesG.eq_1 (And.intro @matchesG.eq_2 (And.intro hb (And.intro @rows_0 (And.intro @rows_1 (And.intro @rows_2 (And.intro @rows_3 (And.intro @c1 (And.intro @c2 (And.intro @c3 (And.intro @c4 (And.intro @List.getElem?_nil.{0} (And.intro @tabDf5_r (And.intro @tabDf5_k (And.intro @tabDf5_q28 (@tabDf5_q31)))))))))))))))))
    refine WI.seq ?_
    refine WI.regB tabDf5_ok [0, 2] ?_
    refine oG ?_
    refine oS ?_
    refine oN ?_
    refine thenQ_normal ?_
    refine WI.seq ?_
    refine WI.regB tabDf5_ok [2, 4, 5, 6] ?_
    refine oS ?_
    refine oC ?_
    refine oS ?_
    iterate 3 refine oG ?_
    iterate 3 refine oS ?_
    refine oN ?_
    refine thenQ_normal ?_
    refine WI.seq ?_
    refine WI.seq ?_
    refine WI.regB tabDf5_ok [2, 4, 5, 43] ?_
    refine oS ?_
    refine oG ?_
    refine oS ?_
    iterate 4 refine oG ?_
    refine oS ?_
    iterate 4 refine oG ?_
    refine oS ?_
    iterate 5 refine oG ?_
    refine oS ?_
    iterate 10 refine oG ?_
    refine oN ?_
    refine thenQ_normal ?_
    refine WI.cond (b := _) rfl rfl (fun h0 => ?_) (fun h0 => ?_)
    · try simp only [zB] at h0
      refine WI.seq ?_
      refine WI.regB tabDf5_ok [2, 3] ?_
      iterate 2 refine oG ?_
      refine oS ?_
      refine oN ?_
      refine thenQ_normal ?_
      refine WI.ret ?_
      refine thenQ_ret ?_
      first | refine lfR ?_ | refine lfR2 ?_
      cases ok <;> simp_all [rdW, ruleI] -- leaf 0
    · exfalso
      simp at h0
  · have c1 : ((2 : Nat) : Int) = 2 := rfl
    have c2 : decide ((2 : Int) < 2) = false := rfl
    have c3 : decide ((2 : Int) > 3) = false := rfl
    have c4 : ((2 : Int) == 3) = false := rfl
    refine FCalls.pure (fcallsG (fz := true) G_ok (p := i14) rfl _ (Nat.le_of_ble_eq_true rfl) _ (fun C0 E0 => ?_)) rfl
    dsimp only [i14, argsφ]
    have uu := And.intro @beginG.eq_1 (And.intro @beginG.eq_2 (And.intro @matchesG.eq_1 (And.intro @matchesG.eq_2 (And.intro hb (And.intro @rows_0 (And.intro @rows_1 (And.intro @rows_2 (And.intro @rows_3 (And.intro @c1 (And.intro @c2 (And.intro @c3 (And.intro @c4 (And.intro @List.getElem?_nil.{0} (And.intro @tabDf5_r (And.intro @tabDf5_k (And.intro @tabDf5_q28 (@tabDf5_q31)))))))))))))))))
    refine WI.seq ?_
    refine WI.regB tabDf5_ok [0, 2] ?_
    refine oG ?_
    refine oS ?_
    refine oN ?_
    refine thenQ_normal ?_
    refine WI.seq ?_
    refine WI.regB tabDf5_ok [2, 4, 5, 6] ?_
    refine oS ?_
    refine oC ?_
    refine oS ?_
    iterate 3 refine oG ?_
    iterate 3 refine oS ?_
    refine oN ?_
    refine thenQ_normal ?_
    refine WI.seq ?_
    refine WI.seq ?_
    refine WI.regB tabDf5_ok [2, 4, 5, 43] ?_
    refine oS ?_
    refine oG ?_
    refine oS ?_
    iterate 4 refine oG ?_
    refine oS ?_
    iterate 4 refine oG ?_
    refine oS ?_
    iterate 5 refine oG ?_
    refine oS ?_
    iterate 10 refine oG ?_
    refine oN ?_
    refine thenQ_normal ?_
    refine WI.cond (b := _) rfl rfl (fun h0 => ?_) (fun h0 => ?_)
    · try simp only [zB] at h0
      refine WI.seq ?_
      refine WI.regB tabDf5_ok [2, 3] ?_
      iterate 2 refine oG ?_
      refine oS ?_
      refine oN ?_
      refine thenQ_normal ?_
      refine WI.ret ?_
      refine thenQ_ret ?_
      first | refine lfR ?_ | refine lfR2 ?_
      cases ok <;> simp_all [rdW, ruleI] -- leaf 0
    · try simp only [zB] at h0
      refine WI.skip ?_
      refine thenQ_normal ?_
      refine WI.seq ?_
      refine WI.seq ?_
      refine WI.regB tabDf5_ok [2, 4, 5, 45, 46] ?_
      refine oC ?_
      refine oS ?_
      refine oN ?_
      refine thenQ_normal ?_
      refine WI.block ?_
      refine WI.loopN 6 ?_
      refine WI.round ?_
      refine WI.seq ?_
      refine WI.regB tabDf5_ok [2, 4, 5, 45, 46, 47] ?_
      refine oG ?_
      refine oN ?_
      refine thenQ_normal ?_
      refine WI.seq ?_
      refine WI.cond (b := _) rfl rfl (fun h1 => ?_) (fun h1 => ?_)
      · try simp only [zB] at h1
        refine WI.skip ?_
        refine thenQ_normal ?_
        refine WI.seq ?_
        refine WI.block ?_
        refine WI.seq ?_
        refine WI.regB tabDf5_ok [2, 4, 5, 7, 8, 45, 46] ?_
        refine oS ?_
        refine oG ?_
        iterate 2 refine oS ?_
        refine oN ?_
        refine thenQ_normal ?_
        refine WI.seq ?_
        refine WI.regB tabDf5_ok [2, 4, 5, 7, 45, 46, 54] ?_
        iterate 2 refine oS ?_
        iterate 3 refine oG ?_
        refine oN ?_
        refine thenQ_normal ?_
        refine WI.cond (b := _) rfl rfl (fun h2 => ?_) (fun h2 => ?_)
        · try simp only [zB] at h2
          refine WI.seq ?_
          refine WI.regB tabDf5_ok [2, 3] ?_
          iterate 2 refine oS ?_
          refine oG ?_
          refine oS ?_
          iterate 4 refine oG ?_
          refine oS ?_
          refine oN ?_
          refine thenQ_normal ?_
          refine WI.ret ?_
          refine blockQ_ret ?_
          refine thenQ_ret ?_
          refine thenQ_ret ?_
          refine blockQ_ret ?_
          refine thenQ_ret ?_
          first | refine lfR ?_ | refine lfR2 ?_
          cases ok <;> simp_all [rdW, ruleI] -- leaf 1
        · try simp only [zB] at h2
          refine WI.skip ?_
          refine blockQ_normal ?_
          refine thenQ_normal ?_
          refine WI.regB tabDf5_ok [2, 4, 5, 45, 46] ?_
          refine oG ?_
          refine oS ?_
          refine oN ?_
          refine thenQ_normal ?_
          refine WI.round ?_
          refine WI.seq ?_
          refine WI.regB tabDf5_ok [2, 4, 5, 45, 46, 47] ?_
          refine oG ?_
          refine oN ?_
          refine thenQ_normal ?_
          refine WI.seq ?_
          refine WI.cond (b := _) rfl rfl (fun h1 => ?_) (fun h1 => ?_)
          · try simp only [zB] at h1
            refine WI.skip ?_
            refine thenQ_normal ?_
            refine WI.seq ?_
            refine WI.block ?_
            refine WI.seq ?_
            refine WI.regB tabDf5_ok [2, 4, 5, 7, 8, 45, 46] ?_
            refine oS ?_
            refine oG ?_
            iterate 2 refine oS ?_
            refine oN ?_
            refine thenQ_normal ?_
            refine WI.seq ?_
            refine WI.regB tabDf5_ok [2, 4, 5, 7, 45, 46, 54] ?_
            iterate 2 refine oS ?_
            iterate 3 refine oG ?_
            refine oN ?_
            refine thenQ_normal ?_
            refine WI.cond (b := _) rfl rfl (fun h2 => ?_) (fun h2 => ?_)
            · try simp only [zB] at h2
              refine WI.seq ?_
              refine WI.regB tabDf5_ok [2, 3] ?_
              iterate 2 refine oS ?_
              refine oG ?_
              refine oS ?_
              iterate 4 refine oG ?_
              refine oS ?_
              refine oN ?_
              refine thenQ_normal ?_
              refine WI.ret ?_
              refine blockQ_ret ?_
              refine thenQ_ret ?_
              refine thenQ_ret ?_
              refine blockQ_ret ?_
              refine thenQ_ret ?_
              first | refine lfR ?_ | refine lfR2 ?_
              cases ok <;> simp_all [rdW, ruleI] -- leaf 2
            · try simp only [zB] at h2
              refine WI.skip ?_
              refine blockQ_normal ?_
              refine thenQ_normal ?_
              refine WI.regB tabDf5_ok [2, 4, 5, 45, 46] ?_
              refine oG ?_
              refine oS ?_
              refine oN ?_
              refine thenQ_normal ?_
              refine WI.round ?_
              refine WI.seq ?_
              refine WI.regB tabDf5_ok [2, 4, 5, 45, 46, 47] ?_
              refine oG ?_
              refine oN ?_
              refine thenQ_normal ?_
              refine WI.seq ?_
              refine WI.cond (b := _) rfl rfl (fun h1 => ?_) (fun h1 => ?_)
              · try simp only [zB] at h1
                refine WI.skip ?_
                refine thenQ_normal ?_
                refine WI.seq ?_
                refine WI.block ?_
                refine WI.seq ?_
                refine WI.regB tabDf5_ok [2, 4, 5, 7, 8, 45, 46] ?_
                refine oS ?_
                refine oG ?_
                iterate 2 refine oS ?_
                refine oN ?_
                refine thenQ_normal ?_
                refine WI.seq ?_
                refine WI.regB tabDf5_ok [2, 4, 5, 7, 45, 46, 54] ?_
                iterate 2 refine oS ?_
                iterate 3 refine oG ?_
                refine oN ?_
                refine thenQ_normal ?_
                refine WI.cond (b := _) rfl rfl (fun h2 => ?_) (fun h2 => ?_)
                · try simp only [zB] at h2
                  refine WI.seq ?_
                  refine WI.regB tabDf5_ok [2, 3] ?_
                  iterate 2 refine oS ?_
                  refine oG ?_
                  refine oS ?_
                  iterate 4 refine oG ?_
                  refine oS ?_
                  refine oN ?_
                  refine thenQ_normal ?_
                  refine WI.ret ?_
                  refine blockQ_ret ?_
                  refine thenQ_ret ?_
                  refine thenQ_ret ?_
                  refine blockQ_ret ?_
                  refine thenQ_ret ?_
                  first | refine lfR ?_ | refine lfR2 ?_
                  cases ok <;> simp_all [rdW, ruleI] -- leaf 3
                · try simp only [zB] at h2
                  refine WI.skip ?_
                  refine blockQ_normal ?_
                  refine thenQ_normal ?_
                  refine WI.regB tabDf5_ok [2, 4, 5, 45, 46] ?_
                  refine oG ?_
                  refine oS ?_
                  refine oN ?_
                  refine thenQ_normal ?_
                  refine WI.round ?_
                  refine WI.seq ?_
                  refine WI.regB tabDf5_ok [2, 4, 5, 45, 46, 47] ?_
                  refine oG ?_
                  refine oN ?_
                  refine thenQ_normal ?_
                  refine WI.seq ?_
                  refine WI.cond (b := _) rfl rfl (fun h1 => ?_) (fun h1 => ?_)
                  · try simp only [zB] at h1
                    refine WI.skip ?_
                    refine thenQ_normal ?_
                    refine WI.seq ?_
                    refine WI.block ?_
                    refine WI.seq ?_
                    refine WI.regB tabDf5_ok [2, 4, 5, 7, 8, 45, 46] ?_
                    refine oS ?_
                    refine oG ?_
                    iterate 2 refine oS ?_
                    refine oN ?_
                    refine thenQ_normal ?_
                    refine WI.seq ?_
                    refine WI.regB tabDf5_ok [2, 4, 5, 7, 45, 46, 54] ?_
                    iterate 2 refine oS ?_
                    iterate 3 refine oG ?_
                    refine oN ?_
                    refine thenQ_normal ?_
                    refine WI.cond (b := _) rfl rfl (fun h2 => ?_) (fun h2 => ?_)
                    · try simp only [zB] at h2
                      refine WI.seq ?_
                      refine WI.regB tabDf5_ok [2, 3] ?_
                      iterate 2 refine oS ?_
                      refine oG ?_
                      refine oS ?_
                      iterate 4 refine oG ?_
                      refine oS ?_
                      refine oN ?_
                      refine thenQ_normal ?_
                      refine WI.ret ?_
                      refine blockQ_ret ?_
                      refine thenQ_ret ?_
                      refine thenQ_ret ?_
                      refine blockQ_ret ?_
                      refine thenQ_ret ?_
                      first | refine lfR ?_ | refine lfR2 ?_
                      cases ok <;> simp_all [rdW, ruleI] -- leaf 4
                    · try simp only [zB] at h2
                      refine WI.skip ?_
                      refine blockQ_normal ?_
                      refine thenQ_normal ?_
                      refine WI.regB tabDf5_ok [2, 4, 5, 45, 46] ?_
                      refine oG ?_
                      refine oS ?_
                      refine oN ?_
                      refine thenQ_normal ?_
                      refine WI.round ?_
                      refine WI.seq ?_
                      refine WI.regB tabDf5_ok [2, 4, 5, 45, 46, 47] ?_
                      refine oG ?_
                      refine oN ?_
                      refine thenQ_normal ?_
                      refine WI.seq ?_
                      refine WI.cond (b := _) rfl rfl (fun h1 => ?_) (fun h1 => ?_)
                      · try simp only [zB] at h1
                        refine WI.skip ?_
                        refine thenQ_normal ?_
                        refine WI.seq ?_
                        refine WI.block ?_
                        refine WI.seq ?_
                        refine WI.regB tabDf5_ok [2, 4, 5, 7, 8, 45, 46] ?_
                        refine oS ?_
                        refine oG ?_
                        iterate 2 refine oS ?_
                        refine oN ?_
                        refine thenQ_normal ?_
                        refine WI.seq ?_
                        refine WI.regB tabDf5_ok [2, 4, 5, 7, 45, 46, 54] ?_
                        iterate 2 refine oS ?_
                        iterate 3 refine oG ?_
                        refine oN ?_
                        refine thenQ_normal ?_
                        refine WI.cond (b := _) rfl rfl (fun h2 => ?_) (fun h2 => ?_)
                        · try simp only [zB] at h2
                          refine WI.seq ?_
                          refine WI.regB tabDf5_ok [2, 3] ?_
                          iterate 2 refine oS ?_
                          refine oG ?_
                          refine oS ?_
                          iterate 4 refine oG ?_
                          refine oS ?_
                          refine oN ?_
                          refine thenQ_normal ?_
                          refine WI.ret ?_
                          refine blockQ_ret ?_
                          refine thenQ_ret ?_
                          refine thenQ_ret ?_
                          refine blockQ_ret ?_
                          refine thenQ_ret ?_
                          first | refine lfR ?_ | refine lfR2 ?_
                          cases ok <;> simp_all [rdW, ruleI] -- leaf 5
                        · try simp only [zB] at h2
                          refine WI.skip ?_
                          refine blockQ_normal ?_
                          refine thenQ_normal ?_
                          refine WI.regB tabDf5_ok [2, 4, 5, 45, 46] ?_
                          refine oG ?_
                          refine oS ?_
                          refine oN ?_
                          refine thenQ_normal ?_
                          refine WI.round ?_
                          refine WI.seq ?_
                          refine WI.regB tabDf5_ok [2, 4, 5, 45, 46, 47] ?_
                          refine oG ?_
                          refine oN ?_
                          refine thenQ_normal ?_
                          refine WI.seq ?_
                          refine WI.cond (b := _) rfl rfl (fun h1 => ?_) (fun h1 => ?_)
                          · exact absurd h1 (by decide)
                          · try simp only [zB] at h1
                            refine WI.exit ?_
                            refine thenQ_exit ?_
                            refine thenQ_exit ?_
                            refine blockQ_hit ?_
                            refine thenQ_normal ?_
                            refine WI.seq ?_
                            refine WI.regB tabDf5_ok [2, 3] ?_
                            iterate 2 refine oG ?_
                            refine oS ?_
                            refine oN ?_
                            refine thenQ_normal ?_
                            refine WI.ret ?_
                            first | refine lfR ?_ | refine lfR2 ?_
                            cases ok <;> simp_all [rdW, ruleI] -- leaf 6
                      · exact absurd h1 (by decide)
                  · exact absurd h1 (by decide)
              · exact absurd h1 (by decide)
          · exact absurd h1 (by decide)
      · exact absurd h1 (by decide)
  · have c1 : ((3 : Nat) : Int) = 3 := rfl
    have c2 : decide ((3 : Int) < 2) = false := rfl
    have c3 : decide ((3 : Int) > 3) = false := rfl
    have c4 : ((3 : Int) == 3) = true := rfl
    refine FCalls.pure (fcallsG (fz := true) G_ok (p := i14) rfl _ (Nat.le_of_ble_eq_true rfl) _ (fun C0 E0 => ?_)) rfl
    dsimp only [i14, argsφ]
    have uu := And.intro @beginG.eq_1 (And.intro @beginG.eq_2 (And.intro @matchesG.eq_1 (And.intro @matchesG.eq_2 (And.intro hb (And.intro @rows_0 (And.intro @rows_1 (And.intro @rows_2 (And.intro @rows_3 (And.intro @c1 (And.intro @c2 (And.intro @c3 (And.intro @c4 (And.intro @List.getElem?_nil.{0} (And.intro @tabDf5_r (And.intro @tabDf5_k (And.intro @tabDf5_q28 (@tabDf5_q31)))))))))))))))))
    refine WI.seq ?_
    refine WI.regB tabDf5_ok [0, 2] ?_
    refine oG ?_
    refine oS ?_
    refine oN ?_
    refine thenQ_normal ?_
    refine WI.seq ?_
    refine WI.regB tabDf5_ok [2, 4, 5, 6] ?_
    refine oS ?_
    refine oC ?_
    refine oS ?_
    iterate 3 refine oG ?_
    iterate 3 refine oS ?_
    refine oN ?_
    refine thenQ_normal ?_
    refine WI.seq ?_
    refine WI.seq ?_
    refine WI.regB tabDf5_ok [2, 4, 5, 43] ?_
    refine oS ?_
    refine oG ?_
    refine oS ?_
    iterate 4 refine oG ?_
    refine oS ?_
    iterate 4 refine oG ?_
    refine oS ?_
    iterate 5 refine oG ?_
    refine oS ?_
    iterate 10 refine oG ?_
    refine oN ?_
    refine thenQ_normal ?_
    refine WI.cond (b := _) rfl rfl (fun h0 => ?_) (fun h0 => ?_)
    · try simp only [zB] at h0
      refine WI.seq ?_
      refine WI.regB tabDf5_ok [2, 3] ?_
      iterate 2 refine oG ?_
      refine oS ?_
      refine oN ?_
      refine thenQ_normal ?_
      refine WI.ret ?_
      refine thenQ_ret ?_
      first | refine lfR ?_ | refine lfR2 ?_
      rw [rdW3_no n e m z ok h0] -- leaf 0
    · try simp only [zB] at h0
      refine WI.skip ?_
      refine thenQ_normal ?_
      refine WI.seq ?_
      refine WI.seq ?_
      refine WI.regB tabDf5_ok [2, 4, 5, 45, 46] ?_
      refine oC ?_
      refine oS ?_
      refine oN ?_
      refine thenQ_normal ?_
      refine WI.block ?_
      refine WI.loopN 6 ?_
      refine WI.round ?_
      refine WI.seq ?_
      refine WI.regB tabDf5_ok [2, 4, 5, 45, 46, 47] ?_
      refine oG ?_
      refine oN ?_
      refine thenQ_normal ?_
      refine WI.seq ?_
      refine WI.cond (b := _) rfl rfl (fun h1 => ?_) (fun h1 => ?_)
      · try simp only [zB] at h1
        refine WI.skip ?_
        refine thenQ_normal ?_
        refine WI.seq ?_
        refine WI.block ?_
        refine WI.seq ?_
        refine WI.regB tabDf5_ok [2, 4, 5, 7, 8, 45, 46] ?_
        refine oS ?_
        refine oG ?_
        iterate 2 refine oS ?_
        refine oN ?_
        refine thenQ_normal ?_
        refine WI.seq ?_
        refine WI.regB tabDf5_ok [2, 4, 5, 7, 45, 46, 54] ?_
        iterate 2 refine oS ?_
        iterate 3 refine oG ?_
        refine oN ?_
        refine thenQ_normal ?_
        refine WI.cond (b := _) rfl rfl (fun h2 => ?_) (fun h2 => ?_)
        · try simp only [zB] at h2
          refine WI.seq ?_
          refine WI.regB tabDf5_ok [2, 3] ?_
          iterate 2 refine oS ?_
          refine oG ?_
          refine oS ?_
          iterate 4 refine oG ?_
          refine oS ?_
          refine oN ?_
          refine thenQ_normal ?_
          refine WI.ret ?_
          refine blockQ_ret ?_
          refine thenQ_ret ?_
          refine thenQ_ret ?_
          refine blockQ_ret ?_
          refine thenQ_ret ?_
          first | refine lfR ?_ | refine lfR2 ?_
          clear uu; simp_all [rdW, ruleI] -- leaf 1
        · try simp only [zB] at h2
          refine WI.skip ?_
          refine blockQ_normal ?_
          refine thenQ_normal ?_
          refine WI.regB tabDf5_ok [2, 4, 5, 45, 46] ?_
          refine oG ?_
          refine oS ?_
          refine oN ?_
          refine thenQ_normal ?_
          refine WI.round ?_
          refine WI.seq ?_
          refine WI.regB tabDf5_ok [2, 4, 5, 45, 46, 47] ?_
          refine oG ?_
          refine oN ?_
          refine thenQ_normal ?_
          refine WI.seq ?_
          refine WI.cond (b := _) rfl rfl (fun h1 => ?_) (fun h1 => ?_)
          · try simp only [zB] at h1
            refine WI.skip ?_
            refine thenQ_normal ?_
            refine WI.seq ?_
            refine WI.block ?_
            refine WI.seq ?_
            refine WI.regB tabDf5_ok [2, 4, 5, 7, 8, 45, 46] ?_
            refine oS ?_
            refine oG ?_
            iterate 2 refine oS ?_
            refine oN ?_
            refine thenQ_normal ?_
            refine WI.seq ?_
            refine WI.regB tabDf5_ok [2, 4, 5, 7, 45, 46, 54] ?_
            iterate 2 refine oS ?_
            iterate 3 refine oG ?_
            refine oN ?_
            refine thenQ_normal ?_
            refine WI.cond (b := _) rfl rfl (fun h2 => ?_) (fun h2 => ?_)
            · try simp only [zB] at h2
              refine WI.seq ?_
              refine WI.regB tabDf5_ok [2, 3] ?_
              iterate 2 refine oS ?_
              refine oG ?_
              refine oS ?_
              iterate 4 refine oG ?_
              refine oS ?_
              refine oN ?_
              refine thenQ_normal ?_
              refine WI.ret ?_
              refine blockQ_ret ?_
              refine thenQ_ret ?_
              refine thenQ_ret ?_
              refine blockQ_ret ?_
              refine thenQ_ret ?_
              first | refine lfR ?_ | refine lfR2 ?_
              clear uu; simp_all [rdW, ruleI] -- leaf 2
            · try simp only [zB] at h2
              refine WI.skip ?_
              refine blockQ_normal ?_
              refine thenQ_normal ?_
              refine WI.regB tabDf5_ok [2, 4, 5, 45, 46] ?_
              refine oG ?_
              refine oS ?_
              refine oN ?_
              refine thenQ_normal ?_
              refine WI.round ?_
              refine WI.seq ?_
              refine WI.regB tabDf5_ok [2, 4, 5, 45, 46, 47] ?_
              refine oG ?_
              refine oN ?_
              refine thenQ_normal ?_
              refine WI.seq ?_
              refine WI.cond (b := _) rfl rfl (fun h1 => ?_) (fun h1 => ?_)
              · try simp only [zB] at h1
                refine WI.skip ?_
                refine thenQ_normal ?_
                refine WI.seq ?_
                refine WI.block ?_
                refine WI.seq ?_
                refine WI.regB tabDf5_ok [2, 4, 5, 7, 8, 45, 46] ?_
                refine oS ?_
                refine oG ?_
                iterate 2 refine oS ?_
                refine oN ?_
                refine thenQ_normal ?_
                refine WI.seq ?_
                refine WI.regB tabDf5_ok [2, 4, 5, 7, 45, 46, 54] ?_
                iterate 2 refine oS ?_
                iterate 3 refine oG ?_
                refine oN ?_
                refine thenQ_normal ?_
                refine WI.cond (b := _) rfl rfl (fun h2 => ?_) (fun h2 => ?_)
                · try simp only [zB] at h2
                  refine WI.seq ?_
                  refine WI.regB tabDf5_ok [2, 3] ?_
                  iterate 2 refine oS ?_
                  refine oG ?_
                  refine oS ?_
                  iterate 4 refine oG ?_
                  refine oS ?_
                  refine oN ?_
                  refine thenQ_normal ?_
                  refine WI.ret ?_
                  refine blockQ_ret ?_
                  refine thenQ_ret ?_
                  refine thenQ_ret ?_
                  refine blockQ_ret ?_
                  refine thenQ_ret ?_
                  first | refine lfR ?_ | refine lfR2 ?_
                  clear uu; simp_all [rdW, ruleI] -- leaf 3
                · try simp only [zB] at h2
                  refine WI.skip ?_
                  refine blockQ_normal ?_
                  refine thenQ_normal ?_
                  refine WI.regB tabDf5_ok [2, 4, 5, 45, 46] ?_
                  refine oG ?_
                  refine oS ?_
                  refine oN ?_
                  refine thenQ_normal ?_
                  refine WI.round ?_
                  refine WI.seq ?_
                  refine WI.regB tabDf5_ok [2, 4, 5, 45, 46, 47] ?_
                  refine oG ?_
                  refine oN ?_
                  refine thenQ_normal ?_
                  refine WI.seq ?_
                  refine WI.cond (b := _) rfl rfl (fun h1 => ?_) (fun h1 => ?_)
                  · try simp only [zB] at h1
                    refine WI.skip ?_
                    refine thenQ_normal ?_
                    refine WI.seq ?_
                    refine WI.block ?_
                    refine WI.seq ?_
                    refine WI.regB tabDf5_ok [2, 4, 5, 7, 8, 45, 46] ?_
                    refine oS ?_
                    refine oG ?_
                    iterate 2 refine oS ?_
                    refine oN ?_
                    refine thenQ_normal ?_
                    refine WI.seq ?_
                    refine WI.regB tabDf5_ok [2, 4, 5, 7, 45, 46, 54] ?_
                    iterate 2 refine oS ?_
                    iterate 3 refine oG ?_
                    refine oN ?_
                    refine thenQ_normal ?_
                    refine WI.cond (b := _) rfl rfl (fun h2 => ?_) (fun h2 => ?_)
                    · try simp only [zB] at h2
                      refine WI.seq ?_
                      refine WI.regB tabDf5_ok [2, 3] ?_
                      iterate 2 refine oS ?_
                      refine oG ?_
                      refine oS ?_
                      iterate 4 refine oG ?_
                      refine oS ?_
                      refine oN ?_
                      refine thenQ_normal ?_
                      refine WI.ret ?_
                      refine blockQ_ret ?_
                      refine thenQ_ret ?_
                      refine thenQ_ret ?_
                      refine blockQ_ret ?_
                      refine thenQ_ret ?_
                      first | refine lfR ?_ | refine lfR2 ?_
                      clear uu; simp_all [rdW, ruleI] -- leaf 4
                    · try simp only [zB] at h2
                      refine WI.skip ?_
                      refine blockQ_normal ?_
                      refine thenQ_normal ?_
                      refine WI.regB tabDf5_ok [2, 4, 5, 45, 46] ?_
                      refine oG ?_
                      refine oS ?_
                      refine oN ?_
                      refine thenQ_normal ?_
                      refine WI.round ?_
                      refine WI.seq ?_
                      refine WI.regB tabDf5_ok [2, 4, 5, 45, 46, 47] ?_
                      refine oG ?_
                      refine oN ?_
                      refine thenQ_normal ?_
                      refine WI.seq ?_
                      refine WI.cond (b := _) rfl rfl (fun h1 => ?_) (fun h1 => ?_)
                      · try simp only [zB] at h1
                        refine WI.skip ?_
                        refine thenQ_normal ?_
                        refine WI.seq ?_
                        refine WI.block ?_
                        refine WI.seq ?_
                        refine WI.regB tabDf5_ok [2, 4, 5, 7, 8, 45, 46] ?_
                        refine oS ?_
                        refine oG ?_
                        iterate 2 refine oS ?_
                        refine oN ?_
                        refine thenQ_normal ?_
                        refine WI.seq ?_
                        refine WI.regB tabDf5_ok [2, 4, 5, 7, 45, 46, 54] ?_
                        iterate 2 refine oS ?_
                        iterate 3 refine oG ?_
                        refine oN ?_
                        refine thenQ_normal ?_
                        refine WI.cond (b := _) rfl rfl (fun h2 => ?_) (fun h2 => ?_)
                        · try simp only [zB] at h2
                          refine WI.seq ?_
                          refine WI.regB tabDf5_ok [2, 3] ?_
                          iterate 2 refine oS ?_
                          refine oG ?_
                          refine oS ?_
                          iterate 4 refine oG ?_
                          refine oS ?_
                          refine oN ?_
                          refine thenQ_normal ?_
                          refine WI.ret ?_
                          refine blockQ_ret ?_
                          refine thenQ_ret ?_
                          refine thenQ_ret ?_
                          refine blockQ_ret ?_
                          refine thenQ_ret ?_
                          first | refine lfR ?_ | refine lfR2 ?_
                          clear uu; simp_all [rdW, ruleI] -- leaf 5
                        · try simp only [zB] at h2
                          refine WI.skip ?_
                          refine blockQ_normal ?_
                          refine thenQ_normal ?_
                          refine WI.regB tabDf5_ok [2, 4, 5, 45, 46] ?_
                          refine oG ?_
                          refine oS ?_
                          refine oN ?_
                          refine thenQ_normal ?_
                          refine WI.round ?_
                          refine WI.seq ?_
                          refine WI.regB tabDf5_ok [2, 4, 5, 45, 46, 47] ?_
                          refine oG ?_
                          refine oN ?_
                          refine thenQ_normal ?_
                          refine WI.seq ?_
                          refine WI.cond (b := _) rfl rfl (fun h1 => ?_) (fun h1 => ?_)
                          · exact absurd h1 (by decide)
                          · try simp only [zB] at h1
                            refine WI.exit ?_
                            refine thenQ_exit ?_
                            refine thenQ_exit ?_
                            refine blockQ_hit ?_
                            refine thenQ_normal ?_
                            refine WI.seq ?_
                            refine WI.regB tabDf5_ok [2, 3] ?_
                            iterate 2 refine oG ?_
                            refine oS ?_
                            refine oN ?_
                            refine thenQ_normal ?_
                            refine WI.ret ?_
                            first | refine lfR ?_ | refine lfR2 ?_
                            clear uu; simp_all [rdW, ruleI] -- leaf 6
                      · exact absurd h1 (by decide)
                  · exact absurd h1 (by decide)
              · exact absurd h1 (by decide)
          · exact absurd h1 (by decide)
      · exact absurd h1 (by decide)
  · have c1 : decide (((e :: m :: z :: d :: r).length : Int) > 3) = true := decide_eq_true (by simp; omega)
    have c2 : rows rStr (e :: m :: z :: d :: r) = [.str e] :: [.str m] :: [.str z] :: [.str d] :: rows rStr r := rfl
    refine FCalls.pure (fcallsG (fz := true) G_ok (p := i14) rfl _ (Nat.le_of_ble_eq_true rfl) _ (fun C0 E0 => ?_)) rfl
    dsimp only [i14, argsφ]
    have uu := And.intro @beginG.eq_1 (And.intro @beginG.eq_2 (And.intro @matchesG.eq_1 (And.intro @matchesG.eq_2 (And.intro hb (And.intro @c1 (And.intro @c2 (And.intro @tabDf5_r (And.intro @tabDf5_k (And.intro @tabDf5_q28 (@tabDf5_q31))))))))))
    refine WI.seq ?_
    refine WI.regB tabDf5_ok [0, 2] ?_
    refine oG ?_
    refine oS ?_
    refine oN ?_
    refine thenQ_normal ?_
    refine WI.seq ?_
    refine WI.regB tabDf5_ok [2, 4, 5, 6] ?_
    refine oS ?_
    refine oC ?_
    refine oS ?_
    iterate 3 refine oG ?_
    iterate 3 refine oS ?_
    refine oN ?_
    refine thenQ_normal ?_
    refine WI.seq ?_
    refine WI.seq ?_
    refine WI.regB tabDf5_ok [2, 4, 5, 43] ?_
    refine oS ?_
    refine oG ?_
    refine oS ?_
    iterate 4 refine oG ?_
    refine oS ?_
    iterate 4 refine oG ?_
    refine oS ?_
    iterate 5 refine oG ?_
    refine oS ?_
    iterate 10 refine oG ?_
    refine oN ?_
    refine thenQ_normal ?_
    refine WI.cond (b := _) rfl rfl (fun h0 => ?_) (fun h0 => ?_)
    · try simp only [zB] at h0
      refine WI.seq ?_
      refine WI.regB tabDf5_ok [2, 3] ?_
      iterate 2 refine oG ?_
      refine oS ?_
      refine oN ?_
      refine thenQ_normal ?_
      refine WI.ret ?_
      refine thenQ_ret ?_
      first | refine lfR ?_ | refine lfR2 ?_
      cases ok <;> rfl -- leaf 0
    · exfalso
      simp at h0; omega
end Go.Proofs.YtobflnngfochiaaDoor
end
