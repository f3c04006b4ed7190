/- strings.Join: by the kit's contract. -/
import Derived.Test.YtogmbfaijmhamaaAb35
import Derived.Test.YtogmbfaijmhamaaSh
import Derived.Test.YtogmbfaijmhamaaIc
import Derived.Lib.Join
set_option linter.unusedSimpArgs false
set_option linter.unusedVariables false
namespace Go.Proofs.Ytogmbfaijmhamaa
open Go.RowKit Go.Bo Go.Ab

theorem join_map (l : List (List UInt8)) : (l.map bstr).map (·.data.toList) = l := by
  rw [List.map_map]
  conv => rhs; rw [← List.map_id l]
  exact List.map_congr_left fun x _ => by simp [bstr]
theorem join_flat : ∀ l : List (List UInt8), Lib.join l [] = l.flatten
  | [] => rfl
  | [x] => by simp [Lib.join_one]
  | x :: y :: r => by
    have := join_flat (y :: r)
    simp only [Lib.join, List.intercalate, List.intersperse_cons_cons, List.flatten_cons, List.nil_append] at this ⊢
    rw [this]
theorem join_c (l : List (List UInt8)) (sep : List UInt8) (h : (Lib.join l sep).length ≤ 140737488355328) (hl : l.length ≤ 140737488355328) : PCalls Try.prog 51 [.x (.sl (rows rStr l)), .x (.str sep)] (.x (.str (Lib.join l sep))) := by
  intro w st vs hst hvl
  obtain ⟨hsz, hv⟩ := hvl
  obtain ⟨v0, v1, rfl⟩ : ∃ v0 v1, vs = #[v0, v1] := by
    obtain ⟨vl⟩ := vs
    match vl, hsz with
    | [a, b], _ => exact ⟨a, b, rfl⟩
  have h0 := hv 0 _ v0 rfl rfl
  have h1 := hv 1 _ v1 rfl rfl
  clear hv hsz
  cases h0 with
  | x h0 =>
  cases h1 with
  | x h1 =>
  cases h1 with
  | str _ =>
  cases h0 with
  | sl _ a n c sz val hn hc hm hsz hcell hnil hsp hval =>
    rw [rows_len] at hn
    subst hn
    match l, h, hl, hc, hsz, hcell, hval with
    | [], _, _, _, _, _, _ =>
      refine (Try.strings_Join_none a c (bstr sep) w).mono ?_
      rintro e w' ⟨rfl, rfl⟩
      exact ⟨_, st, rfl, Kept.refl _ _, fun _ _ h => h, fun _ _ h => .inl h, .x (.str [])⟩
    | x :: r, h, hl, hc, hsz, hcell, hval =>
      obtain rfl : 1 = sz := hsz [.str x] (by simp [rows, rStr])
      obtain ⟨b, off, rfl, hs0, _⟩ := hcell 0 0 (by simp) (by omega)
      have hcells : ∀ (j : Nat) y, ((x :: r).map bstr)[j]? = some y → w.cell? ⟨b, off + j, none⟩ = some (.string y) := by
        intro j y hy
        rw [List.getElem?_map] at hy
        obtain ⟨z, hz, rfl⟩ := Option.map_eq_some_iff.1 hy
        have hj : j < (x :: r).length := (List.getElem?_eq_some_iff.1 hz).1
        obtain ⟨b', off', e, _, hw⟩ := hcell j 0 hj (by omega)
        simp only [Option.some.injEq, Addr.mk.injEq] at e
        obtain ⟨rfl, rfl, _⟩ := e
        have hx := hval j 0 [.str z] (.str z) (by simp only [rows, List.getElem?_map, hz]; rfl) rfl
        rw [show off + j = off + j * 1 + 0 by omega, hw]
        generalize val j 0 = u at hx
        cases hx with
        | str _ => rfl
      have hlen : (Lib.join (((x :: r).map bstr).map (·.data.toList)) (bstr sep).data.toList).length ≤ 140737488355328 := by
        rw [join_map]; simpa [bstr] using h
      have hc' : ((x :: r).map bstr).length ≤ c := by rw [List.length_map]; exact hc
      have := Try.strings_Join b off c ((x :: r).map bstr) (bstr sep) w hcells (hst _ _ hs0) (by rw [List.length_map]; exact hl) hc' hlen
      rw [List.length_map, join_map] at this
      refine this.mono ?_
      rintro e w' ⟨rfl, hb⟩
      refine ⟨_, st, rfl, Kept.of_none (Ext.grown hb none), fun _ _ h => h, fun _ _ h => .inl h, ?_⟩
      have : (bstr sep).data.toList = sep := by simp [bstr]
      rw [this]
      exact .x (.str _)
theorem join_enters : Go.Ab.Enters Try.prog 51 := Go.Proofs.enters_of Try.lays156.f156 (by kernel_rfl) rfl
end Go.Proofs.Ytogmbfaijmhamaa
