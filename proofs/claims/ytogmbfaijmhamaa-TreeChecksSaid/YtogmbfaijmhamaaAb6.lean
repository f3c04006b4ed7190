/- Quiet operations yield what the evaluator says (3). -/
import Derived.Test.YtogmbfaijmhamaaAb5
namespace Go.Ab
open Go.RowKit Go.Bo

section
variable {P : Program} {E : Env} {os : List Ob} {c : Ctx}

theorem V.ptr_some {id off : Nat} {v : Value} (h : V E os (.ptr id off) v) : ∃ ad, v = .pointer (some ad) := by cases h with | ptr _ h => exact ⟨_, rfl⟩
theorem V.eptr_some {id ext i off : Nat} {v : Value} (h : V E os (.eptr id ext i off) v) : ∃ ad, v = .pointer (some ad) := by cases h with | eptr h h1 => exact h1
theorem V.vptr_some {cs : List X} {v : Value} (h : V E os (.vptr cs) v) : ∃ ad, v = .pointer (some ad) := by cases h with | vptr => exact ⟨_, rfl⟩

theorem run_equal_bool {t : Nat} (ht : P.underlying t = some .bool) (a b : Bool) (w : World) : (Op.equal t (.bool a) (.bool b)).run P w = .ok (a == b) w := by
  have h : ∀ d, (Op.equalIn (d + 1) t (.bool a) (.bool b)).run P w = .ok (a == b) w := fun d => by rw [Op.equalIn]; simp [run_underlying ht]
  exact h 9999
theorem run_equal_nilp {t e : Nat} (ht : P.underlying t = some (.pointer e)) (b : Option Addr) (w : World) : (Op.equal t (.pointer none) (.pointer b)).run P w = .ok b.isNone w := by
  have h : ∀ d, (Op.equalIn (d + 1) t (.pointer none) (.pointer b)).run P w = .ok b.isNone w := fun d => by rw [Op.equalIn]; simp [run_underlying ht]
  exact h 9999
theorem run_equal_pnil {t e : Nat} (ht : P.underlying t = some (.pointer e)) (b : Addr) (w : World) : (Op.equal t (.pointer (some b)) (.pointer none)).run P w = .ok false w := by
  have h : ∀ d, (Op.equalIn (d + 1) t (.pointer (some b)) (.pointer none)).run P w = .ok false w := fun d => by rw [Op.equalIn]; simp [run_underlying ht]
  exact h 9999
theorem run_equal_nils {t e : Nat} (ht : P.underlying t = some (.slice e)) (n cp m cq : Nat) (b : Option Addr) (w : World) : (Op.equal t (.slice none n cp) (.slice b m cq)).run P w = .ok b.isNone w := by
  have h : ∀ d, (Op.equalIn (d + 1) t (.slice none n cp) (.slice b m cq)).run P w = .ok b.isNone w := fun d => by rw [Op.equalIn]; simp [run_underlying ht]
  exact h 9999
theorem run_equal_snil {t e : Nat} (ht : P.underlying t = some (.slice e)) (n cp m cq : Nat) (b : Addr) (w : World) : (Op.equal t (.slice (some b) n cp) (.slice none m cq)).run P w = .ok false w := by
  have h : ∀ d, (Op.equalIn (d + 1) t (.slice (some b) n cp) (.slice none m cq)).run P w = .ok false w := fun d => by rw [Op.equalIn]; simp [run_underlying ht]
  exact h 9999

def EqK.ok (P : Program) (t : Nat) : EqK → Prop
  | .bool => P.underlying t = some .bool
  | .ptr => ∃ e, P.underlying t = some (.pointer e)
  | .sl => ∃ e, P.underlying t = some (.slice e)
  | .st fs => stFs P t = some fs

theorem run_part1 {t : Nat} (ht : (∃ k, P.underlying t = some (.int k)) ∨ P.underlying t = some .string ∨ P.underlying t = some .bool) {xs : Array Value} {o : Nat} {v : Value} (hv : xs[o]? = some v) (w : World) : (part t xs o).run P w = .ok v w := by
  rcases ht with ⟨k, ht⟩ | ht | ht <;> simp [part, isAgg, run_underlying ht, hv]
theorem run_eqFs {xs ys : Array Value} {ds es : List D} (hx : V E os (.agg ds) (.agg xs)) (hy : V E os (.agg es) (.agg ys)) (w : World) : ∀ (fs : List Field) (l : List (Nat × FK)) (b : Bool), stF P fs = some l → eqFs l ds es = some b → (Op.eqFields 9999 xs ys fs).run P w = .ok b w
  | [], l, b, h, hb => by cases h; cases hb; simp [Op.eqFields]
  | f :: fs, l, b, h, hb => by
    simp only [stF] at h
    split at h
    · cases h
    · rename_i hn
      have main : ∀ (k : FK) (l' : List (Nat × FK)), stF P fs = some l' → l = (f.offset, k) :: l' → ((∃ k, P.underlying f.type = some (.int k)) ∨ P.underlying f.type = some .string ∨ P.underlying f.type = some .bool) →
          (∀ a b r, eqX k a b = some r → ∀ u v, VX E.w E.st a u → VX E.w E.st b v → (Op.equalIn 9999 f.type u v).run P w = .ok r w) → (Op.eqFields 9999 xs ys (f :: fs)).run P w = .ok b w := by
        intro k l' hl' hl ht hk
        subst hl
        simp only [eqFs] at hb
        split at hb
        · rename_i p q hp hq
          obtain ⟨r, hr, hb⟩ := Option.bind_eq_some_iff.1 hb
          obtain ⟨q', hq', rfl⟩ := Option.map_eq_some_iff.1 hb
          cases hx with
          | agg _ hxl hx1 hxv =>
            cases hy with
            | agg _ hyl hy1 hyv =>
              have hu : xs[f.offset]? = some (xs[f.offset]'(by rw [← hxl]; exact (List.getElem?_eq_some_iff.1 hp).1)) := Array.getElem?_eq_getElem _
              have hv : ys[f.offset]? = some (ys[f.offset]'(by rw [← hyl]; exact (List.getElem?_eq_some_iff.1 hq).1)) := Array.getElem?_eq_getElem _
              have e := hk p q r hr _ _ (hxv _ _ _ hp hu).xx (hyv _ _ _ hq hv).xx
              have ih := run_eqFs (.agg xs hxl hx1 hxv) (.agg ys hyl hy1 hyv) w fs l' q' hl' hq'
              simp only [Op.eqFields, ne_eq, hn, not_false_eq_true, if_true, Sem.run_bind, run_part1 ht hu, run_part1 ht hv, Result.andThen_ok, e]
              cases r
              · simp
              · simpa using ih
        · cases hb
      split at h
      · rename_i k hk
        obtain ⟨l', h1, h2⟩ := Option.map_eq_some_iff.1 h
        refine main (.int k) l' h1 h2.symm (.inl ⟨k, hk⟩) (fun a b r hr u v hu hv => ?_)
        unfold eqX at hr
        split at hr <;> (try cases hr)
        · rename_i e1
          split at hr
          · rename_i hkk; cases hr; obtain ⟨rfl, rfl⟩ := hkk; cases e1; cases hu; cases hv; exact run_equalIn_int w 9998 f.type _ _ _ _ hk
          · cases hr
        all_goals (rename_i e1; cases e1)
      · rename_i hk
        obtain ⟨l', h1, h2⟩ := Option.map_eq_some_iff.1 h
        refine main .str l' h1 h2.symm (.inr (.inl hk)) (fun a b r hr u v hu hv => ?_)
        unfold eqX at hr
        split at hr <;> (try cases hr)
        · rename_i e1; cases e1
        · rename_i s1 t1 e1
          cases hu; cases hv
          have := run_equalIn_string w 9998 f.type (bstr s1) (bstr t1) hk
          rw [bstr_toList, bstr_toList] at this
          exact this
        · rename_i e1; cases e1
      · rename_i hk
        obtain ⟨l', h1, h2⟩ := Option.map_eq_some_iff.1 h
        refine main .bool l' h1 h2.symm (.inr (.inr hk)) (fun a b r hr u v hu hv => ?_)
        unfold eqX at hr
        split at hr <;> (try cases hr)
        · rename_i e1; cases e1
        · rename_i e1; cases e1
        · cases hu; cases hv; exact run_equalIn_bool' w 9998 f.type _ _ hk
      · cases h
theorem run_eq {k : EqK} {t : Nat} (ht : k.ok P t) {x y : D} {vx vy : Value} (hx : V E os x vx) (hy : V E os y vy) {b : Bool} (h : eqD k x y = some b) (neg : Bool) (ox oy : Operand) (w : World) :
    (do eqGuard (if neg then .neq else .eql) t ox oy vx vy; binOp (if neg then .neq else .eql) t vx vy : Sem Value).run P w = .ok (.bool (b != neg)) w := by
  have fin : ∀ {b : Bool}, (Op.equal t vx vy).run P w = .ok b w → (∀ op, eqGuard op t ox oy vx vy = pure ()) → (binOp .eql t vx vy = do pure (.bool (← Op.equal t vx vy))) → (binOp .neq t vx vy = do pure (.bool (!(← Op.equal t vx vy)))) →
      (do eqGuard (if neg then .neq else .eql) t ox oy vx vy; binOp (if neg then .neq else .eql) t vx vy : Sem Value).run P w = .ok (.bool (b != neg)) w := by
    intro b hr hg h1 h2
    cases neg
    · simp [hg, h1, hr]
    · simp [hg, h2, hr]
  unfold eqD at h
  split at h <;> (try cases h)
  · obtain rfl := V.bool hx; obtain rfl := V.bool hy; exact fin (run_equal_bool ht _ _ w) (fun op => by unfold eqGuard; split <;> rfl) rfl rfl
  · obtain ⟨e, ht⟩ := ht; obtain rfl := V.nilp hx; obtain rfl := V.nilp hy; exact fin (run_equal_nilp ht _ w) (fun op => by unfold eqGuard; split <;> rfl) rfl rfl
  · obtain ⟨e, ht⟩ := ht; obtain ⟨ad, rfl⟩ := V.ptr_some hy; obtain rfl := V.nilp hx; exact fin (run_equal_nilp ht _ w) (fun op => by unfold eqGuard; split <;> rfl) rfl rfl
  · obtain ⟨e, ht⟩ := ht; obtain ⟨ad, rfl⟩ := V.ptr_some hx; obtain rfl := V.nilp hy; exact fin (run_equal_pnil ht _ w) (fun op => by unfold eqGuard; split <;> rfl) rfl rfl
  · obtain ⟨e, ht⟩ := ht; obtain ⟨ad, rfl⟩ := V.vptr_some hy; obtain rfl := V.nilp hx; exact fin (run_equal_nilp ht _ w) (fun op => by unfold eqGuard; split <;> rfl) rfl rfl
  · obtain ⟨e, ht⟩ := ht; obtain ⟨ad, rfl⟩ := V.vptr_some hx; obtain rfl := V.nilp hy; exact fin (run_equal_pnil ht _ w) (fun op => by unfold eqGuard; split <;> rfl) rfl rfl
  · obtain ⟨e, ht⟩ := ht; obtain rfl := V.nils hx; obtain rfl := V.nils hy; exact fin (run_equal_nils ht _ _ _ _ _ w) (fun op => by unfold eqGuard; split <;> rfl) rfl rfl
  · obtain ⟨e, ht⟩ := ht
    have h1 := hx.xx
    cases h1 with
    | sl _ a n cp sz0 val hn hc hm hsz hcell hnil hsp hval =>
      cases a with
      | none => have := (hnil rfl).1; simp at hn; omega
      | some ad => obtain rfl := V.nils hy; exact fin (run_equal_snil ht _ _ _ _ _ w) (fun op => by unfold eqGuard; split <;> rfl) rfl rfl
  · obtain ⟨e, ht⟩ := ht
    have h1 := hy.xx
    cases h1 with
    | sl _ a n cp sz0 val hn hc hm hsz hcell hnil hsp hval =>
      cases a with
      | none => have := (hnil rfl).1; simp at hn; omega
      | some ad => obtain rfl := V.nils hx; exact fin (run_equal_nils ht _ _ _ _ _ w) (fun op => by unfold eqGuard; split <;> rfl) rfl rfl
  · rename_i fs ds es
    have ht' : stFs P t = some fs := ht
    unfold stFs at ht'
    split at ht'
    · rename_i ff hu
      split at ht'
      · cases ht'
      · rename_i hg
        simp only [Bool.or_eq_true, not_or, Bool.not_eq_true] at hg
        have hff : P.fieldsOf t = ff := by simp [Program.fieldsOf, hu]
        cases hx with
        | agg xs hxl hx1 hxv =>
          cases hy with
          | agg ys hyl hy1 hyv =>
            have he := run_eqFs (P := P) (.agg xs hxl hx1 hxv) (.agg ys hyl hy1 hyv) w ff.toList fs b ht' h
            rw [← hff] at he
            rw [← run_equalIn_struct w 9999 t xs ys (by rw [hff]; exact hu) hg.1] at he
            cases neg
            · simp only [Bool.false_eq_true, if_false, Sem.run_bind, run_eqGuard_agg w .eql t ox oy xs ys hg.2, Result.andThen_ok, run_eql_struct, he]; simp
            · simp only [if_true, Sem.run_bind, run_eqGuard_agg w .neq t ox oy xs ys hg.2, Result.andThen_ok, run_neq_struct, he]; simp
    · cases ht'

theorem nzD_ok {x : D} {vx : Value} (hx : V E os x vx) (h : nzD os x = some true) : ∃ ad n cp, vx = .slice (some ad) n cp := by
  unfold nzD at h
  split at h
  · rename_i id ext off len
    simp only [Option.some.injEq, Bool.and_eq_true, decide_eq_true_eq] at h
    obtain ⟨h1, h2⟩ := h
    cases hx with
    | ref hr h3 =>
      simp only [okRef] at h1
      cases ho : os[id]? with
      | none => simp [ho] at h1
      | some o =>
        cases hs : o.slice? with
        | none => simp [ho, hs] at h1
        | some p =>
          simp only [ho, hs, decide_eq_true_eq] at h1
          obtain ⟨k1, b, a, cap, a', cap', _, rfl, k5, _, _, _, k9, _⟩ := (hr.at ho hs).2 h1
          cases a' with
          | some ad => exact ⟨ad, _, _, rfl⟩
          | none => have := (k9 rfl).1; omega
  · simp only [Option.some.injEq, decide_eq_true_eq] at h
    have h1 := hx.xx
    cases h1 with
    | sl _ a n cp sz0 val hn hc hm hsz hcell hnil hsp hval =>
      cases a with
      | some ad => exact ⟨ad, _, _, rfl⟩
      | none => have := (hnil rfl).1; omega
  · simp only [Option.some.injEq, decide_eq_true_eq] at h
    cases hx with
    | full n hv =>
      cases hv with
      | sl _ _ _ _ sz0 val hn hc hm hsz hcell hnil hsp hval =>
        rename_i a
        cases a with
        | some ad => exact ⟨ad, _, _, rfl⟩
        | none => have := (hnil rfl).1; omega
  · cases hx with
    | nz hv => exact ⟨_, _, _, rfl⟩
  · cases h
theorem run_eqR {k : EqK} {t : Nat} (ht : k.ok P t) {x y : D} {vx vy : Value} (hx : V E os x vx) (hy : V E os y vy) {b : Bool} (h : eqR os k x y = some (true, b)) (neg : Bool) (ox oy : Operand) (w : World) :
    (do eqGuard (if neg then .neq else .eql) t ox oy vx vy; binOp (if neg then .neq else .eql) t vx vy : Sem Value).run P w = .ok (.bool (b != neg)) w := by
  unfold eqR at h
  split at h
  · rename_i r hr
    simp at h
    subst h
    exact run_eq ht hx hy hr neg ox oy w
  · split at h
    · obtain ⟨b', h1, h2⟩ := Option.map_eq_some_iff.1 h
      simp at h2
      obtain ⟨rfl, rfl⟩ := h2
      obtain ⟨ad, n, cp, rfl⟩ := nzD_ok hx h1
      obtain rfl := V.nils hy
      obtain ⟨e, ht⟩ := ht
      have hg : ∀ op, eqGuard op t ox oy (.slice (some ad) n cp) (.slice none 0 0) = pure () := fun op => by unfold eqGuard; split <;> rfl
      have h2 := run_equal_snil ht n cp 0 0 ad w
      have h3 : binOp .eql t (.slice (some ad) n cp) (.slice none 0 0) = (do pure (.bool (← Op.equal t (.slice (some ad) n cp) (.slice none 0 0)))) := rfl
      have h4 : binOp .neq t (.slice (some ad) n cp) (.slice none 0 0) = (do pure (.bool (!(← Op.equal t (.slice (some ad) n cp) (.slice none 0 0))))) := rfl
      cases neg
      · simp [hg, h3, h2]
      · simp [hg, h4, h2]
    · cases h

theorem run_un {op : UnOp} {x d : D} {vx : Value} (hx : V E os x vx) (h : unD op x = some d) (w : World) : ∃ v, (Op.unary op vx).run P w = .ok v w ∧ V E os d v := by
  unfold unD at h
  split at h
  · rw [V.bool hx]
    split at h <;> cases h
    exact ⟨_, by simp [Op.unary], V.mkbool _ _ _⟩
  · rename_i k n
    rw [V.int hx]
    split at h
    · cases h; exact ⟨_, by simp [Op.unary, Op.intArith], V.mkint _ _ _ _⟩
    · obtain ⟨m, h1, rfl⟩ := Option.map_eq_some_iff.1 h
      refine ⟨_, ?_, V.mkint _ _ _ _⟩
      rw [← run_bits (P := P) h1 w]
      simp [Op.unary]
    · cases h
  · cases h

theorem run_cvi {k k' : IntKind} {s d : Nat} (hs : ∃ j, P.underlying s = some (.int j)) (hd : P.underlying d = some (.int k)) (n : Int) (w : World) : (convert s d (.int k' n)).run P w = .ok (.int k (k.wrap n)) w := by
  obtain ⟨j, hs⟩ := hs
  simp [convert, run_underlying hs, run_underlying hd, Conv.intToInt]

theorem run_b2s (R : Rel c E os) {s d e : Nat} (hs : P.underlying s = some (.slice e)) (he : P.underlying e = some (.int .u8)) (hd : P.underlying d = some .string) {x : D} {vx : Value} (hx : V E os x vx) {rs : List (List X)} (hr : rowsOf os x = some rs) (hb : rs.all isByte = true) :
    (convert s d vx).run P E.w = .ok (.string (bstr (rs.map rowByte))) E.w := by
  have hz : ∀ r ∈ rs, r.length = 1 := fun r h => by
    have := List.all_eq_true.1 hb r h
    unfold isByte at this
    split at this
    · rfl
    · cases this
  obtain ⟨a, cp, xs, rfl, h1, h2, h3, h4, h5, h6, h7⟩ := rows_read R hx hr hz
  rw [run_convert_bytes_string _ s d e _ _ _ hs he hd]
  cases a with
  | none =>
    have : rs = [] := List.eq_nil_of_length_eq_zero (h4 rfl)
    subst this; rfl
  | some ad =>
    let num : List X → Int := fun r => match r with | .int .u8 n :: _ => n | _ => 0
    have hxs : xs = (rs.map num).map (Value.int .u8) := by
      apply List.ext_getElem?
      intro i
      rw [List.map_map, List.getElem?_map]
      by_cases hi : i < rs.length
      · have hm : rs[i] ∈ rs := List.getElem_mem _
        have hbi := List.all_eq_true.1 hb _ hm
        rw [List.getElem?_eq_getElem hi]
        generalize hri : rs[i] = r at *
        unfold isByte at hbi
        split at hbi
        · rename_i n
          obtain ⟨u, k1, k2⟩ := h7 i _ 0 _ (by rw [List.getElem?_eq_getElem hi, hri]) rfl
          cases k2
          rw [Nat.mul_one, Nat.add_zero] at k1
          rw [k1]; rfl
        · cases hbi
      · rw [List.getElem?_eq_none (by rw [h3]; omega), List.getElem?_eq_none (by omega)]; rfl
    have hl := run_loadCells_list (P := P) (w := E.w) ad xs (h5 ad rfl)
    rw [h3, Nat.mul_one, hxs] at hl
    rw [run_bytesToString E.w ad _ cp (rs.map num) hl, foldl_push]
    congr 2
    unfold bstr
    congr 2
    simp only [ByteArray.data_empty, Array.toList_empty, List.nil_append, List.map_map]
    refine List.map_congr_left fun r hr => ?_
    have hbi := List.all_eq_true.1 hb _ hr
    unfold isByte at hbi
    split at hbi
    · rfl
    · cases hbi

theorem run_fld {t f n off : Nat} {ag : Bool} {fs : Array Field} {fd : Field} (ht : P.underlying t = some (.struct fs)) (hf : fs[f]? = some fd) (ho : fd.offset = off) (hn : szOf P fd.type = some n) (hag : agOf P fd.type = some ag) {ds : List D} {vx : Value} (hx : V E os (.agg ds) vx) (w : World) {d : D}
    (h : (if ag then some (D.agg ((ds.drop off).take n)) else ds[off]?) = some d) : ∃ v, (Instr.field t vx f).run P w = .ok v w ∧ V E os d v := by
  cases hx with
  | agg vs hl h1 hv =>
    have hx : V E os (.agg ds) (.agg vs) := .agg vs hl h1 hv
    cases ag
    · simp at h
      have hlt := (List.getElem?_eq_some_iff.1 h).1
      have hvs : vs[off]? = some vs[off] := Array.getElem?_eq_getElem (by omega)
      exact ⟨vs[off], by simp [Instr.field, run_underlying ht, hf, asAgg, part, run_ag hag, ho, hvs], hv off d _ h hvs⟩
    · simp at h; subst h
      exact ⟨_, by simp [Instr.field, run_underlying ht, hf, asAgg, part, run_ag hag, run_size hn, ho], hx.agg_part off n⟩

theorem run_fad {t f n off : Nat} {fs : Array Field} {fd : Field} (ht : P.underlying t = some (.struct fs)) (hf : fs[f]? = some fd) (ho : fd.offset = off) (hn : szOf P fd.type = some n) (h0 : n ≠ 0) (ad : Addr) (w : World) :
    (Instr.fieldAt t (.pointer (some ad)) f).run P w = .ok (.pointer (some (ad.add off))) w := by
  simp [Instr.fieldAt, run_underlying ht, hf, Instr.sureAddr, fieldPlace, run_size hn, h0, ho]

theorem run_iad {t e sz : Nat} (ht : P.underlying t = some (.slice e)) (hs : szOf P e = some sz) (ad : Addr) (n cp : Nat) (k : IntKind) (i : Int) (h0 : 0 ≤ i) (h1 : i < n) (w : World) :
    (Instr.indexAt t (.slice (some ad) n cp) (.int k i)).run P w = .ok (.pointer (some (ad.add (i.toNat * sz)))) w := by
  simp [Instr.indexAt, asIntOf, run_underlying ht, run_size hs, h0, h1]
theorem run_iada {t e sz m : Nat} (ht : P.underlying t = some (.array m e)) (hs : szOf P e = some sz) (ad : Addr) (k : IntKind) (i : Int) (h0 : 0 ≤ i) (h1 : i < m) (w : World) :
    (Instr.indexAt t (.pointer (some ad)) (.int k i)).run P w = .ok (.pointer (some (ad.add (i.toNat * sz)))) w := by
  simp [Instr.indexAt, asIntOf, run_underlying ht, run_size hs, h0, h1, Instr.sureAddr]

theorem run_idx {t : Nat} (ht : P.underlying t = some .string) (s : List UInt8) (k : IntKind) (i : Int) (h0 : 0 ≤ i) (h1 : i < s.length) (w : World) :
    (Instr.index t (.string (bstr s)) (.int k i)).run P w = .ok (.int .u8 (s.getD i.toNat 0).toNat) w := by
  rw [run_index_bt w t k (bstr s) i ht h0 (by rw [bstr_size]; exact h1)]
  simp [bt, bstr]

theorem run_idxa {t e sz m : Nat} {ag : Bool} (ht : P.underlying t = some (.array m e)) (hs : szOf P e = some sz) (hag : agOf P e = some ag) {ds : List D} {vx : Value} (hx : V E os (.agg ds) vx) (k : IntKind) (i : Int) (h0 : 0 ≤ i) (h1 : i < m) (w : World) {d : D}
    (h : (if ag then some (D.agg ((ds.drop (i.toNat * sz)).take sz)) else ds[i.toNat * sz]?) = some d) : ∃ v, (Instr.index t vx (.int k i)).run P w = .ok v w ∧ V E os d v := by
  cases hx with
  | agg vs hl h1' hv =>
    have hx : V E os (.agg ds) (.agg vs) := .agg vs hl h1' hv
    cases ag
    · simp at h
      have hlt := (List.getElem?_eq_some_iff.1 h).1
      have hvs : vs[i.toNat * sz]? = some vs[i.toNat * sz] := Array.getElem?_eq_getElem (by omega)
      exact ⟨vs[i.toNat * sz], by simp [Instr.index, asIntOf, run_underlying ht, h0, h1, part, run_ag hag, run_size hs, hvs], hv _ d _ h hvs⟩
    · simp at h; subst h
      exact ⟨_, by simp [Instr.index, asIntOf, run_underlying ht, h0, h1, part, run_ag hag, run_size hs], hx.agg_part _ _⟩

theorem run_mnx {t : Nat} (mx : Bool) (k k' : IntKind) (a b : Int) (ts : Array Nat) (w : World) :
    (if mx then Builtin.max_ ts t #[.int k a, .int k' b] else Builtin.min_ ts t #[.int k a, .int k' b]).run P w = .ok (.int k (if mx then (if b > a then b else a) else (if b < a then b else a))) w := by
  cases mx <;> simp [Builtin.max_, Builtin.min_, Builtin.max2, Builtin.min2]

end
end Go.Ab
