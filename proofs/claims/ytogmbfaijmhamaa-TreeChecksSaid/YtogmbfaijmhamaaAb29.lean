/- What is known may be said otherwise: rows that no longer turn as plain values; objects that nobody needs are forgotten. -/
import Derived.Test.YtogmbfaijmhamaaAb28
import Derived.IntWalk
namespace Go.Ab
open Go.RowKit Go.Bo

mutual
/-- Rows that no longer turn, as plain values. -/
def D.vw (os : List Ob) : D → D
  | .ref id ext off len => match os[id]? with
    | some (.frz _ rs) => if rs.length = ext then .x (.sl ((rs.drop off).take len)) else .ref id ext off len
    | _ => .ref id ext off len
  | .agg ds => .agg (vwL os ds)
  | .tup ds => .tup (vwL os ds)
  | .fn f caps => .fn f (vwL os caps)
  | .opt b d => .opt b (d.vw os)
  | .ptr id o => .ptr id o
  | .eptr id a b c => .eptr id a b c
  | .x y => .x y
  | .vptr cs => .vptr cs
  | .full rs => .full rs
  | .nz rs => .nz rs
  | .und => .und
def vwL (os : List Ob) : List D → List D
  | [] => []
  | d :: l => d.vw os :: vwL os l
end
theorem vwL_map (os : List Ob) : ∀ l, vwL os l = l.map (D.vw os)
  | [] => rfl
  | d :: l => by simp [vwL, vwL_map os l]
/-- Its objects are among these, or it says nothing. -/
def D.on (ρ : List Nat) (d : D) : D := if d.inP (fun i => memB i ρ) = true then d else .und
def Ob.mp (f : D → D) : Ob → Ob
  | .box ds => .box (ds.map f)
  | o => o
def frzL : List Nat → List Ob → List Ob
  | [], os => os
  | i :: l, os => match os[i]? with
    | some (.rows _ _ sz rs) => frzL l (os.set i (.frz sz rs))
    | _ => frzL l os
def onF (ρ : List Nat) (os : List Ob) (d : D) : D := (d.vw os).on ρ
def nrmO (ρ : List Nat) (os : List Ob) : List Ob := fpO ρ (os.map (Ob.mp (onF ρ os)))
def nrmφ (ρ : List Nat) (os : List Ob) (φ : List (Nat × D)) : List (Nat × D) := φ.map fun p => (p.1, (onF ρ os p.2).ren (inv ρ))
def nrmB (ρ : List Nat) (k m : Nat) : Bool := nodupB ρ && (ρ.all (fun r => decide (r < m)) && (List.range k).all fun i => decide (ρ[i]? = some i))

section
variable {P : Program} {c : Ctx} {E E0 : Env} {os os0 : List Ob} {n : Nat} {Q : Exit → List (Nat × D) → List Ob → Prop} {φ : List (Nat × D)}

theorem ref_frz (R : Rel c E os) {id ext off len sz : Nat} {rs : List (List X)} {v : Value} (hv : V E os (.ref id ext off len) v) (ho : os[id]? = some (.frz sz rs)) (hl : rs.length = ext) : VX E.w E.st (.sl ((rs.drop off).take len)) v := by
  cases hv with
  | ref hr _ =>
    obtain ⟨h1, h2⟩ := hr.at ho rfl
    obtain ⟨h3, b, ad, cap, a', cap', h4, h5, h6, h7, h8, h9, h10, h11⟩ := h2 hl
    obtain ⟨p, hp, hok⟩ := R.at ho
    rw [hp] at h4; cases h4
    subst h5
    have hok' : VX E.w E.st (.sl rs) (.slice ad ext cap) := hok.1
    obtain ⟨w1, w2, w3, w4, w5, w6⟩ := OK.cap (os := os) (o := .frz sz rs) hok rfl rfl
    exact hok'.part w4 off len (by omega) a' cap' h6 h7 h9 h10 (fun _ => h11)

theorem V.vw (R : Rel c E os) {d : D} {v : Value} (h : V E os d v) : V E os (d.vw os) v := by
  have lst : ∀ {ds : List D} {vs : Array Value}, (∀ (j : Nat) (d : D) (v : Value), ds[j]? = some d → vs[j]? = some v → V E os (d.vw os) v) → ∀ (j : Nat) (d : D) (v : Value), (vwL os ds)[j]? = some d → vs[j]? = some v → V E os d v := by
    intro ds vs ih j d v hd hv
    rw [vwL_map, List.getElem?_map] at hd
    obtain ⟨d0, h0, rfl⟩ := Option.map_eq_some_iff.1 hd
    exact ih j d0 v h0 hv
  induction h with
  | x h => exact .x h
  | ref h h1 =>
    simp only [D.vw]
    split
    · rename_i sz rs ho
      split
      · rename_i hl
        exact .x (ref_frz R (.ref h h1) ho hl)
      · exact .ref h h1
    · exact .ref h h1
  | ptr ho h => exact .ptr ho h
  | eptr h h1 => exact .eptr h h1
  | vptr b off val hc hv => exact .vptr b off val hc hv
  | agg vs hl h1 _ ih => exact .agg vs (by rw [vwL_map]; simpa using hl) h1 (lst ih)
  | tup vs hl _ ih => exact .tup vs (by rw [vwL_map]; simpa using hl) (lst ih)
  | full n h => exact .full n h
  | nz h => exact .nz h
  | fn vs hl _ ih => exact .fn vs (by rw [vwL_map]; simpa using hl) (lst ih)
  | opt _ h' ih => exact .opt ih h'
  | und v => exact .und v
theorem V.on {ρ : List Nat} {d : D} {v : Value} (h : V E os d v) : V E os (d.on ρ) v := by
  unfold D.on
  split
  · exact h
  · exact .und v

theorem Ob.mp_slice (f : D → D) (o : Ob) : (o.mp f).slice? = o.slice? := by cases o <;> rfl
theorem Ob.mp_mb (f : D → D) (o : Ob) (q : Nat × Value) : (o.mp f).mb q = o.mb q := by cases o <;> rfl

theorem Rel.mp (R : Rel c E os) {f : D → D} (hf : ∀ d v, V E os d v → V E os (f d) v) : Rel c E (os.map (Ob.mp f)) ∧ Evo E os E (os.map (Ob.mp f)) := by
  have at' : ∀ {i : Nat} {o : Ob}, (os.map (Ob.mp f))[i]? = some o → ∃ o0, os[i]? = some o0 ∧ o = o0.mp f := fun {i o} h => by
    rw [List.getElem?_map] at h
    obtain ⟨o0, h0, rfl⟩ := Option.map_eq_some_iff.1 h
    exact ⟨o0, h0, rfl⟩
  have ev : Evo E os E (os.map (Ob.mp f)) := ⟨fun b o h => ⟨h, rfl⟩, fun id b cu ds ho hb => ⟨cu, ds.map f, by rw [List.getElem?_map, ho]; rfl, hb⟩,
    fun id o sz rs ho hs => ⟨o.mp f, rs, by rw [List.getElem?_map, ho]; rfl, by rw [Ob.mp_slice]; exact hs, .inl ⟨rfl, rfl⟩⟩⟩
  refine ⟨⟨by simp [R.len], fun i o p h1 h2 => ?_, fun i j o o' p p' b h1 h2 h3 h4 h5 h6 => ?_, fun b off hs => ⟨(R.stm b off hs).1, fun i o p h1 h2 h3 => ?_⟩, R.kept, fun i o p b h1 h2 h3 => ?_, R.sto⟩, ev⟩
  · obtain ⟨o0, h0, rfl⟩ := at' h1
    have hok := R.ok i o0 p h0 h2
    cases o0 with
    | box ds =>
      obtain ⟨cs, ty, g1, g2, g3⟩ := hok
      refine ⟨cs, ty, g1, by simpa using g2, fun j d v hd hv => ?_⟩
      rw [List.getElem?_map] at hd
      obtain ⟨d0, hd0, rfl⟩ := Option.map_eq_some_iff.1 hd
      exact ⟨(hf d0 v (g3 j d0 v hd0 hv).1).mono ev, (g3 j d0 v hd0 hv).2⟩
    | rows fz el sz rs => exact hok
    | frz sz rs => exact hok
    | dead => trivial
  · obtain ⟨o1, g1, rfl⟩ := at' h1
    obtain ⟨o2, g2, rfl⟩ := at' h3
    rw [Ob.mp_mb] at h5 h6
    exact R.dis i j o1 o2 p p' b g1 h2 g2 h4 h5 h6
  · obtain ⟨o1, g1, rfl⟩ := at' h1
    rw [Ob.mp_mb] at h3
    exact (R.stm b off hs).2 i o1 p g1 h2 h3
  · obtain ⟨o1, g1, rfl⟩ := at' h1
    rw [Ob.mp_mb] at h3
    exact R.mbs i o1 p b g1 h2 h3

theorem Rel.frzL : ∀ (l : List Nat) {E : Env} {os : List Ob}, Rel c E os → ∃ st', Rel c ⟨E.w, st', E.ob⟩ (frzL l os) ∧ Evo E os ⟨E.w, st', E.ob⟩ (frzL l os) ∧ (Go.Ab.frzL l os).length = os.length
  | [], E, os, R => ⟨E.st, R, Evo.refl _ _, rfl⟩
  | i :: l, E, os, R => by
    simp only [Go.Ab.frzL]
    split
    · rename_i fz e sz rs ho
      obtain ⟨p, hp, _⟩ := R.at ho
      obtain ⟨R1, e1⟩ := R.freeze ho hp
      obtain ⟨st', R2, e2, hl⟩ := Rel.frzL l R1
      exact ⟨st', R2, e1.trans e2, by simpa using hl⟩
    · exact Rel.frzL l R

/-- The same objects, fewer of them, in another order. -/
theorem Rel.pickO {ρ : List Nat} (R : Rel c E os) (hn : ρ.Nodup) (hlt : ∀ r ∈ ρ, r < os.length) (hcl : ∀ r ∈ ρ, (os.getD r .dead).inP (fun i => memB i ρ) = true) : Rel c (fpE ρ E) (fpO ρ os) := by
  have R1 := fp_rel R hn hlt hcl
  refine ⟨R1.len, R1.ok, R1.dis, R1.stm, R.kept, fun i o p b h1 h2 h3 => ?_, R.sto⟩
  obtain ⟨r, o0, p0, k1, k2, rfl, k4, k5⟩ := fp_at R hlt h1
  rw [h2] at k5; cases k5
  rw [Ob.ren_mb] at h3
  exact R.mbs r o0 p b k2 k4 h3

theorem inP_on {ρ : List Nat} (d : D) : (d.on ρ).inP (fun i => memB i ρ) = true := by
  unfold D.on
  split
  · assumption
  · rfl

theorem get_nrm (ρ : List Nat) (os : List Ob) (φ : List (Nat × D)) (t : Nat) : get (nrmφ ρ os φ) t = (onF ρ os (get φ t)).ren (inv ρ) := by
  induction φ with
  | nil => rfl
  | cons p φ ih =>
    obtain ⟨u, d⟩ := p
    simp only [nrmφ, List.map_cons, get]
    split
    · rfl
    · exact ih
/-- What is known may be said otherwise. -/
def Wk (c : Ctx) (E0 : Env) (os0 : List Ob) (n : Nat) (φ : List (Nat × D)) (os : List Ob) (φ' : List (Nat × D)) (os' : List Ob) : Prop :=
  ∀ (E : Env) (a : Act), Run c E0 os0 E os → Fr n E os φ a → ∃ E', E'.w = E.w ∧ Run c E0 os0 E' os' ∧ Fr n E' os' φ' a
/-- Objects are forgotten, and numbered anew; slots and boxes that name them say nothing. -/
theorem Wk.pick (ρ : List Nat) (hok : nrmB ρ os0.length os.length = true) : Wk c E0 os0 n φ os (nrmφ ρ os φ) (nrmO ρ os) := by
  simp only [nrmB, Bool.and_eq_true] at hok
  obtain ⟨h1, h2, h3⟩ := hok
  have hn := nodupB_spec h1
  have hlt : ∀ r ∈ ρ, r < os.length := fun r hr => by simpa using List.all_eq_true.1 h2 r hr
  have hpre : ∀ i, i < os0.length → ρ[i]? = some i := fun i hi => by simpa using List.all_eq_true.1 h3 i (List.mem_range.2 hi)
  intro E a R hf
  obtain ⟨R1, e1⟩ := R.rel.mp (f := onF ρ os) (fun d v hd => (hd.vw R.rel).on)
  have hlt1 : ∀ r ∈ ρ, r < (os.map (Ob.mp (onF ρ os))).length := fun r hr => by simpa using hlt r hr
  have hcl : ∀ r ∈ ρ, ((os.map (Ob.mp (onF ρ os))).getD r .dead).inP (fun i => memB i ρ) = true := fun r hr => by
    have hl := hlt r hr
    simp only [List.getD, List.getElem?_map, List.getElem?_eq_getElem hl, Option.map_some, Option.getD_some]
    cases os[r] with
    | box ds =>
      simp only [Ob.mp, Ob.inP, inL_all]
      refine List.all_eq_true.2 (fun d hd => ?_)
      obtain ⟨d0, _, rfl⟩ := List.mem_map.1 hd
      exact inP_on _
    | _ => rfl
  have R2 := R1.pickO hn hlt1 hcl
  have e2 := fp_evo (ρ := ρ) R1 hlt1
  refine ⟨fpE ρ E, rfl, ⟨R2, ?_⟩, hf.size, hf.defers, fun t => ?_⟩
  · have e01 := R.evo.trans e1
    have hl01 : os0.length ≤ (os.map (Ob.mp (onF ρ os))).length := by
      rcases Nat.eq_zero_or_pos os0.length with h0 | h0
      · omega
      · have := hlt _ (List.mem_of_getElem? (hpre (os0.length - 1) (by omega)))
        simp only [List.length_map]; omega
    have hinv : ∀ i, i < os0.length → inv ρ i = i ∧ memB i ρ = true := fun i hi => ⟨inv_of hn (hpre i hi), memB_iff.2 (List.mem_of_getElem? (hpre i hi))⟩
    refine ⟨e01.st, fun id b cu ds ho hb => ?_, fun id o sz rs ho hs => ?_⟩
    · have hi := (List.getElem?_eq_some_iff.1 ho).1
      obtain ⟨cu1, ds1, k1, k2⟩ := e01.bl id b cu ds ho hb
      obtain ⟨w1, w2⟩ := hinv id hi
      obtain ⟨cu2, ds2, k3, k4⟩ := e2.bl id b cu1 ds1 w2 k1 k2
      rw [w1] at k3 k4
      exact ⟨cu2, ds2, k3, k4⟩
    · have hi := (List.getElem?_eq_some_iff.1 ho).1
      obtain ⟨o1, rs1, k1, k2, k3⟩ := e01.rf id o sz rs ho hs
      obtain ⟨w1, w2⟩ := hinv id hi
      obtain ⟨o2, rs2, k4, k5, k6⟩ := e2.rf id o1 sz rs1 w2 k1 k2
      rw [w1] at k4 k6
      refine ⟨o2, rs2, k4, k5, ?_⟩
      rcases k3 with ⟨k3, k3'⟩ | k3 <;> rcases k6 with ⟨k6, k6'⟩ | k6
      · exact .inl ⟨k3.trans k6, k6'.trans k3'⟩
      · exact .inr (by omega)
      · exact .inr (by omega)
      · exact .inr (by omega)
  · have h0 : V E os (onF ρ os (get φ t)) (a.tmps.getD t undef) := ((hf.slot t).vw R.rel).on
    have h1 : V (fpE ρ E) (fpO ρ (os.map (Ob.mp (onF ρ os)))) ((onF ρ os (get φ t)).ren (inv ρ)) (a.tmps.getD t undef) := (h0.mono e1).monoR e2 (inP_on _)
    rw [get_nrm]
    exact h1

theorem Wk.freeze (l : List Nat) : Wk c E0 os0 n φ os φ (frzL l os) := by
  intro E a R hf
  obtain ⟨st', R1, e1, _⟩ := R.rel.frzL l
  exact ⟨⟨E.w, st', E.ob⟩, rfl, ⟨R1, R.evo.trans e1⟩, hf.mono e1⟩
theorem WI.pick (ρ : List Nat) {ic : IC} (hok : nrmB ρ os0.length os.length = true) (h : WI P c E0 os0 n ic Q (nrmφ ρ os φ) (nrmO ρ os)) : WI P c E0 os0 n ic Q φ os := WI.weak (Wk.pick ρ hok) h
/-- Rows no longer turn from here on. -/
theorem WI.freeze (l : List Nat) {ic : IC} (h : WI P c E0 os0 n ic Q φ (frzL l os)) : WI P c E0 os0 n ic Q φ os := WI.weak (Wk.freeze l) h
theorem thenQ_normal {next : List (Nat × D) → List Ob → Prop} (h : next φ os) : thenQ next Q .normal φ os := h
theorem thenQ_exit {next : List (Nat × D) → List Ob → Prop} {i : Nat} (h : Q (.exit i) φ os) : thenQ next Q (.exit i) φ os := h
theorem thenQ_ret {next : List (Nat × D) → List Ob → Prop} (h : Q .ret φ os) : thenQ next Q .ret φ os := h
theorem blockQ_hit {i : Nat} (h : Q .normal φ os) : blockQ i Q (.exit i) φ os := by show (if i = i then Q .normal φ os else Q (.exit i) φ os); rw [if_pos rfl]; exact h
theorem blockQ_miss {i j : Nat} (hne : j ≠ i) (h : Q (.exit j) φ os) : blockQ i Q (.exit j) φ os := by show (if j = i then Q .normal φ os else Q (.exit j) φ os); rw [if_neg hne]; exact h
theorem blockQ_ret {i : Nat} (h : Q .ret φ os) : blockQ i Q .ret φ os := h
theorem blockQ_normal {i : Nat} (h : Q .normal φ os) : blockQ i Q .normal φ os := h

theorem blockQ_goto {i l : Nat} (h : Q (.goto l) φ os) : blockQ i Q (.goto l) φ os := h
theorem thenQ_goto {next : List (Nat × D) → List Ob → Prop} {l : Nat} (h : Q (.goto l) φ os) : thenQ next Q (.goto l) φ os := h
theorem jumpQ_normal {l : Nat} {J : List (Nat × D) → List Ob → Prop} (h : Q .normal φ os) : jumpQ l J Q .normal φ os := h
theorem jumpQ_exit {l i : Nat} {J : List (Nat × D) → List Ob → Prop} (h : Q (.exit i) φ os) : jumpQ l J Q (.exit i) φ os := h
theorem jumpQ_ret {l : Nat} {J : List (Nat × D) → List Ob → Prop} (h : Q .ret φ os) : jumpQ l J Q .ret φ os := h
/-- A slice that is nil is one without elements. -/
def D.nn : D → D
  | .x .nils => .x (.sl [])
  | d => d
theorem VX.nn {w : World} {st : Nat → Nat → Prop} {v : Value} (h : VX w st .nils v) : VX w st (.sl []) v := by
  cases h
  exact .sl [] none 0 0 0 (fun _ _ => undef) rfl (Nat.le_refl _) (Nat.zero_le _) (fun r hr => by cases hr) (fun i j hi => by omega) (fun _ => ⟨rfl, rfl⟩) (fun _ ad h => by cases h) (fun i j r x hr => by simp at hr)
theorem V.nn {d : D} {v : Value} (h : V E os d v) : V E os d.nn v := by
  unfold D.nn
  split
  · exact .x h.xx.nn
  · exact h
theorem VL.nn {ds : List D} {vs : Array Value} (h : VL E os ds vs) : VL E os (ds.map D.nn) vs := by
  refine ⟨by simpa using h.1, fun j d v hd hv => ?_⟩
  rw [List.getElem?_map] at hd
  obtain ⟨d0, h0, rfl⟩ := Option.map_eq_some_iff.1 hd
  exact (h.2 j d0 v h0 hv).nn
theorem PCalls.nn {f : FuncId} {args : List D} {r : D} (h : PCalls P f (args.map D.nn) r) : PCalls P f args r := fun w st vs hst hvl => h w st vs hst hvl.nn
theorem MCalls.nn {f : FuncId} {args : List D} {r : D} {os' : List Ob} (h : MCalls P f (args.map D.nn) (os.map (Ob.mp D.nn)) r os') : MCalls P f args os r os' := by
  intro c E vs R hvl
  obtain ⟨R1, e1⟩ := R.mp (f := D.nn) (fun d v hd => hd.nn)
  refine (h c E vs R1 ⟨hvl.nn.1, fun j d v hd hv => (hvl.nn.2 j d v hd hv).mono e1⟩).mono ?_
  rintro e w' ⟨v, E', rfl, rfl, R', ev, hv⟩
  exact ⟨v, E', rfl, rfl, R', e1.trans ev, hv⟩
def nnφ (φ : List (Nat × D)) : List (Nat × D) := φ.map fun p => (p.1, p.2.nn)
theorem get_nn (φ : List (Nat × D)) (t : Nat) : get (nnφ φ) t = (get φ t).nn := by
  induction φ with
  | nil => rfl
  | cons p φ ih =>
    obtain ⟨u, d⟩ := p
    simp only [nnφ, List.map_cons, get]
    split
    · rfl
    · exact ih
theorem Wk.nn : Wk c E0 os0 n φ os (nnφ φ) (os.map (Ob.mp D.nn)) := by
  intro E a R hf
  obtain ⟨R1, e1⟩ := R.rel.mp (f := D.nn) (fun d v hd => hd.nn)
  exact ⟨E, rfl, ⟨R1, R.evo.trans e1⟩, hf.size, hf.defers, fun t => by rw [get_nn]; exact ((hf.slot t).nn).mono e1⟩
theorem WI.nn {ic : IC} (h : WI P c E0 os0 n ic Q (nnφ φ) (os.map (Ob.mp D.nn))) : WI P c E0 os0 n ic Q φ os := WI.weak Wk.nn h
/-- A slice is nil, or not. -/
theorem WI.nilSplit (t : Nat) {rs : List (List X)} {ic : IC} (ht : get φ t = .x (.sl rs)) (h1 : rs = [] → WI P c E0 os0 n ic Q (put φ t (.x .nils)) os) (h2 : WI P c E0 os0 n ic Q (put φ t (.nz rs)) os) : WI P c E0 os0 n ic Q φ os := by
  intro code hc E a R hf
  have hv := hf.slot t
  rw [ht] at hv
  have hx := hv.xx
  generalize hu : a.tmps.getD t undef = u at hx
  have upd : ∀ d, V E os d u → Fr n E os (put φ t d) a := fun d hd => ⟨hf.size, hf.defers, fun s => by
    rw [get_put]
    split
    · rename_i e; subst e; rw [hu]; exact hd
    · exact hf.slot s⟩
  have hx0 := hx
  cases hx0 with
  | sl _ ad m cp sz0 val hn hcc hm hsz hcell hnil hsp hval =>
    cases ad with
    | none =>
      obtain ⟨k1, rfl⟩ := hnil rfl
      subst k1
      exact h1 (List.eq_nil_of_length_eq_zero hn) code hc E a R (upd _ (.x .nils))
    | some ad => exact h2 code hc E a R (upd _ (.nz hx))
/-- That it is not nil is forgotten. -/
theorem WI.unNz (t : Nat) {rs : List (List X)} {ic : IC} (ht : get φ t = .nz rs) (h : WI P c E0 os0 n ic Q (put φ t (.x (.sl rs))) os) : WI P c E0 os0 n ic Q φ os := by
  refine WI.weak (fun E a R hf => ⟨E, rfl, R, hf.size, hf.defers, fun s => ?_⟩) h
  rw [get_put]
  split
  · rename_i e; subst e
    have := hf.slot t
    rw [ht] at this
    cases hv : a.tmps.getD t undef with
    | slice ad m cp => rw [hv] at this; cases this with | nz h => exact .x h
    | _ => rw [hv] at this; cases this
  · exact hf.slot s
/-- What a counter lacks. -/
def down (N : Int) (t : Nat) (φ : List (Nat × D)) (_ : List Ob) : Nat := (N - ((intOf? (get φ t).val).getD 0)).toNat
end
end Go.Ab
