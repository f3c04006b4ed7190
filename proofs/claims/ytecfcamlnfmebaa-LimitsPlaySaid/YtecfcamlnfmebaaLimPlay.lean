/- LimitsPlay, walked. -/
import Derived.Test.YtecfcamlnfmebaaLimLaw
import Derived.Deep.DeepCutAuto
namespace Go.Proofs.Ytecfcamlnfmebaa
open Go.RowKit Go.Bo

/-- A share as it lies in the law's own list. -/
def sc (p : ByteArray × (Int × Int)) : List Value := [.string p.1, .int .i64 p.2.1, .int .i64 p.2.2]

theorem flat3 {α : Type} (f : α → List Value) (h3 : ∀ x, (f x).length = 3) (l : List α) : ∀ (i : Nat) (h : i < l.length) (j : Nat), j < 3 → (l.flatMap f)[i * 3 + j]? = (f l[i])[j]? := by
  induction l with
  | nil => intro i h; simp at h
  | cons x t ih =>
    intro i h j hj
    rw [List.flatMap_cons]
    cases i with
    | zero => rw [List.getElem?_append_left (by rw [h3]; omega)]; simp
    | succ i =>
      rw [List.getElem?_append_right (by rw [h3]; omega), h3]
      have := ih i (by simpa using h) j hj
      rw [show (i + 1) * 3 + j - 3 = i * 3 + j by omega]
      simpa using this
theorem flat3_len {α : Type} (f : α → List Value) (h3 : ∀ x, (f x).length = 3) (l : List α) : (l.flatMap f).length = l.length * 3 := by
  induction l with
  | nil => rfl
  | cons x t ih => rw [List.flatMap_cons, List.length_append, h3, ih, List.length_cons]; omega
theorem flat3_set {α : Type} (f : α → List Value) (h3 : ∀ x, (f x).length = 3) (l : List α) (k : Nat) (y : α) (a b c : Value) (hf : f y = [a, b, c]) (h : k < l.length) :
    ((((l.flatMap f).set (k * 3) a).set (k * 3 + 1) b).set (k * 3 + 2) c) = (l.set k y).flatMap f := by
  apply List.ext_getElem?
  intro m
  by_cases hm : m < l.length * 3
  · have hm3 : m = m / 3 * 3 + m % 3 := by omega
    have hi : m / 3 < l.length := by omega
    have hi' : m / 3 < (l.set k y).length := by rw [List.length_set]; exact hi
    have hr : (((l.set k y).flatMap f))[m]? = (f (l.set k y)[m / 3])[m % 3]? := by
      have := flat3 f h3 (l.set k y) (m / 3) (by rw [List.length_set]; exact hi) (m % 3) (by omega)
      rw [← hm3] at this; exact this
    have hl : (l.flatMap f)[m]? = (f l[m / 3])[m % 3]? := by
      have := flat3 f h3 l (m / 3) hi (m % 3) (by omega)
      rw [← hm3] at this; exact this
    have hlen := flat3_len f h3 l
    rw [hr]
    by_cases hk : m / 3 = k
    · subst hk
      have e : (l.set (m / 3) y)[m / 3]'(by rw [List.length_set]; exact hi) = y := by simp
      rw [e, hf]
      have : m % 3 = 0 ∨ m % 3 = 1 ∨ m % 3 = 2 := by omega
      rcases this with h0 | h0 | h0
      · have e0 : m = m / 3 * 3 := by omega
        rw [h0, ← e0, List.getElem?_set_ne (by omega), List.getElem?_set_ne (by omega), List.getElem?_set_self (by omega)]; rfl
      · have e0 : m / 3 * 3 = m - 1 := by omega
        rw [h0, e0, List.getElem?_set_ne (by omega), show m - 1 + 1 = m by omega, List.getElem?_set_self (by simp only [List.length_set]; omega)]; rfl
      · have e0 : m / 3 * 3 = m - 2 := by omega
        rw [h0, e0, show m - 2 + 2 = m by omega, List.getElem?_set_self (by simp only [List.length_set]; omega)]; rfl
    · have e : (l.set k y)[m / 3]'(by rw [List.length_set]; exact hi) = l[m / 3] := by rw [List.getElem_set_ne (fun h => hk h.symm)]
      rw [e, ← hl, List.getElem?_set_ne (by omega), List.getElem?_set_ne (by omega), List.getElem?_set_ne (by omega)]
  · have hlen := flat3_len f h3 l
    have hlen2 := flat3_len f h3 (l.set k y)
    rw [List.getElem?_eq_none (by simp only [List.length_set]; omega), List.getElem?_eq_none (by rw [hlen2, List.length_set]; omega)]

theorem sc3 (p : ByteArray × (Int × Int)) : (sc p).length = 3 := rfl

/-- The law's own list of shares. -/
def SOwn (w : World) (base : Nat) (v : Value) (hv : List (ByteArray × (Int × Int))) : Prop := w.ownsRow base 39 3 v hv.length (hv.flatMap sc)

theorem SOwn.read {w : World} {base : Nat} {v : Value} {hv : List (ByteArray × (Int × Int))} (h : SOwn w base v hv) : ∃ a c, v = .slice a hv.length c ∧ ∀ i (hi : i < hv.length), ∃ g, a = some ⟨g, 0, none⟩ ∧ base ≤ g ∧
    w.cell? ⟨g, i * 3, none⟩ = some (.string hv[i].1) ∧ w.cell? ⟨g, i * 3 + 1, none⟩ = some (.int .i64 hv[i].2.1) ∧ w.cell? ⟨g, i * 3 + 2, none⟩ = some (.int .i64 hv[i].2.2) ∧ ∀ j, w.frozen? ⟨g, j, none⟩ = false := by
  rcases h.2 with ⟨rfl, hn⟩ | ⟨g, cap, cur, rfl, hb, hg, hc, hm, hs, ht⟩
  · exact ⟨none, 0, by rw [hn], fun i hi => by omega⟩
  · refine ⟨_, cap, rfl, fun i hi => ⟨g, rfl, hb, ?_, ?_, ?_, fun j => ?_⟩⟩
    · rw [World.ownsRow.cellAt h (i * 3) (by omega), show i * 3 = i * 3 + 0 by rfl, flat3 sc sc3 hv i hi 0 (by omega)]; rfl
    · rw [World.ownsRow.cellAt h (i * 3 + 1) (by omega), flat3 sc sc3 hv i hi 1 (by omega)]; rfl
    · rw [World.ownsRow.cellAt h (i * 3 + 2) (by omega), flat3 sc sc3 hv i hi 2 (by omega)]; rfl
    · exact World.ownsRow.frozenAt h j

theorem flat3_set1 {α : Type} (f : α → List Value) (h3 : ∀ x, (f x).length = 3) (l : List α) (k : Nat) (y : α) (a b b' c : Value) (h : k < l.length) (hf : f y = [a, b, c]) (hl : f l[k] = [a, b', c]) :
    (l.flatMap f).set (k * 3 + 1) b = (l.set k y).flatMap f := by
  rw [← flat3_set f h3 l k y a b c hf h]
  have e0 := flat3 f h3 l k h 0 (by omega)
  have e2 := flat3 f h3 l k h 2 (by omega)
  rw [hl] at e0 e2
  apply List.ext_getElem?
  intro m
  have hlen := flat3_len f h3 l
  by_cases m2 : m = k * 3 + 2
  · subst m2
    rw [List.getElem?_set_ne (by omega), List.getElem?_set_self (by simp only [List.length_set]; omega), e2]; rfl
  · rw [List.getElem?_set_ne (show k * 3 + 2 ≠ m by omega)]
    by_cases m1 : m = k * 3 + 1
    · subst m1
      rw [List.getElem?_set_self (by omega), List.getElem?_set_self (by simp only [List.length_set]; omega)]
    · rw [List.getElem?_set_ne (show k * 3 + 1 ≠ m by omega), List.getElem?_set_ne (show k * 3 + 1 ≠ m by omega)]
      by_cases m0 : m = k * 3
      · subst m0
        rw [List.getElem?_set_self (by omega)]
        simpa using e0
      · rw [List.getElem?_set_ne (show k * 3 ≠ m by omega)]

theorem SOwn.at {w : World} {base g n c : Nat} {hv : List (ByteArray × (Int × Int))} (h : SOwn w base (.slice (some ⟨g, 0, none⟩) n c) hv) {k : Nat} (hk : k < hv.length) :
    w.cell? ⟨g, k * 3, none⟩ = some (.string hv[k].1) ∧ w.cell? ⟨g, k * 3 + 1, none⟩ = some (.int .i64 hv[k].2.1) ∧ w.cell? ⟨g, k * 3 + 2, none⟩ = some (.int .i64 hv[k].2.2) ∧ (∀ j, w.frozen? ⟨g, j, none⟩ = false) ∧ n = hv.length := by
  obtain ⟨a, c', e, hr⟩ := SOwn.read h
  cases e
  obtain ⟨g', e, hb, h1, h2, h3, h4⟩ := hr k hk
  cases e
  exact ⟨h1, h2, h3, h4, rfl⟩

theorem grown_trans {a b c : World} {r : Option Nat} (h : a.grownBy b r) (k : b.grownBy c r) : a.grownBy c r :=
  ⟨k.os.trans h.os, k.tape.trans h.tape, k.output.trans h.output, Nat.le_trans h.size k.size, fun i hi hr => (k.block i (Nat.lt_of_lt_of_le hi h.size) hr).trans (h.block i hi hr)⟩

theorem SOwn.put {w : World} {base g n c : Nat} {hv : List (ByteArray × (Int × Int))} (h : SOwn w base (.slice (some ⟨g, 0, none⟩) n c) hv) {k : Nat} (hk : k < hv.length) (p : ByteArray × (Int × Int)) :
    SOwn (((w.setCell ⟨g, k * 3, none⟩ (.string p.1)).setCell ⟨g, k * 3 + 1, none⟩ (.int .i64 p.2.1)).setCell ⟨g, k * 3 + 2, none⟩ (.int .i64 p.2.2)) base (.slice (some ⟨g, 0, none⟩) n c) (hv.set k p) ∧
    w.grownBy (((w.setCell ⟨g, k * 3, none⟩ (.string p.1)).setCell ⟨g, k * 3 + 1, none⟩ (.int .i64 p.2.1)).setCell ⟨g, k * 3 + 2, none⟩ (.int .i64 p.2.2)) (some g) := by
  obtain ⟨-, -, -, -, rfl⟩ := SOwn.at h hk
  obtain ⟨o1, g1⟩ := World.ownsRow.stored h (k * 3) (.string p.1)
  obtain ⟨o2, g2⟩ := World.ownsRow.stored o1 (k * 3 + 1) (.int .i64 p.2.1)
  obtain ⟨o3, g3⟩ := World.ownsRow.stored o2 (k * 3 + 2) (.int .i64 p.2.2)
  refine ⟨?_, grown_trans (grown_trans g1 g2) g3⟩
  unfold SOwn
  rw [List.length_set, ← flat3_set sc sc3 hv k p _ _ _ rfl hk]
  exact o3
theorem SOwn.put1 {w : World} {base g n c : Nat} {hv : List (ByteArray × (Int × Int))} (h : SOwn w base (.slice (some ⟨g, 0, none⟩) n c) hv) {k : Nat} (hk : k < hv.length) (s : ByteArray) (x y t : Int) (he : hv[k] = (s, (x, t))) :
    SOwn (w.setCell ⟨g, k * 3 + 1, none⟩ (.int .i64 y)) base (.slice (some ⟨g, 0, none⟩) n c) (hv.set k (s, (y, t))) ∧ w.grownBy (w.setCell ⟨g, k * 3 + 1, none⟩ (.int .i64 y)) (some g) := by
  obtain ⟨-, -, -, -, rfl⟩ := SOwn.at h hk
  obtain ⟨o1, g1⟩ := World.ownsRow.stored h (k * 3 + 1) (.int .i64 y)
  refine ⟨?_, g1⟩
  unfold SOwn
  rw [List.length_set, ← flat3_set1 sc sc3 hv k (s, (y, t)) (.string s) (.int .i64 y) (.int .i64 x) (.int .i64 t) hk rfl (by rw [he]; rfl)]
  exact o1

theorem str_eq (s t : ByteArray) : (s.toList == t.toList) = decide (s = t) := by
  rw [← beq_toListBytes]
  rw [Bool.eq_iff_iff, MapKept.bytes_beq]; simp

/-- k is the first place of somebody. -/
def FirstAt (hv : List (ByteArray × (Int × Int))) (k : Nat) (who : ByteArray) : Prop := ∃ h : k < hv.length, hv[k].1 = who ∧ ∀ p ∈ hv.take k, p.1 ≠ who

theorem first_cons {p : ByteArray × (Int × Int)} {t : List (ByteArray × (Int × Int))} {k : Nat} {who : ByteArray} (h : FirstAt (p :: t) (k + 1) who) : p.1 ≠ who ∧ FirstAt t k who := by
  obtain ⟨h1, h2, h3⟩ := h
  exact ⟨h3 p (by simp), by simpa using h1, by simpa using h2, fun q hq => h3 q (by simp [hq])⟩
theorem mlook_first {hv : List (ByteArray × (Int × Int))} {k : Nat} {who : ByteArray} (h : FirstAt hv k who) : ∃ hk : k < hv.length, mlook hv who = some hv[k].2 := by
  refine ⟨h.1, ?_⟩
  induction hv generalizing k with
  | nil => exact absurd h.1 (by simp)
  | cons p t ih =>
    cases k with
    | zero =>
      obtain ⟨h1, h2, h3⟩ := h
      simp only [List.getElem_cons_zero] at h2 ⊢
      simp [mlook, h2]
    | succ k =>
      obtain ⟨h1, h2⟩ := first_cons h
      have := ih h2
      simp only [List.getElem_cons_succ]
      rw [← this]
      unfold mlook
      rw [List.find?_cons_of_neg (by simpa using fun q : who = p.1 => h1 q.symm)]
theorem mlook_set_at {hv : List (ByteArray × (Int × Int))} {k : Nat} {who : ByteArray} (h : FirstAt hv k who) (q : Int × Int) (x : ByteArray) : mlook (hv.set k (who, q)) x = if x = who then some q else mlook hv x := by
  induction hv generalizing k with
  | nil => exact absurd h.1 (by simp)
  | cons p t ih =>
    cases k with
    | zero =>
      obtain ⟨h1, h2, h3⟩ := h
      simp only [List.getElem_cons_zero] at h2
      subst h2
      simp only [List.set_cons_zero, mlook, List.find?_cons]
      by_cases hx : x = p.1 <;> simp [hx]
    | succ k =>
      obtain ⟨h1, h2⟩ := first_cons h
      have := ih h2
      unfold mlook at this ⊢
      simp only [List.set_cons_succ, List.find?_cons]
      by_cases hx : x = p.1
      · have : ¬ x = who := fun e => h1 (by rw [← hx, e])
        simp [hx]; intro e; exact absurd e h1
      · simp only [hx, decide_false]; exact this
theorem mlook_snoc {hv : List (ByteArray × (Int × Int))} {who : ByteArray} (h : ∀ p ∈ hv, p.1 ≠ who) (q : Int × Int) (x : ByteArray) : mlook (hv ++ [(who, q)]) x = if x = who then some q else mlook hv x := by
  induction hv with
  | nil => unfold mlook; by_cases hx : x = who <;> simp [hx]
  | cons p t ih =>
    have := ih (fun r hr => h r (by simp [hr]))
    unfold mlook at this ⊢
    simp only [List.cons_append, List.find?_cons]
    by_cases hx : x = p.1
    · have h1 := h p (by simp)
      simp [hx]; intro e; exact absurd e h1
    · simp only [hx, decide_false]; exact this
theorem first_snoc {hv : List (ByteArray × (Int × Int))} {who : ByteArray} (h : ∀ p ∈ hv, p.1 ≠ who) (q : Int × Int) : FirstAt (hv ++ [(who, q)]) hv.length who :=
  ⟨by simp, by simp, fun p hp => by simp at hp; exact h p hp⟩

/-- What 'at' answers. -/
def AtPost (hv : List (ByteArray × (Int × Int))) (who : ByteArray) (e : Ending) : Prop :=
  (∃ k : Nat, e = .returned (.int .i64 k) ∧ FirstAt hv k who) ∨ (e = .returned (.int .i64 (-1)) ∧ ∀ p ∈ hv, p.1 ≠ who)

set_option maxRecDepth 100000 in
theorem atR_any (w : World) (base : Nat) (v : Value) (hv : List (ByteArray × (Int × Int))) (who : ByteArray) (h : SOwn w base v hv) (hl : hv.length ≤ 9223372036854775807) :
    Calls Try.prog 24 #[v, .string who] w fun e w' => AtPost hv who e ∧ w = w' := by
  obtain ⟨a, c, rfl, hr⟩ := h.read
  go_enter Try.func24, Try.ntmps24
  go_wp2_with fail
  go_loop [5] (fun i => ∃ j : Nat, j ≤ hv.length ∧ i = .int .i64 j ∧ Hid (∀ p ∈ hv.take j, p.1 ≠ who)) (fun i => hv.length - (intOf i).toNat)
  case atStart => exact ⟨0, Nat.zero_le _, rfl, by simp [Hid]⟩
  case round =>
    obtain ⟨j, hj, rfl, Hn⟩ := hrel
    by_cases hjt : j < hv.length
    · obtain ⟨g, rfl, hb, k0, -, -, -⟩ := hr j hjt
      have hq := str_eq hv[j].1 who
      have HT : Hid (hv.take (j + 1) = hv.take j ++ [hv[j]]) := List.take_succ_eq_append_getElem hjt
      by_cases he : hv[j].1 = who
      · have HP : Hid (AtPost hv who (.returned (.int .i64 j))) := .inl ⟨j, rfl, hjt, he, Hn.out⟩
        rw [decide_eq_true he] at hq
        generalize hv[j].1 = s at k0 hq
        clear he HT
        go_wp2_with fail
        go_ret
        exact ⟨HP.out, rfl⟩
      · have HN : Hid (∀ p ∈ hv.take (j + 1), p.1 ≠ who) := by
          intro p hp
          rw [HT.out, List.mem_append] at hp
          rcases hp with hp | hp
          · exact Hn.out p hp
          · rw [List.mem_singleton.1 hp]; exact he
        rw [decide_eq_false he] at hq
        generalize hv[j].1 = s at k0 hq
        clear he HT
        go_wp2_with fail
        go_round
        case rel => exact ⟨j + 1, by omega, by go_num, HN⟩
        case measure => simp [intOf]; omega
    · have HP : Hid (AtPost hv who (.returned (.int .i64 (-1)))) := .inr ⟨rfl, by have := Hn.out; rw [List.take_of_length_le (by omega)] at this; exact this⟩
      go_wp2_with fail
      go_ret
      exact ⟨HP.out, rfl⟩

theorem Lim.grown {w w' : World} {b r : Nat} {each most : Int} {l : List (ByteArray × (Int × Int))} (h : Lim w b r each most l) {o : Option Nat} (e : w.grownBy w' o) (hb : some b ≠ o) (hr : some r ≠ o) : Lim w' b r each most l := by
  obtain ⟨h1, h2, h3, h4, h5⟩ := h
  have hbl := (Array.getElem?_eq_some_iff.1 h1).1
  exact ⟨by rw [e.block b hbl hb]; exact h1, h2.keep (e.block r h2.lt hr), h3, h4, h5⟩
theorem Lim.lt {w : World} {b r : Nat} {each most : Int} {l : List (ByteArray × (Int × Int))} (h : Lim w b r each most l) : b < w.heap.size ∧ r < w.heap.size :=
  ⟨(Array.getElem?_eq_some_iff.1 h.1).1, h.2.1.lt⟩

/-- What holds between the rounds. -/
structure PlayInv (w0 w : World) (b r : Nat) (each most : Int) (v : Value) (lst hv : List (ByteArray × (Int × Int))) : Prop where
  ext : Ext w0 w
  lim : Lim w b r each most lst
  own : SOwn w w0.heap.size v hv
  nb : v.ownBlock ≠ some b
  nr : v.ownBlock ≠ some r
  same : ∀ x, shF hv most x = shF lst most x
  br : w0.heap.size ≤ b ∧ w0.heap.size ≤ r

theorem PlayInv.later {w0 w w' : World} {b r : Nat} {each most : Int} {v : Value} {lst hv : List (ByteArray × (Int × Int))} (I : PlayInv w0 w b r each most v lst hv) (e : Ext w w') : PlayInv w0 w' b r each most v lst hv :=
  ⟨I.ext.trans e, I.lim.ext e, World.ownsRow.kept I.own (row := none) (e.grown _) (by cases v.ownBlock <;> simp), I.nb, I.nr, I.same, I.br⟩

theorem mlook_none' {hv : List (ByteArray × (Int × Int))} {who : ByteArray} (h : ∀ p ∈ hv, p.1 ≠ who) : mlook hv who = none := by
  rw [mlook_none]
  intro hm
  obtain ⟨p, hp, he⟩ := List.mem_map.1 hm
  exact h p hp he

/-- Behind the append of somebody's share. -/
theorem PlayInv.grow {w0 w w' : World} {b r : Nat} {each most : Int} {v v' : Value} {lst hv : List (ByteArray × (Int × Int))} (I : PlayInv w0 w b r each most v lst hv) (hG : Grow w w' v v') (who : ByteArray)
    (hO : SOwn w' w0.heap.size v' (hv ++ [(who, (most, 0))])) (hN : ∀ p ∈ hv, p.1 ≠ who) : PlayInv w0 w' b r each most v' lst (hv ++ [(who, (most, 0))]) := by
  have hlt := I.lim.lt
  refine ⟨hG.ext I.ext I.own, I.lim.grown hG.grown (fun h => I.nb h.symm) (fun h => I.nr h.symm), hO, ?_, ?_, fun x => ?_, I.br⟩
  · rcases hG.own with h | ⟨g, h, hg⟩
    · rw [h]; exact I.nb
    · rw [h]; simp; omega
  · rcases hG.own with h | ⟨g, h, hg⟩
    · rw [h]; exact I.nr
    · rw [h]; simp; omega
  · rw [← I.same x]
    unfold shF
    rw [mlook_snoc hN]
    split
    · rename_i h; subst h; rw [mlook_none' hN]; rfl
    · rfl

/-- Behind a take: the map is another one. -/
theorem PlayInv.taken {w0 w w' : World} {b r : Nat} {each most : Int} {v : Value} {lst hv : List (ByteArray × (Int × Int))} (I : PlayInv w0 w b r each most v lst hv) (hG : w.grownBy w' (some r)) :
    SOwn w' w0.heap.size v hv ∧ Ext w0 w' :=
  ⟨World.ownsRow.kept I.own hG (.inr I.nr), grown_below I.ext hG I.br.2⟩

/-- Behind a store of somebody's share into the law's own list. -/
theorem PlayInv.put {w0 w w' : World} {b r g n c k : Nat} {each most : Int} {lst hv : List (ByteArray × (Int × Int))} {who : ByteArray} {p : Int × Int} (E : Ext w0 w) (L : Lim w b r each most (mset lst who p))
    (hs : ∀ x, shF hv most x = shF lst most x) (hb : (Value.slice (some ⟨g, 0, none⟩) n c).ownBlock ≠ some b) (hr : (Value.slice (some ⟨g, 0, none⟩) n c).ownBlock ≠ some r) (hbr : w0.heap.size ≤ b ∧ w0.heap.size ≤ r)
    (hg : w0.heap.size ≤ g) (hF : FirstAt hv k who) (O : SOwn w' w0.heap.size (.slice (some ⟨g, 0, none⟩) n c) (hv.set k (who, p))) (G : w.grownBy w' (some g)) :
    PlayInv w0 w' b r each most (.slice (some ⟨g, 0, none⟩) n c) (mset lst who p) (hv.set k (who, p)) := by
  refine ⟨grown_below E G hg, L.grown G (fun h => hb h.symm) (fun h => hr h.symm), O, hb, hr, fun x => ?_, hbr⟩
  have := hs x
  unfold shF at this ⊢
  rw [mlook_set_at hF, mlook_set]
  split
  · rfl
  · exact this

theorem lf_min {each most n gap : Int} (h1 : 1 ≤ each) (hn : 0 ≤ n) : lfF each most n gap = min most (n + gap * each) := by
  unfold lfF
  split
  · rename_i hg
    have h2 : most < (most / each + 1) * each := Int.lt_ediv_add_one_mul_self most (by omega)
    have h3 := Int.mul_le_mul_of_nonneg_right (show most / each + 1 ≤ gap by omega) (show 0 ≤ each by omega)
    omega
  · rfl

/-- The ways of a deed: what the two tests on time say, and what there would be. -/
theorem play_cases {w : World} {b r : Nat} {each most : Int} {lst : List (ByteArray × (Int × Int))} (hL : Lim w b r each most lst) (who : ByteArray) (now n a : Int) (hs : shF lst most who = (n, a)) :
    (decide (a ≤ now) = false ∧ atF each most lst who now = ((0, 0), false)) ∨
    (decide (a ≤ now) = true ∧ decide (0 ≤ now) = true ∧ decide (now ≤ 1099511627776) = false ∧ atF each most lst who now = ((0, 0), false)) ∨
    (decide (a ≤ now) = true ∧ decide (0 ≤ now) = true ∧ decide (now ≤ 1099511627776) = true ∧ decide (now - a ≤ 1073741824) = false ∧ atF each most lst who now = ((most, now), true)) ∨
    (decide (a ≤ now) = true ∧ decide (0 ≤ now) = true ∧ decide (now ≤ 1099511627776) = true ∧ decide (now - a ≤ 1073741824) = true ∧ n + (now - a) * each < most ∧ 0 ≤ (now - a) * each ∧ atF each most lst who now = ((n + (now - a) * each, now), true)) ∨
    (decide (a ≤ now) = true ∧ decide (0 ≤ now) = true ∧ decide (now ≤ 1099511627776) = true ∧ decide (now - a ≤ 1073741824) = true ∧ most ≤ n + (now - a) * each ∧ n + (now - a) * each ≤ 1125900980584448 + 1073741824 ∧ 0 ≤ (now - a) * each ∧ atF each most lst who now = ((most, now), true)) := by
  have hbd := shF_bd hL who
  obtain ⟨q1, q2, q3, q4⟩ := hL.2.2.2.1
  unfold atF
  rw [hs] at hbd ⊢
  simp only at hbd ⊢
  simp only [decide_eq_true_eq, decide_eq_false_iff_not]
  by_cases h1 : a ≤ now
  · by_cases h2 : now ≤ 1099511627776
    · rw [if_pos ⟨by omega, h2, h1⟩, lf_min q1 hbd.1]
      have p0 : 0 ≤ (now - a) * each := Int.mul_nonneg (by omega) (by omega)
      by_cases h3 : now - a ≤ 1073741824
      · have p1 : (now - a) * each ≤ 1073741824 * each := Int.mul_le_mul_of_nonneg_right h3 (by omega)
        by_cases h4 : n + (now - a) * each < most
        · exact .inr (.inr (.inr (.inl ⟨h1, by omega, h2, h3, h4, p0, by rw [Int.min_eq_right (by omega)]⟩)))
        · exact .inr (.inr (.inr (.inr ⟨h1, by omega, h2, h3, by omega, by omega, p0, by rw [Int.min_eq_left (by omega)]⟩)))
      · have p1 : (now - a) * 1 ≤ (now - a) * each := Int.mul_le_mul_of_nonneg_left q1 (by omega)
        exact .inr (.inr (.inl ⟨h1, by omega, h2, h3, by rw [Int.min_eq_left (by omega)]⟩))
    · exact .inr (.inl ⟨h1, by omega, h2, by rw [if_neg (fun h => h2 h.2.1)]⟩)
  · exact .inl ⟨h1, by rw [if_neg (fun h => h1 h.2.2)]⟩

abbrev eDeed : Enc (ByteArray × (Int × (Int × Unit))) := eCat eStr (eCat (eInt .i64) (eCat (eInt .i64) eEnd))

theorem info_share : (Try.prog.info? 39).map (fun i => (i.zero, i.size, i.bytes)) = some (some (.agg #[.string ByteArray.empty, .int .i64 0, .int .i64 0]), 3, 32) := by kernel_rfl

set_option maxRecDepth 100000 in
set_option maxHeartbeats 20000000 in
theorem play_ok (each most : Int) (a : Option Addr) (n c : Nat) (l : List (ByteArray × (Int × (Int × Unit)))) (w : World) (h : 1 ≤ each ∧ each ≤ 1048576 ∧ 1 ≤ most ∧ most ≤ 1073741824) (hl : Sl eDeed w (fun _ => True) a l) (hn : l.length = n) (h40 : n ≤ 40) :
    Calls Try.prog 5 #[.int .i64 each, .int .i64 most, .slice a n c] w fun e w' => e = .returned (.bool true) ∧ Ext w w' := by
  have hc : decide (each < 1) = false ∧ decide (1048576 < each) = false ∧ decide (most < 1) = false ∧ decide (1073741824 < most) = false := by
    simp only [decide_eq_false_iff_not]; omega
  obtain ⟨d1, d2, d3, d4⟩ := hc
  obtain ⟨q1, q2, q3, q4⟩ := h
  have d0 : decide ((40 : Int) < (n : Int)) = false := by simp; omega
  obtain ⟨i0, hi, hz0, hz1, hz2⟩ := info_parts info_share
  go_enter Try.func5, Try.ntmps5
  go_wp2_with fail
  refine (new_ok each most _ ⟨q1, q2, q3, q4⟩).mono ?_; rintro e w1 ⟨b, r, rfl, E1, hL, hb, hr⟩
  go_wp2_with fail
  go_loopw [9, 10] (fun v i wr => ∃ (j : Nat) (lst hv : List (ByteArray × (Int × Int))), j ≤ n ∧ i = .int .i64 j ∧ hv.length ≤ j ∧ PlayInv w wr b r each most v lst hv) (fun _ i _ => n - (intOf i).toNat)
  case atStart => exact ⟨0, [], [], by omega, rfl, by simp, ⟨E1, hL, World.ownsRow_nil _ _ _ _, by simp [Value.ownBlock], by simp [Value.ownBlock], fun _ => rfl, hb, hr⟩⟩
  case round =>
    obtain ⟨j, lst, hv, hj, rfl, hvj, I⟩ := hrel
    by_cases hlt : j < n
    · obtain ⟨bb, off, cs, rfl, -, ⟨c1, c2, rfl, ⟨rfl, hs1⟩, ⟨c3, c4, rfl, ⟨rfl, wf1⟩, ⟨c5, c6, rfl, ⟨rfl, wf2⟩, rfl⟩⟩⟩, hcell⟩ := hl.2 j (by omega)
      have k0 : w.cell? ⟨bb, off + j * 3, none⟩ = some (.string l[j].1) := hcell 0 (by decide)
      have k1 : w.cell? ⟨bb, off + j * 3 + 1, none⟩ = some (.int .i64 l[j].2.1) := hcell 1 (by decide)
      have k2 : w.cell? ⟨bb, off + j * 3 + 2, none⟩ = some (.int .i64 l[j].2.2.1) := hcell 2 (by decide)
      generalize l[j].1 = who at k0 hs1
      generalize l[j].2.1 = now at k1 wf1
      generalize l[j].2.2.1 = nn at k2 wf2
      have k0 := I.ext.cellE k0
      have k1 := I.ext.cellE k1
      have k2 := I.ext.cellE k2
      obtain ⟨x0, x1⟩ := bounds_i64 wf1
      obtain ⟨y0, y1⟩ := bounds_i64 wf2
      clear hcell wf1 wf2
      by_cases hw : (100 : Int) < (who.size : Int)
      · go_wp2_with fail
        go_roundw
        case rel => exact ⟨j + 1, lst, hv, by omega, by go_num, by omega, I.later ((Ext.refl _).al _)⟩
        case measure => simp [intOf]; omega
      · go_wp2_with fail
        have I0 := I
        have I := I.later ((Ext.refl _).al (.cells #[.string who, .int .i64 now, .int .i64 nn] 36))
        refine (atR_any _ w.heap.size _ hv who I.own (by omega)).mono ?_; rintro e w2' ⟨hp, rfl⟩
        have D0 := World.cell?_alloc_new wr #[.string who, .int .i64 now, .int .i64 nn] 36 0
        have D1 := World.cell?_alloc_new wr #[.string who, .int .i64 now, .int .i64 nn] 36 1
        have D2 := World.cell?_alloc_new wr #[.string who, .int .i64 now, .int .i64 nn] 36 2
        have hDv : u9.ownBlock ≠ some wr.heap.size := fun hh => by have := (World.ownsRow.lt I0.own _ hh).2; omega
        have hDr : r ≠ wr.heap.size := by have := I0.lim.lt; omega
        have DL : wr.heap.size < (wr.alloc (.cells #[.string who, .int .i64 now, .int .i64 nn] 36)).heap.size := by simp
        generalize wr.alloc (.cells #[.string who, .int .i64 now, .int .i64 nn] 36) = W at *
        clear I0
        generalize wr.heap.size = D at *
        replace D0 : W.cell? ⟨D, 0, none⟩ = some (.string who) := D0
        replace D1 : W.cell? ⟨D, 1, none⟩ = some (.int .i64 now) := D1
        replace D2 : W.cell? ⟨D, 2, none⟩ = some (.int .i64 nn) := D2
        rcases hp with ⟨k, rfl, hF⟩ | ⟨rfl, hN⟩
        rotate_left
        · go_wp2_with (at_builtin; refine wp_own_append _ rfl _ _ 34 rfl w.heap.size 39 i0 (.agg #[.string ByteArray.empty, .int .i64 0, .int .i64 0]) 3 32 Try.underlying34 hi hz0 hz1 hz2 rfl (by decide) _ _ _ rfl (World.ownsRow.alloc I.own _) ⟨W.heap.size, 0, none⟩ 1 1 [.string who, .int .i64 most, .int .i64 0] rfl rfl ?c1 ?c2 ?c3 ?c4 ?c5 ?_)
          case c1 => exact cells_new1 W #[.string who, .int .i64 most, .int .i64 0] _
          case c2 => simp [Value.oneCell']
          case c3 => simp only [maxLen]; omega
          case c4 => omega
          case c5 => have := I.ext.size; simp only [World.size_alloc]; omega
          intro v2 w3 hO hG
          have I3 := (I.later ((Ext.refl _).al _)).grow hG who (by simpa [SOwn, sc] using hO) hN
          have D0 := hG.grown.cell (((Ext.refl W).al _).cellE D0) (fun h => hDv h.symm)
          have D1 := hG.grown.cell (((Ext.refl W).al _).cellE D1) (fun h => hDv h.symm)
          have D2 := hG.grown.cell (((Ext.refl W).al _).cellE D2) (fun h => hDv h.symm)
          have hF := first_snoc hN (most, 0)
          have DL : D < w3.heap.size := Nat.lt_of_lt_of_le DL (Nat.le_trans (by simp) hG.grown.size)
          have hDv : v2.ownBlock ≠ some D := by
            rcases hG.own with h | ⟨g, h, hg⟩
            · rw [h]; exact hDv
            · rw [h]; simp at hg ⊢; omega
          clear hO hG I hN
          have hxl : (hv ++ [(who, (most, 0))]).length ≤ j + 1 := by simp; omega
          have hlen : (hv ++ [(who, ((most, 0) : Int × Int))]).length = hv.length + 1 := by simp
          obtain ⟨a2, cp, hve, hrd⟩ := I3.own.read
          rw [hlen] at hve
          obtain ⟨g, rfl, hg, e0, e1, e2, hfz⟩ := hrd hv.length hF.1
          subst hve
          generalize hv ++ [(who, ((most, 0) : Int × Int))] = hx at *
          generalize hv.length = kk at *
          clear hrd hlen
          have I := I3
          clear I3
          obtain ⟨hk, hlk⟩ := mlook_first hF
          have hsh : shF lst most who = hx[kk].2 := by rw [← I.same]; unfold shF; rw [hlk]; rfl
          have hbd := shF_bd I.lim who
          rw [hsh] at hbd
          have hpc := play_cases I.lim who now hx[kk].2.1 hx[kk].2.2 hsh
          rw [hF.2.1] at e0
          have hgl : g < w3.heap.size := World.block_lt_of_cell? _ _ e0
          have hgD : g ≠ D := fun hh => hDv (by simp [Value.ownBlock, hh])
          have hgr : g ≠ r := fun hh => I.nr (by simp [Value.ownBlock, hh])
          clear hsh hlk
          generalize hx[kk].2.1 = s1 at *
          generalize hx[kk].2.2 = a1 at *
          have HF := Lib.hid hF
          have HFZ := Lib.hid hfz
          have hleft := fun W' (I' : Lim W' b r each most lst) => left_any b r each most lst who now W' I'
          have htake := fun W' (I' : Lim W' b r each most lst) => take_any b r each most lst who now nn W' I' ⟨y0, y1⟩
          clear hF hfz hDv
          obtain ⟨b1, b2, b3, b4⟩ := hbd
          rcases hpc with ⟨t1, hat⟩ | ⟨t1, t2, t3, hat⟩ | ⟨t1, t2, t3, t4, hat⟩ | ⟨t1, t2, t3, t4, m1, p0, hat⟩ | ⟨t1, t2, t3, t4, m1, m2, p0, hat⟩
          ·
            have ht : takeF each most lst who now nn = (false, lst) := by unfold takeF; rw [hat]; simp
            simp only [hat] at hleft
            simp only [ht] at htake
            have HL := Lib.hid hleft
            have HT := Lib.hid htake
            clear hleft htake hat ht
            go_wp2_with fail
            refine (HL.out _ (I.lim.ext ((Ext.refl _).al _))).mono ?_; rintro e w4 ⟨rfl, E4⟩
            have E34 := ((Ext.refl _).al _).trans E4
            have I4 := I.later E34
            have F0 := E34.cellE D0
            have F1 := E34.cellE D1
            have F2 := E34.cellE D2
            clear D0 D1 D2 e0 e1 e2 k0 k1 k2
            go_wp2_with fail
            refine (HT.out _ I4.lim).mono ?_; rintro e w5 ⟨rfl, G5, L5⟩
            obtain ⟨O5, E5⟩ := I4.taken G5
            have F0 := G5.cell F0 (by simp; exact fun h => hDr h.symm)
            have F1 := G5.cell F1 (by simp; exact fun h => hDr h.symm)
            have F2 := G5.cell F2 (by simp; exact fun h => hDr h.symm)
            go_wp2_with fail
            go_roundw
            case rel => exact ⟨j + 1, lst, hx, by omega, by go_num, hxl, ⟨E5, L5, O5, I4.nb, I4.nr, I4.same, I4.br⟩⟩
            case measure => simp [intOf]; omega
          ·
            have ht : takeF each most lst who now nn = (false, lst) := by unfold takeF; rw [hat]; simp
            simp only [hat] at hleft
            simp only [ht] at htake
            have HL := Lib.hid hleft
            have HT := Lib.hid htake
            clear hleft htake hat ht
            go_wp2_with fail
            refine (HL.out _ (I.lim.ext ((Ext.refl _).al _))).mono ?_; rintro e w4 ⟨rfl, E4⟩
            have E34 := ((Ext.refl _).al _).trans E4
            have I4 := I.later E34
            have F0 := E34.cellE D0
            have F1 := E34.cellE D1
            have F2 := E34.cellE D2
            clear D0 D1 D2 e0 e1 e2 k0 k1 k2
            go_wp2_with fail
            refine (HT.out _ I4.lim).mono ?_; rintro e w5 ⟨rfl, G5, L5⟩
            obtain ⟨O5, E5⟩ := I4.taken G5
            have F0 := G5.cell F0 (by simp; exact fun h => hDr h.symm)
            have F1 := G5.cell F1 (by simp; exact fun h => hDr h.symm)
            have F2 := G5.cell F2 (by simp; exact fun h => hDr h.symm)
            go_wp2_with fail
            go_roundw
            case rel => exact ⟨j + 1, lst, hx, by omega, by go_num, hxl, ⟨E5, L5, O5, I4.nb, I4.nr, I4.same, I4.br⟩⟩
            case measure => simp [intOf]; omega
          · have g1 := of_decide_eq_true t1
            have g2 := of_decide_eq_true t2
            have g3 := of_decide_eq_true t3
            have hself : (most != most) = false := by simp
            by_cases n1 : 1 ≤ nn
            rotate_left
            · have n1b : decide (1 ≤ nn) = false := by simpa using n1
              have ht : takeF each most lst who now nn = (false, lst) := by unfold takeF; rw [hat]; simp [n1]
              simp only [hat] at hleft
              simp only [ht] at htake
              have HL := Lib.hid hleft
              have HT := Lib.hid htake
              clear hleft htake hat ht
              go_wp2_with fail
              refine (HL.out _ (I.lim.ext ((Ext.refl _).al _))).mono ?_; rintro e w4 ⟨rfl, E4⟩
              have E34 := ((Ext.refl _).al _).trans E4
              have I4 := I.later E34
              have F0 := E34.cellE D0
              have F1 := E34.cellE D1
              have F2 := E34.cellE D2
              clear D0 D1 D2 e0 e1 e2 k0 k1 k2
              go_wp2_with fail
              refine (HT.out _ I4.lim).mono ?_; rintro e w5 ⟨rfl, G5, L5⟩
              obtain ⟨O5, E5⟩ := I4.taken G5
              have F0 := G5.cell F0 (by simp; exact fun h => hDr h.symm)
              have F1 := G5.cell F1 (by simp; exact fun h => hDr h.symm)
              have F2 := G5.cell F2 (by simp; exact fun h => hDr h.symm)
              go_wp2_with fail
              go_roundw
              case rel => exact ⟨j + 1, lst, hx, by omega, by go_num, hxl, ⟨E5, L5, O5, I4.nb, I4.nr, I4.same, I4.br⟩⟩
              case measure => simp [intOf]; omega
            by_cases n2 : nn ≤ most
            · have n2b : decide (nn ≤ most) = true := by simpa using n2
              have ht : takeF each most lst who now nn = (true, mset lst who (most - nn, now)) := by unfold takeF; rw [hat]; simp [n1, n2]
              simp only [hat] at hleft
              simp only [ht] at htake
              have HL := Lib.hid hleft
              have HT := Lib.hid htake
              clear hleft htake hat ht
              go_wp2_with fail
              refine (HL.out _ (I.lim.ext ((Ext.refl _).al _))).mono ?_; rintro e w4 ⟨rfl, E4⟩
              have E34 := ((Ext.refl _).al _).trans E4
              have I4 := I.later E34
              have F0 := E34.cellE D0
              have F1 := E34.cellE D1
              have F2 := E34.cellE D2
              clear D0 D1 D2 e0 e1 e2 k0 k1 k2
              go_wp2_with fail
              refine (HT.out _ I4.lim).mono ?_; rintro e w5 ⟨rfl, G5, L5⟩
              obtain ⟨O5, E5⟩ := I4.taken G5
              have F0 := G5.cell F0 (by simp; exact fun h => hDr h.symm)
              have F1 := G5.cell F1 (by simp; exact fun h => hDr h.symm)
              have F2 := G5.cell F2 (by simp; exact fun h => hDr h.symm)
              obtain ⟨u0, u1, u2, ufz, un⟩ := SOwn.at O5 HF.out.1
              have z0 := ufz (kk * 3)
              have z1 := ufz (kk * 3 + 1)
              have z2 := ufz (kk * 3 + 2)
              clear ufz un
              generalize hx[kk].1 = q0 at u0
              generalize hx[kk].2.1 = q1' at u1
              generalize hx[kk].2.2 = q2' at u2
              have O6 := SOwn.put O5 hk (who, (most, now))
              have O7 := SOwn.put1 O6.1 (k := kk) (by rw [List.length_set]; exact hk) who (most) (most - nn) now (by simp)
              rw [List.set_set] at O7
              go_wp2_with fail
              go_roundw
              case rel => exact ⟨j + 1, mset lst who (most - nn, now), hx.set kk (who, (most - nn, now)), by omega, by go_num, by rw [List.length_set]; exact hxl, PlayInv.put E5 L5 I4.same I4.nb I4.nr I4.br hg HF.out O7.1 (grown_trans O6.2 O7.2)⟩
              case measure => simp [intOf]; omega
            · have n2b : decide (nn ≤ most) = false := by simpa using n2
              have ht : takeF each most lst who now nn = (false, mset lst who (most, now)) := by unfold takeF; rw [hat]; simp [n1, n2]
              simp only [hat] at hleft
              simp only [ht] at htake
              have HL := Lib.hid hleft
              have HT := Lib.hid htake
              clear hleft htake hat ht
              go_wp2_with fail
              refine (HL.out _ (I.lim.ext ((Ext.refl _).al _))).mono ?_; rintro e w4 ⟨rfl, E4⟩
              have E34 := ((Ext.refl _).al _).trans E4
              have I4 := I.later E34
              have F0 := E34.cellE D0
              have F1 := E34.cellE D1
              have F2 := E34.cellE D2
              clear D0 D1 D2 e0 e1 e2 k0 k1 k2
              go_wp2_with fail
              refine (HT.out _ I4.lim).mono ?_; rintro e w5 ⟨rfl, G5, L5⟩
              obtain ⟨O5, E5⟩ := I4.taken G5
              have F0 := G5.cell F0 (by simp; exact fun h => hDr h.symm)
              have F1 := G5.cell F1 (by simp; exact fun h => hDr h.symm)
              have F2 := G5.cell F2 (by simp; exact fun h => hDr h.symm)
              obtain ⟨u0, u1, u2, ufz, un⟩ := SOwn.at O5 HF.out.1
              have z0 := ufz (kk * 3)
              have z1 := ufz (kk * 3 + 1)
              have z2 := ufz (kk * 3 + 2)
              clear ufz un
              generalize hx[kk].1 = q0 at u0
              generalize hx[kk].2.1 = q1' at u1
              generalize hx[kk].2.2 = q2' at u2
              have O6 := SOwn.put O5 hk (who, (most, now))
              go_wp2_with fail
              go_roundw
              case rel => exact ⟨j + 1, mset lst who (most, now), hx.set kk (who, (most, now)), by omega, by go_num, by rw [List.length_set]; exact hxl, PlayInv.put E5 L5 I4.same I4.nb I4.nr I4.br hg HF.out O6.1 O6.2⟩
              case measure => simp [intOf]; omega
          · have g1 := of_decide_eq_true t1
            have g2 := of_decide_eq_true t2
            have g3 := of_decide_eq_true t3
            have hself : (s1 + (now - a1) * each != s1 + (now - a1) * each) = false := by simp
            by_cases n1 : 1 ≤ nn
            rotate_left
            · have n1b : decide (1 ≤ nn) = false := by simpa using n1
              have ht : takeF each most lst who now nn = (false, lst) := by unfold takeF; rw [hat]; simp [n1]
              simp only [hat] at hleft
              simp only [ht] at htake
              have HL := Lib.hid hleft
              have HT := Lib.hid htake
              clear hleft htake hat ht
              go_wp2_with fail
              refine (HL.out _ (I.lim.ext ((Ext.refl _).al _))).mono ?_; rintro e w4 ⟨rfl, E4⟩
              have E34 := ((Ext.refl _).al _).trans E4
              have I4 := I.later E34
              have F0 := E34.cellE D0
              have F1 := E34.cellE D1
              have F2 := E34.cellE D2
              clear D0 D1 D2 e0 e1 e2 k0 k1 k2
              go_wp2_with fail
              refine (HT.out _ I4.lim).mono ?_; rintro e w5 ⟨rfl, G5, L5⟩
              obtain ⟨O5, E5⟩ := I4.taken G5
              have F0 := G5.cell F0 (by simp; exact fun h => hDr h.symm)
              have F1 := G5.cell F1 (by simp; exact fun h => hDr h.symm)
              have F2 := G5.cell F2 (by simp; exact fun h => hDr h.symm)
              go_wp2_with fail
              go_roundw
              case rel => exact ⟨j + 1, lst, hx, by omega, by go_num, hxl, ⟨E5, L5, O5, I4.nb, I4.nr, I4.same, I4.br⟩⟩
              case measure => simp [intOf]; omega
            by_cases n2 : nn ≤ s1 + (now - a1) * each
            · have n2b : decide (nn ≤ s1 + (now - a1) * each) = true := by simpa using n2
              have ht : takeF each most lst who now nn = (true, mset lst who (s1 + (now - a1) * each - nn, now)) := by unfold takeF; rw [hat]; simp [n1, n2]
              simp only [hat] at hleft
              simp only [ht] at htake
              have HL := Lib.hid hleft
              have HT := Lib.hid htake
              clear hleft htake hat ht
              go_wp2_with fail
              refine (HL.out _ (I.lim.ext ((Ext.refl _).al _))).mono ?_; rintro e w4 ⟨rfl, E4⟩
              have E34 := ((Ext.refl _).al _).trans E4
              have I4 := I.later E34
              have F0 := E34.cellE D0
              have F1 := E34.cellE D1
              have F2 := E34.cellE D2
              clear D0 D1 D2 e0 e1 e2 k0 k1 k2
              go_wp2_with fail
              refine (HT.out _ I4.lim).mono ?_; rintro e w5 ⟨rfl, G5, L5⟩
              obtain ⟨O5, E5⟩ := I4.taken G5
              have F0 := G5.cell F0 (by simp; exact fun h => hDr h.symm)
              have F1 := G5.cell F1 (by simp; exact fun h => hDr h.symm)
              have F2 := G5.cell F2 (by simp; exact fun h => hDr h.symm)
              obtain ⟨u0, u1, u2, ufz, un⟩ := SOwn.at O5 HF.out.1
              have z0 := ufz (kk * 3)
              have z1 := ufz (kk * 3 + 1)
              have z2 := ufz (kk * 3 + 2)
              clear ufz un
              generalize hx[kk].1 = q0 at u0
              generalize hx[kk].2.1 = q1' at u1
              generalize hx[kk].2.2 = q2' at u2
              have O6 := SOwn.put O5 hk (who, (s1 + (now - a1) * each, now))
              have O7 := SOwn.put1 O6.1 (k := kk) (by rw [List.length_set]; exact hk) who (s1 + (now - a1) * each) (s1 + (now - a1) * each - nn) now (by simp)
              rw [List.set_set] at O7
              go_wp2_with fail
              go_roundw
              case rel => exact ⟨j + 1, mset lst who (s1 + (now - a1) * each - nn, now), hx.set kk (who, (s1 + (now - a1) * each - nn, now)), by omega, by go_num, by rw [List.length_set]; exact hxl, PlayInv.put E5 L5 I4.same I4.nb I4.nr I4.br hg HF.out O7.1 (grown_trans O6.2 O7.2)⟩
              case measure => simp [intOf]; omega
            · have n2b : decide (nn ≤ s1 + (now - a1) * each) = false := by simpa using n2
              have ht : takeF each most lst who now nn = (false, mset lst who (s1 + (now - a1) * each, now)) := by unfold takeF; rw [hat]; simp [n1, n2]
              simp only [hat] at hleft
              simp only [ht] at htake
              have HL := Lib.hid hleft
              have HT := Lib.hid htake
              clear hleft htake hat ht
              go_wp2_with fail
              refine (HL.out _ (I.lim.ext ((Ext.refl _).al _))).mono ?_; rintro e w4 ⟨rfl, E4⟩
              have E34 := ((Ext.refl _).al _).trans E4
              have I4 := I.later E34
              have F0 := E34.cellE D0
              have F1 := E34.cellE D1
              have F2 := E34.cellE D2
              clear D0 D1 D2 e0 e1 e2 k0 k1 k2
              go_wp2_with fail
              refine (HT.out _ I4.lim).mono ?_; rintro e w5 ⟨rfl, G5, L5⟩
              obtain ⟨O5, E5⟩ := I4.taken G5
              have F0 := G5.cell F0 (by simp; exact fun h => hDr h.symm)
              have F1 := G5.cell F1 (by simp; exact fun h => hDr h.symm)
              have F2 := G5.cell F2 (by simp; exact fun h => hDr h.symm)
              obtain ⟨u0, u1, u2, ufz, un⟩ := SOwn.at O5 HF.out.1
              have z0 := ufz (kk * 3)
              have z1 := ufz (kk * 3 + 1)
              have z2 := ufz (kk * 3 + 2)
              clear ufz un
              generalize hx[kk].1 = q0 at u0
              generalize hx[kk].2.1 = q1' at u1
              generalize hx[kk].2.2 = q2' at u2
              have O6 := SOwn.put O5 hk (who, (s1 + (now - a1) * each, now))
              go_wp2_with fail
              go_roundw
              case rel => exact ⟨j + 1, mset lst who (s1 + (now - a1) * each, now), hx.set kk (who, (s1 + (now - a1) * each, now)), by omega, by go_num, by rw [List.length_set]; exact hxl, PlayInv.put E5 L5 I4.same I4.nb I4.nr I4.br hg HF.out O6.1 O6.2⟩
              case measure => simp [intOf]; omega
          · have g1 := of_decide_eq_true t1
            have g2 := of_decide_eq_true t2
            have g3 := of_decide_eq_true t3
            have hself : (most != most) = false := by simp
            by_cases n1 : 1 ≤ nn
            rotate_left
            · have n1b : decide (1 ≤ nn) = false := by simpa using n1
              have ht : takeF each most lst who now nn = (false, lst) := by unfold takeF; rw [hat]; simp [n1]
              simp only [hat] at hleft
              simp only [ht] at htake
              have HL := Lib.hid hleft
              have HT := Lib.hid htake
              clear hleft htake hat ht
              go_wp2_with fail
              refine (HL.out _ (I.lim.ext ((Ext.refl _).al _))).mono ?_; rintro e w4 ⟨rfl, E4⟩
              have E34 := ((Ext.refl _).al _).trans E4
              have I4 := I.later E34
              have F0 := E34.cellE D0
              have F1 := E34.cellE D1
              have F2 := E34.cellE D2
              clear D0 D1 D2 e0 e1 e2 k0 k1 k2
              go_wp2_with fail
              refine (HT.out _ I4.lim).mono ?_; rintro e w5 ⟨rfl, G5, L5⟩
              obtain ⟨O5, E5⟩ := I4.taken G5
              have F0 := G5.cell F0 (by simp; exact fun h => hDr h.symm)
              have F1 := G5.cell F1 (by simp; exact fun h => hDr h.symm)
              have F2 := G5.cell F2 (by simp; exact fun h => hDr h.symm)
              go_wp2_with fail
              go_roundw
              case rel => exact ⟨j + 1, lst, hx, by omega, by go_num, hxl, ⟨E5, L5, O5, I4.nb, I4.nr, I4.same, I4.br⟩⟩
              case measure => simp [intOf]; omega
            by_cases n2 : nn ≤ most
            · have n2b : decide (nn ≤ most) = true := by simpa using n2
              have ht : takeF each most lst who now nn = (true, mset lst who (most - nn, now)) := by unfold takeF; rw [hat]; simp [n1, n2]
              simp only [hat] at hleft
              simp only [ht] at htake
              have HL := Lib.hid hleft
              have HT := Lib.hid htake
              clear hleft htake hat ht
              go_wp2_with fail
              refine (HL.out _ (I.lim.ext ((Ext.refl _).al _))).mono ?_; rintro e w4 ⟨rfl, E4⟩
              have E34 := ((Ext.refl _).al _).trans E4
              have I4 := I.later E34
              have F0 := E34.cellE D0
              have F1 := E34.cellE D1
              have F2 := E34.cellE D2
              clear D0 D1 D2 e0 e1 e2 k0 k1 k2
              go_wp2_with fail
              refine (HT.out _ I4.lim).mono ?_; rintro e w5 ⟨rfl, G5, L5⟩
              obtain ⟨O5, E5⟩ := I4.taken G5
              have F0 := G5.cell F0 (by simp; exact fun h => hDr h.symm)
              have F1 := G5.cell F1 (by simp; exact fun h => hDr h.symm)
              have F2 := G5.cell F2 (by simp; exact fun h => hDr h.symm)
              obtain ⟨u0, u1, u2, ufz, un⟩ := SOwn.at O5 HF.out.1
              have z0 := ufz (kk * 3)
              have z1 := ufz (kk * 3 + 1)
              have z2 := ufz (kk * 3 + 2)
              clear ufz un
              generalize hx[kk].1 = q0 at u0
              generalize hx[kk].2.1 = q1' at u1
              generalize hx[kk].2.2 = q2' at u2
              have O6 := SOwn.put O5 hk (who, (most, now))
              have O7 := SOwn.put1 O6.1 (k := kk) (by rw [List.length_set]; exact hk) who (most) (most - nn) now (by simp)
              rw [List.set_set] at O7
              go_wp2_with fail
              go_roundw
              case rel => exact ⟨j + 1, mset lst who (most - nn, now), hx.set kk (who, (most - nn, now)), by omega, by go_num, by rw [List.length_set]; exact hxl, PlayInv.put E5 L5 I4.same I4.nb I4.nr I4.br hg HF.out O7.1 (grown_trans O6.2 O7.2)⟩
              case measure => simp [intOf]; omega
            · have n2b : decide (nn ≤ most) = false := by simpa using n2
              have ht : takeF each most lst who now nn = (false, mset lst who (most, now)) := by unfold takeF; rw [hat]; simp [n1, n2]
              simp only [hat] at hleft
              simp only [ht] at htake
              have HL := Lib.hid hleft
              have HT := Lib.hid htake
              clear hleft htake hat ht
              go_wp2_with fail
              refine (HL.out _ (I.lim.ext ((Ext.refl _).al _))).mono ?_; rintro e w4 ⟨rfl, E4⟩
              have E34 := ((Ext.refl _).al _).trans E4
              have I4 := I.later E34
              have F0 := E34.cellE D0
              have F1 := E34.cellE D1
              have F2 := E34.cellE D2
              clear D0 D1 D2 e0 e1 e2 k0 k1 k2
              go_wp2_with fail
              refine (HT.out _ I4.lim).mono ?_; rintro e w5 ⟨rfl, G5, L5⟩
              obtain ⟨O5, E5⟩ := I4.taken G5
              have F0 := G5.cell F0 (by simp; exact fun h => hDr h.symm)
              have F1 := G5.cell F1 (by simp; exact fun h => hDr h.symm)
              have F2 := G5.cell F2 (by simp; exact fun h => hDr h.symm)
              obtain ⟨u0, u1, u2, ufz, un⟩ := SOwn.at O5 HF.out.1
              have z0 := ufz (kk * 3)
              have z1 := ufz (kk * 3 + 1)
              have z2 := ufz (kk * 3 + 2)
              clear ufz un
              generalize hx[kk].1 = q0 at u0
              generalize hx[kk].2.1 = q1' at u1
              generalize hx[kk].2.2 = q2' at u2
              have O6 := SOwn.put O5 hk (who, (most, now))
              go_wp2_with fail
              go_roundw
              case rel => exact ⟨j + 1, mset lst who (most, now), hx.set kk (who, (most, now)), by omega, by go_num, by rw [List.length_set]; exact hxl, PlayInv.put E5 L5 I4.same I4.nb I4.nr I4.br hg HF.out O6.1 O6.2⟩
              case measure => simp [intOf]; omega
        · obtain ⟨a2, cp, hve, hrd⟩ := I.own.read
          obtain ⟨g, rfl, hg, e0, e1, e2, hfz⟩ := hrd k hF.1
          subst hve
          have hxl : hv.length ≤ j + 1 := by omega
          clear hrd
          obtain ⟨hx, rfl⟩ : ∃ hx, hx = hv := ⟨_, rfl⟩
          obtain ⟨kk, rfl⟩ : ∃ kk, kk = k := ⟨_, rfl⟩
          obtain ⟨w3, rfl⟩ : ∃ w3, w3 = W := ⟨_, rfl⟩
          obtain ⟨hk, hlk⟩ := mlook_first hF
          have hsh : shF lst most who = hx[kk].2 := by rw [← I.same]; unfold shF; rw [hlk]; rfl
          have hbd := shF_bd I.lim who
          rw [hsh] at hbd
          have hpc := play_cases I.lim who now hx[kk].2.1 hx[kk].2.2 hsh
          rw [hF.2.1] at e0
          have hgl : g < w3.heap.size := World.block_lt_of_cell? _ _ e0
          have hgD : g ≠ D := fun hh => hDv (by simp [Value.ownBlock, hh])
          have hgr : g ≠ r := fun hh => I.nr (by simp [Value.ownBlock, hh])
          clear hsh hlk
          generalize hx[kk].2.1 = s1 at *
          generalize hx[kk].2.2 = a1 at *
          have HF := Lib.hid hF
          have HFZ := Lib.hid hfz
          have hleft := fun W' (I' : Lim W' b r each most lst) => left_any b r each most lst who now W' I'
          have htake := fun W' (I' : Lim W' b r each most lst) => take_any b r each most lst who now nn W' I' ⟨y0, y1⟩
          clear hF hfz hDv
          obtain ⟨b1, b2, b3, b4⟩ := hbd
          rcases hpc with ⟨t1, hat⟩ | ⟨t1, t2, t3, hat⟩ | ⟨t1, t2, t3, t4, hat⟩ | ⟨t1, t2, t3, t4, m1, p0, hat⟩ | ⟨t1, t2, t3, t4, m1, m2, p0, hat⟩
          ·
            have ht : takeF each most lst who now nn = (false, lst) := by unfold takeF; rw [hat]; simp
            simp only [hat] at hleft
            simp only [ht] at htake
            have HL := Lib.hid hleft
            have HT := Lib.hid htake
            clear hleft htake hat ht
            go_wp2_with fail
            refine (HL.out _ (I.lim.ext ((Ext.refl _).al _))).mono ?_; rintro e w4 ⟨rfl, E4⟩
            have E34 := ((Ext.refl _).al _).trans E4
            have I4 := I.later E34
            have F0 := E34.cellE D0
            have F1 := E34.cellE D1
            have F2 := E34.cellE D2
            clear D0 D1 D2 e0 e1 e2 k0 k1 k2
            go_wp2_with fail
            refine (HT.out _ I4.lim).mono ?_; rintro e w5 ⟨rfl, G5, L5⟩
            obtain ⟨O5, E5⟩ := I4.taken G5
            have F0 := G5.cell F0 (by simp; exact fun h => hDr h.symm)
            have F1 := G5.cell F1 (by simp; exact fun h => hDr h.symm)
            have F2 := G5.cell F2 (by simp; exact fun h => hDr h.symm)
            go_wp2_with fail
            go_roundw
            case rel => exact ⟨j + 1, lst, hx, by omega, by go_num, hxl, ⟨E5, L5, O5, I4.nb, I4.nr, I4.same, I4.br⟩⟩
            case measure => simp [intOf]; omega
          ·
            have ht : takeF each most lst who now nn = (false, lst) := by unfold takeF; rw [hat]; simp
            simp only [hat] at hleft
            simp only [ht] at htake
            have HL := Lib.hid hleft
            have HT := Lib.hid htake
            clear hleft htake hat ht
            go_wp2_with fail
            refine (HL.out _ (I.lim.ext ((Ext.refl _).al _))).mono ?_; rintro e w4 ⟨rfl, E4⟩
            have E34 := ((Ext.refl _).al _).trans E4
            have I4 := I.later E34
            have F0 := E34.cellE D0
            have F1 := E34.cellE D1
            have F2 := E34.cellE D2
            clear D0 D1 D2 e0 e1 e2 k0 k1 k2
            go_wp2_with fail
            refine (HT.out _ I4.lim).mono ?_; rintro e w5 ⟨rfl, G5, L5⟩
            obtain ⟨O5, E5⟩ := I4.taken G5
            have F0 := G5.cell F0 (by simp; exact fun h => hDr h.symm)
            have F1 := G5.cell F1 (by simp; exact fun h => hDr h.symm)
            have F2 := G5.cell F2 (by simp; exact fun h => hDr h.symm)
            go_wp2_with fail
            go_roundw
            case rel => exact ⟨j + 1, lst, hx, by omega, by go_num, hxl, ⟨E5, L5, O5, I4.nb, I4.nr, I4.same, I4.br⟩⟩
            case measure => simp [intOf]; omega
          · have g1 := of_decide_eq_true t1
            have g2 := of_decide_eq_true t2
            have g3 := of_decide_eq_true t3
            have hself : (most != most) = false := by simp
            by_cases n1 : 1 ≤ nn
            rotate_left
            · have n1b : decide (1 ≤ nn) = false := by simpa using n1
              have ht : takeF each most lst who now nn = (false, lst) := by unfold takeF; rw [hat]; simp [n1]
              simp only [hat] at hleft
              simp only [ht] at htake
              have HL := Lib.hid hleft
              have HT := Lib.hid htake
              clear hleft htake hat ht
              go_wp2_with fail
              refine (HL.out _ (I.lim.ext ((Ext.refl _).al _))).mono ?_; rintro e w4 ⟨rfl, E4⟩
              have E34 := ((Ext.refl _).al _).trans E4
              have I4 := I.later E34
              have F0 := E34.cellE D0
              have F1 := E34.cellE D1
              have F2 := E34.cellE D2
              clear D0 D1 D2 e0 e1 e2 k0 k1 k2
              go_wp2_with fail
              refine (HT.out _ I4.lim).mono ?_; rintro e w5 ⟨rfl, G5, L5⟩
              obtain ⟨O5, E5⟩ := I4.taken G5
              have F0 := G5.cell F0 (by simp; exact fun h => hDr h.symm)
              have F1 := G5.cell F1 (by simp; exact fun h => hDr h.symm)
              have F2 := G5.cell F2 (by simp; exact fun h => hDr h.symm)
              go_wp2_with fail
              go_roundw
              case rel => exact ⟨j + 1, lst, hx, by omega, by go_num, hxl, ⟨E5, L5, O5, I4.nb, I4.nr, I4.same, I4.br⟩⟩
              case measure => simp [intOf]; omega
            by_cases n2 : nn ≤ most
            · have n2b : decide (nn ≤ most) = true := by simpa using n2
              have ht : takeF each most lst who now nn = (true, mset lst who (most - nn, now)) := by unfold takeF; rw [hat]; simp [n1, n2]
              simp only [hat] at hleft
              simp only [ht] at htake
              have HL := Lib.hid hleft
              have HT := Lib.hid htake
              clear hleft htake hat ht
              go_wp2_with fail
              refine (HL.out _ (I.lim.ext ((Ext.refl _).al _))).mono ?_; rintro e w4 ⟨rfl, E4⟩
              have E34 := ((Ext.refl _).al _).trans E4
              have I4 := I.later E34
              have F0 := E34.cellE D0
              have F1 := E34.cellE D1
              have F2 := E34.cellE D2
              clear D0 D1 D2 e0 e1 e2 k0 k1 k2
              go_wp2_with fail
              refine (HT.out _ I4.lim).mono ?_; rintro e w5 ⟨rfl, G5, L5⟩
              obtain ⟨O5, E5⟩ := I4.taken G5
              have F0 := G5.cell F0 (by simp; exact fun h => hDr h.symm)
              have F1 := G5.cell F1 (by simp; exact fun h => hDr h.symm)
              have F2 := G5.cell F2 (by simp; exact fun h => hDr h.symm)
              obtain ⟨u0, u1, u2, ufz, un⟩ := SOwn.at O5 HF.out.1
              have z0 := ufz (kk * 3)
              have z1 := ufz (kk * 3 + 1)
              have z2 := ufz (kk * 3 + 2)
              clear ufz un
              generalize hx[kk].1 = q0 at u0
              generalize hx[kk].2.1 = q1' at u1
              generalize hx[kk].2.2 = q2' at u2
              have O6 := SOwn.put O5 hk (who, (most, now))
              have O7 := SOwn.put1 O6.1 (k := kk) (by rw [List.length_set]; exact hk) who (most) (most - nn) now (by simp)
              rw [List.set_set] at O7
              go_wp2_with fail
              go_roundw
              case rel => exact ⟨j + 1, mset lst who (most - nn, now), hx.set kk (who, (most - nn, now)), by omega, by go_num, by rw [List.length_set]; exact hxl, PlayInv.put E5 L5 I4.same I4.nb I4.nr I4.br hg HF.out O7.1 (grown_trans O6.2 O7.2)⟩
              case measure => simp [intOf]; omega
            · have n2b : decide (nn ≤ most) = false := by simpa using n2
              have ht : takeF each most lst who now nn = (false, mset lst who (most, now)) := by unfold takeF; rw [hat]; simp [n1, n2]
              simp only [hat] at hleft
              simp only [ht] at htake
              have HL := Lib.hid hleft
              have HT := Lib.hid htake
              clear hleft htake hat ht
              go_wp2_with fail
              refine (HL.out _ (I.lim.ext ((Ext.refl _).al _))).mono ?_; rintro e w4 ⟨rfl, E4⟩
              have E34 := ((Ext.refl _).al _).trans E4
              have I4 := I.later E34
              have F0 := E34.cellE D0
              have F1 := E34.cellE D1
              have F2 := E34.cellE D2
              clear D0 D1 D2 e0 e1 e2 k0 k1 k2
              go_wp2_with fail
              refine (HT.out _ I4.lim).mono ?_; rintro e w5 ⟨rfl, G5, L5⟩
              obtain ⟨O5, E5⟩ := I4.taken G5
              have F0 := G5.cell F0 (by simp; exact fun h => hDr h.symm)
              have F1 := G5.cell F1 (by simp; exact fun h => hDr h.symm)
              have F2 := G5.cell F2 (by simp; exact fun h => hDr h.symm)
              obtain ⟨u0, u1, u2, ufz, un⟩ := SOwn.at O5 HF.out.1
              have z0 := ufz (kk * 3)
              have z1 := ufz (kk * 3 + 1)
              have z2 := ufz (kk * 3 + 2)
              clear ufz un
              generalize hx[kk].1 = q0 at u0
              generalize hx[kk].2.1 = q1' at u1
              generalize hx[kk].2.2 = q2' at u2
              have O6 := SOwn.put O5 hk (who, (most, now))
              go_wp2_with fail
              go_roundw
              case rel => exact ⟨j + 1, mset lst who (most, now), hx.set kk (who, (most, now)), by omega, by go_num, by rw [List.length_set]; exact hxl, PlayInv.put E5 L5 I4.same I4.nb I4.nr I4.br hg HF.out O6.1 O6.2⟩
              case measure => simp [intOf]; omega
          · have g1 := of_decide_eq_true t1
            have g2 := of_decide_eq_true t2
            have g3 := of_decide_eq_true t3
            have hself : (s1 + (now - a1) * each != s1 + (now - a1) * each) = false := by simp
            by_cases n1 : 1 ≤ nn
            rotate_left
            · have n1b : decide (1 ≤ nn) = false := by simpa using n1
              have ht : takeF each most lst who now nn = (false, lst) := by unfold takeF; rw [hat]; simp [n1]
              simp only [hat] at hleft
              simp only [ht] at htake
              have HL := Lib.hid hleft
              have HT := Lib.hid htake
              clear hleft htake hat ht
              go_wp2_with fail
              refine (HL.out _ (I.lim.ext ((Ext.refl _).al _))).mono ?_; rintro e w4 ⟨rfl, E4⟩
              have E34 := ((Ext.refl _).al _).trans E4
              have I4 := I.later E34
              have F0 := E34.cellE D0
              have F1 := E34.cellE D1
              have F2 := E34.cellE D2
              clear D0 D1 D2 e0 e1 e2 k0 k1 k2
              go_wp2_with fail
              refine (HT.out _ I4.lim).mono ?_; rintro e w5 ⟨rfl, G5, L5⟩
              obtain ⟨O5, E5⟩ := I4.taken G5
              have F0 := G5.cell F0 (by simp; exact fun h => hDr h.symm)
              have F1 := G5.cell F1 (by simp; exact fun h => hDr h.symm)
              have F2 := G5.cell F2 (by simp; exact fun h => hDr h.symm)
              go_wp2_with fail
              go_roundw
              case rel => exact ⟨j + 1, lst, hx, by omega, by go_num, hxl, ⟨E5, L5, O5, I4.nb, I4.nr, I4.same, I4.br⟩⟩
              case measure => simp [intOf]; omega
            by_cases n2 : nn ≤ s1 + (now - a1) * each
            · have n2b : decide (nn ≤ s1 + (now - a1) * each) = true := by simpa using n2
              have ht : takeF each most lst who now nn = (true, mset lst who (s1 + (now - a1) * each - nn, now)) := by unfold takeF; rw [hat]; simp [n1, n2]
              simp only [hat] at hleft
              simp only [ht] at htake
              have HL := Lib.hid hleft
              have HT := Lib.hid htake
              clear hleft htake hat ht
              go_wp2_with fail
              refine (HL.out _ (I.lim.ext ((Ext.refl _).al _))).mono ?_; rintro e w4 ⟨rfl, E4⟩
              have E34 := ((Ext.refl _).al _).trans E4
              have I4 := I.later E34
              have F0 := E34.cellE D0
              have F1 := E34.cellE D1
              have F2 := E34.cellE D2
              clear D0 D1 D2 e0 e1 e2 k0 k1 k2
              go_wp2_with fail
              refine (HT.out _ I4.lim).mono ?_; rintro e w5 ⟨rfl, G5, L5⟩
              obtain ⟨O5, E5⟩ := I4.taken G5
              have F0 := G5.cell F0 (by simp; exact fun h => hDr h.symm)
              have F1 := G5.cell F1 (by simp; exact fun h => hDr h.symm)
              have F2 := G5.cell F2 (by simp; exact fun h => hDr h.symm)
              obtain ⟨u0, u1, u2, ufz, un⟩ := SOwn.at O5 HF.out.1
              have z0 := ufz (kk * 3)
              have z1 := ufz (kk * 3 + 1)
              have z2 := ufz (kk * 3 + 2)
              clear ufz un
              generalize hx[kk].1 = q0 at u0
              generalize hx[kk].2.1 = q1' at u1
              generalize hx[kk].2.2 = q2' at u2
              have O6 := SOwn.put O5 hk (who, (s1 + (now - a1) * each, now))
              have O7 := SOwn.put1 O6.1 (k := kk) (by rw [List.length_set]; exact hk) who (s1 + (now - a1) * each) (s1 + (now - a1) * each - nn) now (by simp)
              rw [List.set_set] at O7
              go_wp2_with fail
              go_roundw
              case rel => exact ⟨j + 1, mset lst who (s1 + (now - a1) * each - nn, now), hx.set kk (who, (s1 + (now - a1) * each - nn, now)), by omega, by go_num, by rw [List.length_set]; exact hxl, PlayInv.put E5 L5 I4.same I4.nb I4.nr I4.br hg HF.out O7.1 (grown_trans O6.2 O7.2)⟩
              case measure => simp [intOf]; omega
            · have n2b : decide (nn ≤ s1 + (now - a1) * each) = false := by simpa using n2
              have ht : takeF each most lst who now nn = (false, mset lst who (s1 + (now - a1) * each, now)) := by unfold takeF; rw [hat]; simp [n1, n2]
              simp only [hat] at hleft
              simp only [ht] at htake
              have HL := Lib.hid hleft
              have HT := Lib.hid htake
              clear hleft htake hat ht
              go_wp2_with fail
              refine (HL.out _ (I.lim.ext ((Ext.refl _).al _))).mono ?_; rintro e w4 ⟨rfl, E4⟩
              have E34 := ((Ext.refl _).al _).trans E4
              have I4 := I.later E34
              have F0 := E34.cellE D0
              have F1 := E34.cellE D1
              have F2 := E34.cellE D2
              clear D0 D1 D2 e0 e1 e2 k0 k1 k2
              go_wp2_with fail
              refine (HT.out _ I4.lim).mono ?_; rintro e w5 ⟨rfl, G5, L5⟩
              obtain ⟨O5, E5⟩ := I4.taken G5
              have F0 := G5.cell F0 (by simp; exact fun h => hDr h.symm)
              have F1 := G5.cell F1 (by simp; exact fun h => hDr h.symm)
              have F2 := G5.cell F2 (by simp; exact fun h => hDr h.symm)
              obtain ⟨u0, u1, u2, ufz, un⟩ := SOwn.at O5 HF.out.1
              have z0 := ufz (kk * 3)
              have z1 := ufz (kk * 3 + 1)
              have z2 := ufz (kk * 3 + 2)
              clear ufz un
              generalize hx[kk].1 = q0 at u0
              generalize hx[kk].2.1 = q1' at u1
              generalize hx[kk].2.2 = q2' at u2
              have O6 := SOwn.put O5 hk (who, (s1 + (now - a1) * each, now))
              go_wp2_with fail
              go_roundw
              case rel => exact ⟨j + 1, mset lst who (s1 + (now - a1) * each, now), hx.set kk (who, (s1 + (now - a1) * each, now)), by omega, by go_num, by rw [List.length_set]; exact hxl, PlayInv.put E5 L5 I4.same I4.nb I4.nr I4.br hg HF.out O6.1 O6.2⟩
              case measure => simp [intOf]; omega
          · have g1 := of_decide_eq_true t1
            have g2 := of_decide_eq_true t2
            have g3 := of_decide_eq_true t3
            have hself : (most != most) = false := by simp
            by_cases n1 : 1 ≤ nn
            rotate_left
            · have n1b : decide (1 ≤ nn) = false := by simpa using n1
              have ht : takeF each most lst who now nn = (false, lst) := by unfold takeF; rw [hat]; simp [n1]
              simp only [hat] at hleft
              simp only [ht] at htake
              have HL := Lib.hid hleft
              have HT := Lib.hid htake
              clear hleft htake hat ht
              go_wp2_with fail
              refine (HL.out _ (I.lim.ext ((Ext.refl _).al _))).mono ?_; rintro e w4 ⟨rfl, E4⟩
              have E34 := ((Ext.refl _).al _).trans E4
              have I4 := I.later E34
              have F0 := E34.cellE D0
              have F1 := E34.cellE D1
              have F2 := E34.cellE D2
              clear D0 D1 D2 e0 e1 e2 k0 k1 k2
              go_wp2_with fail
              refine (HT.out _ I4.lim).mono ?_; rintro e w5 ⟨rfl, G5, L5⟩
              obtain ⟨O5, E5⟩ := I4.taken G5
              have F0 := G5.cell F0 (by simp; exact fun h => hDr h.symm)
              have F1 := G5.cell F1 (by simp; exact fun h => hDr h.symm)
              have F2 := G5.cell F2 (by simp; exact fun h => hDr h.symm)
              go_wp2_with fail
              go_roundw
              case rel => exact ⟨j + 1, lst, hx, by omega, by go_num, hxl, ⟨E5, L5, O5, I4.nb, I4.nr, I4.same, I4.br⟩⟩
              case measure => simp [intOf]; omega
            by_cases n2 : nn ≤ most
            · have n2b : decide (nn ≤ most) = true := by simpa using n2
              have ht : takeF each most lst who now nn = (true, mset lst who (most - nn, now)) := by unfold takeF; rw [hat]; simp [n1, n2]
              simp only [hat] at hleft
              simp only [ht] at htake
              have HL := Lib.hid hleft
              have HT := Lib.hid htake
              clear hleft htake hat ht
              go_wp2_with fail
              refine (HL.out _ (I.lim.ext ((Ext.refl _).al _))).mono ?_; rintro e w4 ⟨rfl, E4⟩
              have E34 := ((Ext.refl _).al _).trans E4
              have I4 := I.later E34
              have F0 := E34.cellE D0
              have F1 := E34.cellE D1
              have F2 := E34.cellE D2
              clear D0 D1 D2 e0 e1 e2 k0 k1 k2
              go_wp2_with fail
              refine (HT.out _ I4.lim).mono ?_; rintro e w5 ⟨rfl, G5, L5⟩
              obtain ⟨O5, E5⟩ := I4.taken G5
              have F0 := G5.cell F0 (by simp; exact fun h => hDr h.symm)
              have F1 := G5.cell F1 (by simp; exact fun h => hDr h.symm)
              have F2 := G5.cell F2 (by simp; exact fun h => hDr h.symm)
              obtain ⟨u0, u1, u2, ufz, un⟩ := SOwn.at O5 HF.out.1
              have z0 := ufz (kk * 3)
              have z1 := ufz (kk * 3 + 1)
              have z2 := ufz (kk * 3 + 2)
              clear ufz un
              generalize hx[kk].1 = q0 at u0
              generalize hx[kk].2.1 = q1' at u1
              generalize hx[kk].2.2 = q2' at u2
              have O6 := SOwn.put O5 hk (who, (most, now))
              have O7 := SOwn.put1 O6.1 (k := kk) (by rw [List.length_set]; exact hk) who (most) (most - nn) now (by simp)
              rw [List.set_set] at O7
              go_wp2_with fail
              go_roundw
              case rel => exact ⟨j + 1, mset lst who (most - nn, now), hx.set kk (who, (most - nn, now)), by omega, by go_num, by rw [List.length_set]; exact hxl, PlayInv.put E5 L5 I4.same I4.nb I4.nr I4.br hg HF.out O7.1 (grown_trans O6.2 O7.2)⟩
              case measure => simp [intOf]; omega
            · have n2b : decide (nn ≤ most) = false := by simpa using n2
              have ht : takeF each most lst who now nn = (false, mset lst who (most, now)) := by unfold takeF; rw [hat]; simp [n1, n2]
              simp only [hat] at hleft
              simp only [ht] at htake
              have HL := Lib.hid hleft
              have HT := Lib.hid htake
              clear hleft htake hat ht
              go_wp2_with fail
              refine (HL.out _ (I.lim.ext ((Ext.refl _).al _))).mono ?_; rintro e w4 ⟨rfl, E4⟩
              have E34 := ((Ext.refl _).al _).trans E4
              have I4 := I.later E34
              have F0 := E34.cellE D0
              have F1 := E34.cellE D1
              have F2 := E34.cellE D2
              clear D0 D1 D2 e0 e1 e2 k0 k1 k2
              go_wp2_with fail
              refine (HT.out _ I4.lim).mono ?_; rintro e w5 ⟨rfl, G5, L5⟩
              obtain ⟨O5, E5⟩ := I4.taken G5
              have F0 := G5.cell F0 (by simp; exact fun h => hDr h.symm)
              have F1 := G5.cell F1 (by simp; exact fun h => hDr h.symm)
              have F2 := G5.cell F2 (by simp; exact fun h => hDr h.symm)
              obtain ⟨u0, u1, u2, ufz, un⟩ := SOwn.at O5 HF.out.1
              have z0 := ufz (kk * 3)
              have z1 := ufz (kk * 3 + 1)
              have z2 := ufz (kk * 3 + 2)
              clear ufz un
              generalize hx[kk].1 = q0 at u0
              generalize hx[kk].2.1 = q1' at u1
              generalize hx[kk].2.2 = q2' at u2
              have O6 := SOwn.put O5 hk (who, (most, now))
              go_wp2_with fail
              go_roundw
              case rel => exact ⟨j + 1, mset lst who (most, now), hx.set kk (who, (most, now)), by omega, by go_num, by rw [List.length_set]; exact hxl, PlayInv.put E5 L5 I4.same I4.nb I4.nr I4.br hg HF.out O6.1 O6.2⟩
              case measure => simp [intOf]; omega
    · go_wp2_with fail
      refine (awake49_any _).mono ?_; rintro e w2 ⟨rfl, E2⟩
      go_wp2_with fail
      go_ret
      exact ⟨rfl, I.ext.trans E2⟩

end Go.Proofs.Ytecfcamlnfmebaa
