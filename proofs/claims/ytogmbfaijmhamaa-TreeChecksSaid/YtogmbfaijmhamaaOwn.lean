/- Appending to a slice that is the call's own: what is known of the value and the world behind it, whatever room there was. -/
import Derived.Test.YtogmbfaijmhamaaBase
namespace Go.Bo
open Go.RowKit

/-- Behind an append to v: nothing but v's own row has turned; what comes back lies there still, or in a new block. -/
structure Grow (w w' : World) (v v' : Value) : Prop where
  grown : w.grownBy w' v.ownBlock
  own : v'.ownBlock = v.ownBlock ∨ ∃ g, v'.ownBlock = some g ∧ w.heap.size ≤ g

theorem Grow.refl (w : World) (v : Value) : Grow w w v v := ⟨⟨rfl, rfl, rfl, Nat.le_refl _, fun _ _ _ => rfl⟩, .inl rfl⟩

/-- The same with the base kept: the row is from base on. -/
theorem Grow.ext {w0 w w' : World} {v v' : Value} {e : TypeId} {s n : Nat} {xs : List Value} (h : Ext w0 w) (hg : Grow w w' v v') (ho : w.ownsRow w0.heap.size e s v n xs) : Ext w0 w' :=
  Below.grown h hg.grown h.size (fun k hk => (ho.lt k hk).1)

section
variable {P : Program} (w : World)

theorem run_own_append (base : Nat) (t ty e : TypeId) (i : TypeInfo) (z : Value) (size bytes : Nat) (ht : P.underlying t = some (.slice e)) (hi : P.info? e = some i) (hz : i.zero = some z)
    (hsize : i.size = size) (hby : i.bytes = bytes) (hzs : z.cells.size = size) (hsz : 0 < size)
    (v : Value) (n : Nat) (xs : List Value) (hown : w.ownsRow base e size v n xs)
    (a : Addr) (m c : Nat) (news : List Value) (hl : news.length = m * size) (hnews : ∀ j u, news[j]? = some u → w.cell? (a.add j) = some u) (h1 : ∀ u ∈ news, u.oneCell' = true)
    (h63 : n + m ≤ maxLen) (hbytes : (n + m) * bytes ≤ 140737488355328) (hbase : base ≤ w.heap.size) :
    ∃ v' w', (Builtin.append_ #[t, t] ty #[v, .slice (some a) m c]).run P w = .ok v' w' ∧ w'.ownsRow base e size v' (n + m) (xs ++ news) ∧ Grow w w' v v' := by
  obtain ⟨v', w', hr, ho, hg, hn⟩ := run_append_own (P := P) w base t ty e i z size bytes ht hi hz hsize hby hzs hsz v n xs hown a m c news hl hnews h1 h63 hbytes hbase
  refine ⟨v', w', hr, ho, hg, ?_⟩
  subst hsize; subst hby
  have hsm : n + m ≤ 9223372036854775807 := by simp only [maxLen] at h63; omega
  rcases hown.2 with ⟨rfl, rfl⟩ | ⟨g, cap, cur, rfl, hbg, hgg, hnc, hcm, hcs, htake⟩
  · by_cases hm : m = 0
    · left; rw [hn.2 ⟨rfl, hm⟩]
    · right
      have hr2 := run_append_nil (P := P) w t ty e i z ht hi hz a m c news hl hnews (by omega) (by omega) (by have hb := hbytes; simp only [Nat.zero_add] at hb; omega)
      rw [hr2] at hr
      cases hr
      exact ⟨_, rfl, Nat.le_refl _⟩
  · by_cases hroom : n + m ≤ cap
    · left
      have hfit : n * i.size + news.length ≤ cur.size := by rw [hl, hcs, ← Nat.add_mul]; exact Nat.mul_le_mul_right _ hroom
      have hr2 := run_append_room (P := P) w t ty e i ht hi g n cap cur hgg a m c news hl hnews h1 hroom hfit
      rw [hr2] at hr
      cases hr
      rfl
    · right
      have holds : ∀ j u, xs[j]? = some u → w.cell? ((⟨g, 0, none⟩ : Addr).add j) = some u := hown.cells (g := g) rfl
      have hr2 := run_append_grow (P := P) w t ty e i z ht hi hz ⟨g, 0, none⟩ n cap xs hown.1 holds a m c news hl hnews (by omega) (by omega) (growslice_fits (by omega) hbytes)
      rw [hr2] at hr
      cases hr
      exact ⟨_, rfl, Nat.le_refl _⟩

theorem wp_own_append {ops : Array Oper} {rest : List Oper} {o : Oper} {a : Act} {Q : Exit → Act → World → Prop} (hgd : o.guard = none) (s x : Operand) (t : TypeId)
    (ho : o.op = .call { callee := .builtin .append, args := #[s, x], argTypes := #[t, t] })
    (base : Nat) (e : TypeId) (i : TypeInfo) (z : Value) (size bytes : Nat) (ht : P.underlying t = some (.slice e)) (hi : P.info? e = some i) (hz : i.zero = some z)
    (hsize : i.size = size) (hby : i.bytes = bytes) (hzs : z.cells.size = size) (hsz : 0 < size)
    (v : Value) (n : Nat) (xs : List Value) (hs : a.eval s = v) (hown : w.ownsRow base e size v n xs)
    (ad : Addr) (m c : Nat) (news : List Value) (hx : a.eval x = .slice (some ad) m c) (hl : news.length = m * size) (hnews : ∀ j u, news[j]? = some u → w.cell? (ad.add j) = some u) (h1 : ∀ u ∈ news, u.oneCell' = true)
    (h63 : n + m ≤ maxLen) (hbytes : (n + m) * bytes ≤ 140737488355328) (hbase : base ≤ w.heap.size)
    (h : ∀ v' w', w'.ownsRow base e size v' (n + m) (xs ++ news) → Grow w w' v v' → wpList P ops Q rest (a.put o.dst v') w') : wpList P ops Q (o :: rest) a w := by
  refine wpList_plain hgd fun K hK' => ?_
  obtain ⟨v', w', hr, h2, h3⟩ := run_own_append (P := P) w base t o.type e i z size bytes ht hi hz hsize hby hzs hsz v n xs hown ad m c news hl hnews h1 h63 hbytes hbase
  unfold Oper.wp execOp
  simp only [ho, resolve, invoke, builtin, Sem.run_bind, Sem.run_pure, Result.andThen_ok, List.map_toArray, List.map_cons, List.map_nil, hs, hx, hr]
  exact hK' _ _ (h v' w' h2 h3)

end

section
variable {P : Program} (w : World)

theorem run_append_none (t ty e : TypeId) (i : TypeInfo) (ht : P.underlying t = some (.slice e)) (hi : P.info? e = some i) (a0 : Option Addr) (n cap : Nat) (hn : n ≤ cap) (as : Option Addr) (c : Nat) :
    (Builtin.append_ #[t, t] ty #[.slice a0 n cap, .slice as 0 c]).run P w = .ok (.slice a0 n cap) w := by
  cases a0 <;> cases as <;>
    simp [Builtin.append_, run_underlying ht, sizeOf, typeInfo, hi, Builtin.lenOf, hn, Builtin.firstCells, loadCells, loadCellsFrom, storeCells]

/-- 'append(l[:len(l):len(l)], m...)': a new row, or l itself where m is empty. -/
theorem wp_append_full {ops : Array Oper} {rest : List Oper} {o : Oper} {a : Act} {Q : Exit → Act → World → Prop} (hgd : o.guard = none) (s x : Operand) (t : TypeId)
    (ho : o.op = .call { callee := .builtin .append, args := #[s, x], argTypes := #[t, t] })
    (e : TypeId) (i : TypeInfo) (z : Value) (size bytes : Nat) (ht : P.underlying t = some (.slice e)) (hi : P.info? e = some i) (hz : i.zero = some z)
    (hsize : i.size = size) (hby : i.bytes = bytes) (hzs : z.cells.size = size) (hsz : 0 < size)
    (a0 : Option Addr) (n : Nat) (olds : List Value) (hs : a.eval s = .slice a0 n n) (h0 : a0 = none → n = 0) (hlo : olds.length = n * size) (holds : ∀ b, a0 = some b → ∀ j u, olds[j]? = some u → w.cell? (b.add j) = some u)
    (as : Option Addr) (m c : Nat) (news : List Value) (hx : a.eval x = .slice as m c) (hsn : as = none → m = 0) (hl : news.length = m * size) (hnews : ∀ b, as = some b → ∀ j u, news[j]? = some u → w.cell? (b.add j) = some u) (h1 : ∀ u ∈ news, u.oneCell' = true)
    (h63 : n + m ≤ maxLen) (hbytes : (n + m) * bytes ≤ 140737488355328)
    (h : ∀ v' w', Ext w w' → (m = 0 ∧ v' = .slice a0 n n ∧ w' = w) ∨ w'.ownsRow w.heap.size e size v' (n + m) (olds ++ news) → wpList P ops Q rest (a.put o.dst v') w') : wpList P ops Q (o :: rest) a w := by
  by_cases hm : m = 0
  · subst hm
    refine wpList_plain hgd fun K hK' => ?_
    have hr := run_append_none (P := P) w t o.type e i ht hi a0 n n (Nat.le_refl _) as c
    unfold Oper.wp execOp
    simp only [ho, resolve, invoke, builtin, Sem.run_bind, Sem.run_pure, Result.andThen_ok, List.map_toArray, List.map_cons, List.map_nil, hs, hx, hr]
    exact hK' _ _ (h _ _ (Ext.refl _) (.inl ⟨rfl, rfl, rfl⟩))
  · cases as with
    | none => exact absurd (hsn rfl) hm
    | some ad =>
      refine wpList_append_grows (P := P) w hgd s x t ho e i z size bytes ht hi hz hsize hby hzs hsz a0 n n olds hs (fun q => ⟨h0 q, h0 q⟩) hlo holds ad m c news hx hl (hnews ad rfl) h1 (by omega) h63 hbytes ?_
      intro v' w' hO hG
      exact h v' w' ⟨hG.os, hG.tape, hG.output, hG.size, fun k hk => hG.block k hk (by simp)⟩ (.inr hO)
end

/-- The bytes of some numbers. -/
def bytesOf (ns : List Int) : ByteArray := ⟨(ns.map fun n => UInt8.ofNat n.toNat).toArray⟩

theorem foldl_push (ns : List Int) : ∀ s : ByteArray, ns.foldl (fun r n => r.push (UInt8.ofNat n.toNat)) s = ⟨(s.data.toList ++ ns.map fun n => UInt8.ofNat n.toNat).toArray⟩ := by
  induction ns with
  | nil => intro s; simp
  | cons n t ih =>
    intro s
    rw [List.foldl_cons, ih]
    congr 1
    simp [ByteArray.push]

/-- 'string(b)'. -/
theorem wp_string_bytes {P : Program} {w : World} {ops : Array Oper} {rest : List Oper} {o : Oper} {a : Act} {Q : Exit → Act → World → Prop} (src dst e : TypeId) (x : Operand) (hgd : o.guard = none)
    (ho : o.op = .convert src dst x) (hs : P.underlying src = some (.slice e)) (he : P.underlying e = some (.int .u8)) (hd : P.underlying dst = some .string)
    (ad : Option Addr) (n c : Nat) (ns : List Int) (hx : a.eval x = .slice ad n c) (hn : ns.length = n) (h0 : ad = none → n = 0)
    (hcell : ∀ b, ad = some b → ∀ j u, (ns.map (Value.int .u8))[j]? = some u → w.cell? (b.add j) = some u)
    (h : wpList P ops Q rest (a.put o.dst (.string (bytesOf ns))) w) : wpList P ops Q (o :: rest) a w := by
  refine wpList_plain hgd fun K hK' => ?_
  have hr : (convert src dst (.slice ad n c)).run P w = .ok (.string (bytesOf ns)) w := by
    rw [run_convert_bytes_string w src dst e ad n c hs he hd]
    cases ad with
    | none =>
      have : ns = [] := List.eq_nil_of_length_eq_zero (by rw [hn]; exact h0 rfl)
      subst this
      rfl
    | some b =>
      have hl := run_loadCells_list (P := P) (w := w) b (ns.map (Value.int .u8)) (hcell b rfl)
      rw [List.length_map, hn] at hl
      rw [run_bytesToString w b n c ns hl, foldl_push]
      rfl
  unfold Oper.wp execOp
  simp only [ho, hx, hr, Sem.run_bind, Result.andThen_ok, Sem.run_pure]
  exact hK' _ _ h

/-- A byte of a string, as a number. -/
def bt (s : ByteArray) (k : Nat) : Int := (s.data.toList.getD k 0).toNat

theorem bt_bd (s : ByteArray) (k : Nat) : 0 ≤ bt s k ∧ bt s k ≤ 255 := by
  unfold bt
  have := (s.data.toList.getD k 0).toNat_lt
  omega

/-- An operation that yields a value and leaves the world alone, guarded or not. -/
theorem wpList_val {P : Program} {w : World} {ops : Array Oper} {rest : List Oper} {o : Oper} {a : Act} {Q : Exit → Act → World → Prop} (hw : Region.wanted o (yielded ops a.tmps) = true) (v : Value)
    (hr : ∀ K, (o.wp P a w K Q) = K (a.put o.dst v) w) (h : wpList P ops Q rest (a.put o.dst v) w) : wpList P ops Q (o :: rest) a w :=
  wpList_step fun K hK => by rw [if_pos hw, hr]; exact hK _ _ h

theorem run_index_bt {P : Program} (w : World) (T : TypeId) (kk : IntKind) (s : ByteArray) (i : Int) (hT : P.underlying T = some .string) (h0 : 0 ≤ i) (h1 : i < s.size) :
    (Instr.index T (.string s) (.int kk i)).run P w = .ok (.int .u8 (bt s i.toNat)) w := by
  have hk : i.toNat < s.size := by omega
  have hk' : i.toNat < s.data.size := hk
  have hb : s[i.toNat]? = some (s.data.toList.getD i.toNat 0) := by
    have e : s.data.toList.getD i.toNat 0 = s[i.toNat]'hk := by
      rw [List.getD, Array.getElem?_toList, Array.getElem?_eq_getElem hk']
      rfl
    rw [e]
    exact getElem?_pos s i.toNat hk
  unfold Instr.index
  simp [asIntOf, run_underlying hT, h0, hb, bt]

theorem wp_index_str {P : Program} {w : World} {ops : Array Oper} {rest : List Oper} {o : Oper} {a : Act} {Q : Exit → Act → World → Prop} (k : Nat) (T : TypeId) (x y : Operand) (ho : o.op = .index T x y)
    (hw : Region.wanted o (yielded ops a.tmps) = true) (hT : P.underlying T = some .string) (kk : IntKind) (s : ByteArray) (hx : a.eval x = .string s) (hy : a.eval y = .int kk k) (h1 : k < s.size)
    (h : wpList P ops Q rest (a.put o.dst (.int .u8 (bt s k))) w) : wpList P ops Q (o :: rest) a w := by
  refine wpList_val hw _ (fun K => ?_) h
  unfold Oper.wp execOp
  simp only [ho, hx, hy, run_index_bt w T kk s k hT (by omega) (by omega), Sem.run_bind, Result.andThen_ok, Sem.run_pure]
  rfl

theorem ISl.cellsAt {w : World} {a : Option Addr} {l : List Int} (h : ISl w a l) : ∀ b, a = some b → ∀ j u, (l.map (Value.int .i64))[j]? = some u → w.cell? (b.add j) = some u := by
  intro b hb j u hu
  obtain ⟨hj, hu⟩ := List.getElem?_eq_some_iff.1 hu
  simp at hj
  obtain ⟨b', off, ha, hc⟩ := h.2 j hj
  rw [hb] at ha
  cases ha
  have : (⟨b', off, none⟩ : Addr).add j = ⟨b', off + j, none⟩ := by unfold Addr.add; split <;> simp_all
  rw [this, hc, ← hu]
  simp [hj]

theorem ISl.none {w : World} {l : List Int} (h : ISl w none l) : l.length = 0 := by
  rcases Nat.eq_zero_or_pos l.length with h0 | h0
  · exact h0
  · obtain ⟨b, off, ha, _⟩ := h.2 0 h0; cases ha

theorem cells_new1 (w : World) (c : Array Value) (t : TypeId) : ∀ j u, c.toList[j]? = some u → (w.alloc (.cells c t)).cell? ((⟨w.heap.size, 0, none⟩ : Addr).add j) = some u := by
  intro j u h
  have : (⟨w.heap.size, 0, none⟩ : Addr).add j = ⟨w.heap.size, j, none⟩ := by unfold Addr.add; split <;> simp_all
  rw [this, World.cell?_alloc_new]
  simpa using h

/-- A slice of ints that the call owns. -/
def IOwn (w : World) (e : TypeId) (base : Nat) (v : Value) (l : List Int) : Prop := w.ownsRow base e 1 v l.length (l.map (Value.int .i64))

theorem IOwn.nil (w : World) (e : TypeId) (base : Nat) : IOwn w e base (.slice none 0 0) [] := World.ownsRow_nil _ _ _ _

theorem IOwn.isl {w : World} {e : TypeId} {base : Nat} {v : Value} {l : List Int} (h : IOwn w e base v l) : ∃ a c, v = .slice a l.length c ∧ ISl w a l := by
  rcases h.2 with ⟨rfl, hn⟩ | ⟨g, cap, cur, rfl, hb, hg, hc, hm, hs, ht⟩
  · exact ⟨none, 0, by rw [hn], by rw [List.eq_nil_of_length_eq_zero hn]; exact ISl.nil _ _⟩
  · refine ⟨_, cap, rfl, by simp only [maxLen] at hm; omega, fun i hi => ⟨g, 0, rfl, ?_⟩⟩
    rw [cell_of_row _ _ _ _ _ _ hg]
    have : (cur.toList.take (l.length * 1))[i]? = (l.map (Value.int .i64))[i]? := by rw [ht]
    rw [List.getElem?_take, if_pos (by omega)] at this
    simpa [hi] using this

theorem ISl.own {w : World} {e : TypeId} {base n : Nat} {v : Value} {l : List Int} {xs : List Value} (h : w.ownsRow base e 1 v n xs) (hx : xs = l.map (Value.int .i64)) (hn : n = l.length) : ∃ a c, v = .slice a l.length c ∧ ISl w a l := by
  subst hx; subst hn; exact IOwn.isl h

end Go.Bo
