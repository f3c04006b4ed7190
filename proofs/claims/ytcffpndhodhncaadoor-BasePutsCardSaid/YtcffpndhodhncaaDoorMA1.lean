/- MA1: BaB, BaP, BaQ, BaR, BaV, BaW. -/
import Derived.Test.YtcffpndhodhncaaDoorLA4
import Derived.Test.YtcffpndhodhncaaDoorSh
import Derived.Test.YtcffpndhodhncaaDoorIc
import Derived.Handy
import Derived.Shelf.Strings.Builder1
section
/- strings.Builder at this dump: copyCheck, WriteByte. -/
set_option linter.unusedSimpArgs false
set_option linter.unusedVariables false
namespace Go.Proofs.YtcffpndhodhncaaDoor
open Go.RowKit Go.Bo Go.Ab

abbrev IsB (B b : Nat) (bs : List Value) (w : World) : Prop := Lib.IsBuilder 32 5 B b bs w
theorem info_Bld : (Tryd.prog.info? 32).map (·.size) = some 2 := by kernel_rfl
theorem info_u8B : (Tryd.prog.info? 5).map (fun i => (i.zero, i.size, i.bytes)) = some (some (.int .u8 0), 1, 1) := by kernel_rfl
set_option maxHeartbeats 1000000 in
set_option maxRecDepth 100000 in
theorem copyCheck_used (b : Nat) (w : World) (h0 : w.cell? ⟨b, 0, none⟩ = some (.pointer (some ⟨b, 0, none⟩))) :
    Calls Tryd.prog 14 #[.pointer (some ⟨b, 0, none⟩)] w fun e w' => e = .returned (.tuple #[]) ∧ w' = w := by
  obtain ⟨j, hj, hjs⟩ := Option.map_eq_some_iff.1 info_Bld
  go_enter Tryd.func14, Tryd.ntmps14
  go_wp2_with fail
  rw [Lib.run_neq_ptr_same w _ Tryd.underlying29 hj]
  go_wp2_with fail
  go_end0
  exact ⟨rfl, rfl⟩
set_option maxHeartbeats 1000000 in
set_option maxRecDepth 100000 in
theorem copyCheck_fresh (b : Nat) (w : World) (h0 : w.cell? ⟨b, 0, none⟩ = some (.pointer none)) (hsh : w.shape? b = some (32, 2)) (hfz : w.frozen? ⟨b, 0, none⟩ = false) :
    Calls Tryd.prog 14 #[.pointer (some ⟨b, 0, none⟩)] w fun e w' => e = .returned (.tuple #[]) ∧ w' = w.setCell ⟨b, 0, none⟩ (.pointer (some ⟨b, 0, none⟩)) := by
  obtain ⟨j, hj, hjs⟩ := Option.map_eq_some_iff.1 info_Bld
  go_enter Tryd.func14, Tryd.ntmps14
  go_wp2_with fail
  rw [Lib.run_to_unsafe w ⟨b, 0, none⟩ Tryd.underlying29 Tryd.underlying50 hj (by rw [hjs]; decide) hsh (Nat.zero_lt_succ 1)]
  simp only [Result.andThen]
  rw [Oper.upon_value]
  go_wp2_with fail
  rw [run_callFunc_extern Tryd.func19 (by kernel_rfl) (by kernel_rfl) (by kernel_rfl) (e := Extern.AbiNoEscape.same) (by kernel_rfl)]
  rw [Lib.run_noEscape]
  simp only [Result.andThen]
  rw [Oper.upon_value]
  go_wp2_with fail
  rw [Lib.run_from_unsafe w ⟨b, 0, none⟩ Tryd.underlying50 Tryd.underlying29 hj hsh (by kernel_rfl)]
  simp only [Result.andThen]
  rw [Oper.upon_value]
  go_wp2_with fail
  go_end0
  exact ⟨rfl, rfl⟩
theorem copyCheck_b (B b : Nat) (bs : List Value) (w : World) (h : IsB B b bs w) :
    Calls Tryd.prog 14 #[.pointer (some ⟨b, 0, none⟩)] w fun e w' => e = .returned (.tuple #[]) ∧ (Lib.BuilderAt 32 5 B b (.pointer (some ⟨b, 0, none⟩)) bs w' ∧ Below B w w') := by
  rcases h with h | h
  · refine (copyCheck_fresh b w h.cell0 h.shape h.frozen0).mono ?_
    rintro e w' ⟨rfl, rfl⟩
    exact ⟨rfl, h.used _, (Below.refl B w).setCell (p := ⟨b, 0, none⟩) h.1 _⟩
  · refine (copyCheck_used b w h.cell0).mono ?_
    rintro e w' ⟨rfl, rfl⟩
    exact ⟨rfl, h, Below.refl B _⟩
set_option maxHeartbeats 2000000 in
set_option maxRecDepth 100000 in
theorem writeByte_b (B b : Nat) (bs : List Value) (c : Int) (w : World) (h : IsB B b bs w) (hlen : bs.length + 1 ≤ 140737488355328) (hBw : B ≤ w.heap.size) :
    Calls Tryd.prog 9 #[.pointer (some ⟨b, 0, none⟩), .int .u8 c] w fun e w' => e = .returned .nilIface ∧ (Lib.BuilderAt 32 5 B b (.pointer (some ⟨b, 0, none⟩)) (bs ++ [.int .u8 c]) w' ∧ Below B w w') := by
  obtain ⟨i0, hi, hz0, hz1, hz2⟩ := info_parts info_u8B
  go_enter Tryd.func9, Tryd.ntmps9
  go_wp2_with (go_at_call 14; refine (copyCheck_b B b bs _ h).mono ?_)
  rintro e w1 ⟨rfl, h1, hb1⟩
  obtain ⟨hB, v, hbk, hown, hne⟩ := h1
  have c0 : w1.cell? ⟨b, 0, none⟩ = some (.pointer (some ⟨b, 0, none⟩)) := by rw [Lib.cell_of_heap hbk]; rfl
  have c1 : w1.cell? ⟨b, 1, none⟩ = some v := by rw [Lib.cell_of_heap hbk]; rfl
  go_wp2_with (at_builtin; refine wpList_append_own _ rfl _ _ 30 rfl B 5 i0 (.int .u8 0) 1 1 Tryd.underlying30 hi hz0 hz1 hz2 rfl (by decide) _ _ _ rfl (hown.alloc _) ⟨w1.heap.size, 0, none⟩ 1 1 [.int .u8 c] rfl rfl ?c1 ?c2 ?c3 ?c4 ?c5 ?_)
  case c1 =>
    intro j u hj
    match j, hj with
    | 0, hj => simp at hj; subst hj; simp [Addr.add]
  case c2 => intro u hu; simp at hu; subst hu; rfl
  case c3 => unfold maxLen; omega
  case c4 => omega
  case c5 => have := hb1.size; simp; omega
  intro v' w2 hown' hgrow _
  have hlt : b < w1.heap.size := by
    rcases Nat.lt_or_ge b w1.heap.size with h' | h'
    · exact h'
    · simp [Array.getElem?_eq_none h'] at hbk
  have hb2 : w2.heap[b]? = some (.cells #[.pointer (some ⟨b, 0, none⟩), v] 32 (0, 0)) := by
    rw [hgrow.block b (by simp; omega) (fun e => hne e.symm), Lib.alloc_old w1 _ b hlt]
    exact hbk
  have d0 : w2.cell? ⟨b, 0, none⟩ = some (.pointer (some ⟨b, 0, none⟩)) := by rw [Lib.cell_of_heap hb2]; rfl
  have d1 : w2.cell? ⟨b, 1, none⟩ = some v := by rw [Lib.cell_of_heap hb2]; rfl
  have f1 : w2.frozen? ⟨b, 1, none⟩ = false := Lib.frozen_of_heap hb2 1
  obtain ⟨g, cap, rfl⟩ : ∃ g cap, v' = .slice (some ⟨g, 0, none⟩) (bs.length + 1) cap := by
    rcases hown'.2 with ⟨_, h0⟩ | ⟨g, cap, cur, hv, _⟩
    · omega
    · exact ⟨g, cap, hv⟩
  go_wp2_with fail
  go_ret
  refine ⟨rfl, ?_, ?_⟩
  · exact Lib.BuilderAt.put (T := 32) (e := 5) hB hb2 (bs' := bs ++ [.int .u8 c]) (by simpa using hown') (by decide)
  · exact ((hb1.alloc (by have := hb1.size; omega) _).grown hgrow (by have := hb1.size; simp; omega) (fun k hk => (hown.lt k hk).1)).setCell (p := ⟨b, 1, none⟩) hB _
end Go.Proofs.YtcffpndhodhncaaDoor
end
section
/- base.Put, walked. -/
set_option linter.unusedSimpArgs false
set_option linter.unusedVariables false
namespace Go.Proofs.YtcffpndhodhncaaDoor
open Go.RowKit Go.Bo Go.Ab

/-- The letters. -/
def b64L : List UInt8 := [65, 66, 67, 68, 69, 70, 71, 72, 73, 74, 75, 76, 77, 78, 79, 80, 81, 82, 83, 84, 85, 86, 87, 88, 89, 90, 97, 98, 99, 100, 101, 102, 103, 104, 105, 106, 107, 108, 109, 110, 111, 112, 113, 114, 115, 116, 117, 118, 119, 120, 121, 122, 48, 49, 50, 51, 52, 53, 54, 55, 56, 57, 43, 47]
def ltr (n : Nat) : UInt8 := b64L.getD n 0
/-- A byte more: the letters so far, the bits that are left, how many they are. -/
def stepE (x : List UInt8 × Nat × Nat) (c : UInt8) : List UInt8 × Nat × Nat :=
  let v := x.2.1 * 256 + c.toNat
  if x.2.2 = 0 then (x.1 ++ [ltr (v / 4 % 64)], v % 4, 2)
  else if x.2.2 = 2 then (x.1 ++ [ltr (v / 16 % 64)], v % 16, 4)
  else ((x.1 ++ [ltr (v / 64 % 64)]) ++ [ltr (v % 64)], 0, 0)
def runE (s : List UInt8) : List UInt8 × Nat × Nat := s.foldl stepE ([], 0, 0)
theorem runE_take (s : List UInt8) (j : Nat) (h : j < s.length) : runE (s.take (j + 1)) = stepE (runE (s.take j)) s[j] := by
  unfold runE; rw [List.take_succ_eq_append_getElem h, List.foldl_append]; rfl
theorem runE_ok (s : List UInt8) : ∀ j, j ≤ s.length → ((runE (s.take j)).2.2 = 0 ∧ (runE (s.take j)).2.1 = 0 ∧ (runE (s.take j)).1.length % 4 = 0 ∨ (runE (s.take j)).2.2 = 2 ∧ (runE (s.take j)).2.1 < 4 ∧ (runE (s.take j)).1.length % 4 = 1 ∨ (runE (s.take j)).2.2 = 4 ∧ (runE (s.take j)).2.1 < 16 ∧ (runE (s.take j)).1.length % 4 = 2) ∧ (runE (s.take j)).1.length ≤ 2 * j
  | 0, _ => by simp [runE]
  | j + 1, h => by
    obtain ⟨h1, h2⟩ := runE_ok s j (by omega)
    rw [runE_take s j (by omega)]
    generalize runE (s.take j) = x at h1 h2 ⊢
    obtain ⟨o, b, m⟩ := x
    have hc := UInt8.toNat_lt s[j]
    simp only at h1 h2 ⊢
    unfold stepE
    simp only
    rcases h1 with h1 | h1 | h1 <;> obtain ⟨rfl, h1, h3⟩ := h1 <;> simp <;> omega
def vInt : Value → Int
  | .int _ n => n
  | _ => 0
abbrev byV (c : UInt8) : Value := .int .u8 c.toNat
theorem or8N : ∀ (b : Fin 16) (c : Fin 256), bits BinOp.or IntKind.i64 (wrap64 ((b.val : Int) * 256)) (c.val : Int) = ((b.val * 256 + c.val : Nat) : Int) := by decide +kernel
theorem or8 (b c : Nat) (hb : b < 16) (hc : c < 256) : bits BinOp.or IntKind.i64 (wrap64 ((b : Int) * 256)) (c : Int) = ((b * 256 + c : Nat) : Int) := or8N ⟨b, hb⟩ ⟨c, hc⟩
theorem or8w (b c v : Nat) (hb : b < 16) (hc : c < 256) (hv : v = b * 256 + c) : bits BinOp.or IntKind.i64 (wrap64 ((b : Int) * 256)) (c : Int) = (v : Int) := hv ▸ or8 b c hb hc
theorem or8v (b c v : Nat) (hb : b < 16) (hc : c < 256) (hv : v = b * 256 + c) : bits BinOp.or IntKind.i64 ((b : Int) * 256) (c : Int) = (v : Int) := by
  have h := or8w b c v hb hc hv
  have e : wrap64 ((b : Int) * 256) = (b : Int) * 256 := by unfold wrap64; omega
  rwa [e] at h
theorem vlt (b c v : Nat) (hb : b < 16) (hc : c < 256) (hv : v = b * 256 + c) : v < 4096 := by omega
theorem or80 (c : Nat) (hc : c < 256) : bits BinOp.or IntKind.i64 0 (c : Int) = (c : Int) := by
  have := or8 0 c (by omega) hc
  simpa [wrap64] using this
theorem andN (x n : Nat) (hx : x < 4294967296) (hn : n ≤ 8) : bits BinOp.and IntKind.i64 (x : Int) ((2 ^ n - 1 : Nat) : Int) = ((x % 2 ^ n : Nat) : Int) := by
  have h1 : 2 ^ n ≤ 2 ^ 8 := Nat.pow_le_pow_right (by omega) hn
  have h2 : x % 2 ^ n ≤ x := Nat.mod_le _ _
  unfold bits
  simp only [BitVec.toNat_and]
  have e1 : (BitVec.ofInt IntKind.i64.bits (x : Int)).toNat = x := by
    rw [BitVec.ofInt_natCast, BitVec.toNat_ofNat]; exact Nat.mod_eq_of_lt (by show x < 2 ^ 64; omega)
  have e2 : (BitVec.ofInt IntKind.i64.bits ((2 ^ n - 1 : Nat) : Int)).toNat = 2 ^ n - 1 := by
    rw [BitVec.ofInt_natCast, BitVec.toNat_ofNat]; exact Nat.mod_eq_of_lt (by show 2 ^ n - 1 < 2 ^ 64; omega)
  rw [e1, e2, Nat.and_two_pow_sub_one_eq_mod, IntWalk.i64_in _ (by omega)]
theorem a63 (x : Nat) (h : x < 4096) : bits BinOp.and IntKind.i64 (x : Int) 63 = ((x % 64 : Nat) : Int) := andN x 6 (by omega) (by omega)
theorem a15 (x : Nat) (h : x < 4096) : bits BinOp.and IntKind.i64 (x : Int) 15 = ((x % 16 : Nat) : Int) := andN x 4 (by omega) (by omega)
theorem a3 (x : Nat) (h : x < 4096) : bits BinOp.and IntKind.i64 (x : Int) 3 = ((x % 4 : Nat) : Int) := andN x 2 (by omega) (by omega)
theorem a0 (x : Nat) (h : x < 4096) : bits BinOp.and IntKind.i64 (x : Int) 0 = 0 := by
  have := andN x 0 (by omega) (by omega)
  rw [show x % 2 ^ 0 = 0 from Nat.mod_one x] at this; exact this
theorem bt_ltrN : ∀ x : Fin 64, bt (bstr b64L) x.val = ((ltr x.val).toNat : Int) := by decide +kernel
theorem m64 (x : Nat) : x % 64 < 64 := Nat.mod_lt _ (by decide)
theorem bt_ltr (x : Nat) (h : x < 64) : bt (bstr b64L) x = ((ltr x).toNat : Int) := bt_ltrN ⟨x, h⟩
theorem runE_len (s : List UInt8) : (runE s).1.length ≤ 2 * s.length := by
  have := (runE_ok s s.length (Nat.le_refl _)).2
  rwa [List.take_length] at this
/-- The end. -/
def finE (x : List UInt8 × Nat × Nat) : List UInt8 :=
  if x.2.2 = 0 then x.1 else if x.2.2 = 2 then ((x.1 ++ [ltr (x.2.1 * 16)]) ++ [61]) ++ [61] else (x.1 ++ [ltr (x.2.1 * 4)]) ++ [61]
def putS (s : List UInt8) : List UInt8 := finE (runE s)
theorem step0 (o : List UInt8) (c : UInt8) : stepE (o, 0, 0) c = (o ++ [ltr (c.toNat / 4 % 64)], c.toNat % 4, 2) := by
  unfold stepE; simp only [if_true, Nat.zero_mul, Nat.zero_add]
theorem step2 (o : List UInt8) (b v : Nat) (c : UInt8) (hv : v = b * 256 + c.toNat) : stepE (o, b, 2) c = (o ++ [ltr (v / 16 % 64)], v % 16, 4) := by subst hv; unfold stepE; rfl
theorem step4 (o : List UInt8) (b v : Nat) (c : UInt8) (hv : v = b * 256 + c.toNat) : stepE (o, b, 4) c = ((o ++ [ltr (v / 64 % 64)]) ++ [ltr (v % 64)], 0, 0) := by subst hv; unfold stepE; rfl
theorem q4 (v : Nat) (hvl : v < 4096) : bits BinOp.and IntKind.i64 ((v : Int) / 4) 63 = ((v / 4 % 64 : Nat) : Int) := by exact_mod_cast a63 (v / 4) (by omega)
theorem q16 (v : Nat) (hvl : v < 4096) : bits BinOp.and IntKind.i64 ((v : Int) / 16) 63 = ((v / 16 % 64 : Nat) : Int) := by exact_mod_cast a63 (v / 16) (by omega)
theorem q64 (v : Nat) (hvl : v < 4096) : bits BinOp.and IntKind.i64 ((v : Int) / 64) 63 = ((v / 64 % 64 : Nat) : Int) := by exact_mod_cast a63 (v / 64) (by omega)
theorem q1 (v : Nat) (hvl : v < 4096) : bits BinOp.and IntKind.i64 ((v : Int) / 1) 63 = ((v % 64 : Nat) : Int) := by rw [Int.ediv_one]; exact a63 v hvl
theorem e1L (o : List UInt8) (x : UInt8) (r : Nat) (h : o.length % 4 = r) : (o ++ [x]).length % 4 = (r + 1) % 4 := by simp; omega
theorem clL (o l : List UInt8) (h : (o.map byV).length + 10 ≤ 140737488355328) (hl : l.length ≤ o.length + 5) : (l.map byV).length + 1 ≤ 140737488355328 := by simp at h ⊢; omega
theorem b16 (b : Nat) (h : b < 4) : b * 16 < 64 := by omega
theorem b4 (b : Nat) (h : b < 16) : b * 4 < 64 := by omega
theorem tm4 (n r : Nat) (h : n % 4 = r) : (n : Int).tmod 4 = (r : Int) := by
  rw [Int.tmod_eq_emod_of_nonneg (by omega)]; omega
theorem len_b (B b : Nat) (bs : List Value) (w : World) (h : IsB B b bs w) {n : Nat} (hn : RowKit.Hid (bs.length = n)) :
    Calls Tryd.prog 10 #[.pointer (some ⟨b, 0, none⟩)] w fun e w' => e = .returned (.int .i64 n) ∧ w' = w := by
  have hn : bs.length = n := hn
  subst hn; exact Tryd.Builder_Len B b bs w h
theorem sh16N : ∀ b : Fin 4, wrap64 ((b.val : Int) * 16) = ((b.val * 16 % 64 : Nat) : Int) := by decide +kernel
theorem sh16 (b : Nat) (h : b < 4) : wrap64 ((b : Int) * 16) = ((b * 16 % 64 : Nat) : Int) := sh16N ⟨b, h⟩
theorem sh4N : ∀ b : Fin 16, wrap64 ((b.val : Int) * 4) = ((b.val * 4 % 64 : Nat) : Int) := by decide +kernel
theorem sh4 (b : Nat) (h : b < 16) : wrap64 ((b : Int) * 4) = ((b * 4 % 64 : Nat) : Int) := sh4N ⟨b, h⟩
theorem m4b (n : Nat) (h : n % 4 = 1) : ((n + 1 : Nat) : Int) % 4 = 2 := by omega
theorem m4c (n : Nat) (h : n % 4 = 1) : ((n + 1 + 1 : Nat) : Int) % 4 = 3 := by omega
theorem m4d (n : Nat) (h : n % 4 = 1) : ((n + 1 + 1 + 1 : Nat) : Int) % 4 = 0 := by omega
theorem m4e (n : Nat) (h : n % 4 = 2) : ((n + 1 : Nat) : Int) % 4 = 3 := by omega
theorem m4f (n : Nat) (h : n % 4 = 2) : ((n + 1 + 1 : Nat) : Int) % 4 = 0 := by omega
set_option maxHeartbeats 8000000 in
set_option maxRecDepth 100000 in
theorem put_walk (s : List UInt8) (w : World) (hl : s.length ≤ 1000000) :
    Calls Tryd.prog 6 #[.string (bstr s)] w fun e w' => e = .returned (.string (bstr (putS s))) ∧ Below w.heap.size w w' := by
  go_enter Tryd.func6, Tryd.ntmps6
  go_wp2_with fail
  go_loopw [4, 5, 9] (fun bi ma i wr => ∃ (k : Nat), k ≤ s.length ∧ i = .int .i64 k ∧ bi = .int .i64 (runE (s.take k)).2.1 ∧ ma = .int .i64 (runE (s.take k)).2.2 ∧ IsB w.heap.size w.heap.size ((runE (s.take k)).1.map byV) wr ∧ Below w.heap.size w wr) (fun _ _ i _ => s.length - (vInt i).toNat)
  case atStart =>
    refine ⟨0, by omega, rfl, rfl, rfl, .inl ⟨Nat.le_refl _, .slice none 0 0, heap_alloc_new _ _, World.ownsRow_nil _ _ _ _, by simp [Value.ownBlock]⟩, (Below.refl _ w).alloc (Nat.le_refl _) _⟩
  case round =>
    obtain ⟨k, hk, rfl, rfl, rfl, hB, hw⟩ := hrel
    by_cases hlt : k < s.length
    · obtain ⟨hk1, hk2⟩ := runE_ok s k hk
      have hst := runE_take s k hlt
      generalize runE (s.take k) = x at hk1 hk2 hB hst ⊢
      obtain ⟨o, b, m⟩ := x
      simp only at hk1 hk2 hB
      have hbk : (bstr s)[k]'(by rw [bstr_size]; exact hlt) = s[k] := by simp [bstr]; rfl
      have hc := UInt8.toNat_lt s[k]
      generalize s[k] = c at hbk hc hst
      have hol : (o.map byV).length + 1 ≤ 140737488355328 := by simp at hk2 ⊢; omega
      have hwz := hw.size
      rcases hk1 with ⟨rfl, rfl, hm4⟩ | ⟨rfl, hb, hm4⟩ | ⟨rfl, hb, hm4⟩
      · have e8 := or80 c.toNat hc
        have hvl : c.toNat < 4096 := by omega
        have e63 := q4 c.toNat (by omega)
        have ebt := bt_ltr (c.toNat / 4 % 64) (m64 _)
        have emk := a3 c.toNat hvl
        have hs := step0 o c
        rw [hs] at hst
        go_wp2_with fail
        refine wp_loop_rounds 2 ?_
        rw [rounds_succ]
        go_wp2_with (first | ((with_reducible refine wp_index_str (c.toNat / 4 % 64) 9 _ _ rfl rfl Tryd.underlying9 _ (bstr b64L) rfl rfl ?_ ?_); focus (rw [bstr_size]; exact m64 _)) | (go_at_call 9; refine (writeByte_b _ _ _ _ _ hB ?cl ?cb).mono ?_))
        case cl => exact hol
        case cb => exact hwz
        rintro e w1 ⟨rfl, hB1, hw1⟩
        go_wp2_with fail
        rw [rounds_succ]
        go_wp2_with fail
        go_roundw
        case rel =>
          refine ⟨k + 1, by omega, by go_num, ?_, ?_, ?_, hw.trans hw1⟩
          · rw [hst]; first | rfl | simp
          · rw [hst]; rfl
          · rw [hst]; exact .inr (by simpa using hB1)
        case measure => simp [vInt]; omega
      · obtain ⟨v, hv⟩ : ∃ v, v = b * 256 + c.toNat := ⟨_, rfl⟩
        have hb16 : b < 16 := Nat.lt_of_lt_of_le hb (by decide)
        have e8 := or8w b c.toNat v hb16 hc hv
        have e8v := or8v b c.toNat v hb16 hc hv
        have hvl : v < 4096 := vlt b c.toNat v hb16 hc hv
        have e63 := q16 v hvl
        have ebt := bt_ltr (v / 16 % 64) (m64 _)
        have emk := a15 v hvl
        have hs := step2 o b v c hv
        rw [hs] at hst
        clear hs hv
        go_wp2_with fail
        refine wp_loop_rounds 2 ?_
        rw [rounds_succ]
        go_wp2_with (first | ((with_reducible refine wp_index_str (v / 16 % 64) 9 _ _ rfl rfl Tryd.underlying9 _ (bstr b64L) rfl rfl ?_ ?_); focus (rw [bstr_size]; exact m64 _)) | (go_at_call 9; refine (writeByte_b _ _ _ _ _ hB ?cl ?cb).mono ?_))
        case cl => exact hol
        case cb => exact hwz
        rintro e w1 ⟨rfl, hB1, hw1⟩
        go_wp2_with fail
        rw [rounds_succ]
        go_wp2_with fail
        go_roundw
        case rel =>
          refine ⟨k + 1, by omega, by go_num, ?_, ?_, ?_, hw.trans hw1⟩
          · rw [hst]; first | rfl | simp
          · rw [hst]; rfl
          · rw [hst]; exact .inr (by simpa using hB1)
        case measure => simp [vInt]; omega
      · obtain ⟨v, hv⟩ : ∃ v, v = b * 256 + c.toNat := ⟨_, rfl⟩
        have hb16 : b < 16 := Nat.lt_of_lt_of_le hb (by decide)
        have e8 := or8w b c.toNat v hb16 hc hv
        have e8v := or8v b c.toNat v hb16 hc hv
        have hvl : v < 4096 := vlt b c.toNat v hb16 hc hv
        have e63 := q64 v hvl
        have ebt := bt_ltr (v / 64 % 64) (m64 _)
        have e63b := a63 v hvl
        have e63c := q1 v hvl
        have ebt2 := bt_ltr (v % 64) (m64 _)
        have emk := a0 v hvl
        have hs := step4 o b v c hv
        rw [hs] at hst
        clear hs hv
        go_wp2_with fail
        refine wp_loop_rounds 3 ?_
        rw [rounds_succ]
        go_wp2_with (first | ((with_reducible refine wp_index_str (v / 64 % 64) 9 _ _ rfl rfl Tryd.underlying9 _ (bstr b64L) rfl rfl ?_ ?_); focus (rw [bstr_size]; exact m64 _)) | (go_at_call 9; refine (writeByte_b _ _ _ _ _ hB ?cl ?cb).mono ?_))
        case cl => exact hol
        case cb => exact hwz
        rintro e w1 ⟨rfl, hB1, hw1⟩
        go_wp2_with fail
        rw [rounds_succ]
        go_wp2_with (first | ((with_reducible refine wp_index_str (v % 64) 9 _ _ rfl rfl Tryd.underlying9 _ (bstr b64L) rfl rfl ?_ ?_); focus (rw [bstr_size]; exact m64 _)) | (go_at_call 9; refine (writeByte_b _ _ _ _ _ (.inr hB1) ?cl ?cb).mono ?_))
        case cl => simp at hk2 ⊢; omega
        case cb => have := hw1.size; omega
        rintro e w2 ⟨rfl, hB2, hw2⟩
        go_wp2_with fail
        rw [rounds_succ]
        go_wp2_with fail
        go_roundw
        case rel =>
          refine ⟨k + 1, by omega, by go_num, ?_, ?_, ?_, (hw.trans hw1).trans hw2⟩
          · rw [hst]; first | rfl | simp
          · rw [hst]; rfl
          · rw [hst]; exact .inr (by simpa using hB2)
        case measure => simp [vInt]; omega
    · have hks : k = s.length := by omega
      subst hks
      rw [List.take_length] at hB ⊢
      obtain ⟨hk1, hk2⟩ := runE_ok s s.length hk
      rw [List.take_length] at hk1 hk2
      have hP : Hid (putS s = finE (runE s)) := Lib.hid rfl
      generalize runE s = x at hk1 hk2 hB hP ⊢
      obtain ⟨o, b, m⟩ := x
      simp only at hk1 hk2 hB
      have hol : (o.map byV).length + 10 ≤ 140737488355328 := by simp at hk2 ⊢; omega
      have hwz := hw.size
      rcases hk1 with ⟨rfl, rfl, hm4⟩ | ⟨rfl, hb, hm4⟩ | ⟨rfl, hb, hm4⟩
      · have hn0 : (o.map byV).length = o.length := List.length_map _
        have hn1 : (o.map byV).length = o.length := List.length_map _
        obtain ⟨n0, hq0⟩ : ∃ n, o.length = n := ⟨_, rfl⟩
        have ht0 : ((n0 : Int).tmod 4) = 0 := tm4 _ 0 (by rw [← hq0]; exact hm4)
        rw [hq0] at hn1
        have Hn0 := Lib.hid hn1
        clear hn1 hq0
        clear hm4 hn0
        go_wp2_with fail
        refine wp_loop_rounds 1 ?_
        rw [rounds_succ]
        go_wp2_with (go_at_call 10; refine (len_b _ _ _ _ hB Hn0).mono ?_)
        rintro e wl0 ⟨rfl, rfl⟩
        go_wp2_with (go_at_call 11; refine (Tryd.Builder_String_any _ _ (o) _ hB ?cb).mono ?_)
        case cb => exact hwz
        rintro e ws ⟨rfl, hws⟩
        go_wp2_with fail
        go_ret
        exact ⟨by rw [show putS s = o from hP]; first | rfl | (simp [bstr]; done), hw.trans hws⟩
      · have hn0 : (o.map byV).length = o.length := List.length_map _
        have hn1 : ((o ++ [ltr (b * 16)]).map byV).length = (o ++ [ltr (b * 16)]).length := List.length_map _
        obtain ⟨n0, hq0⟩ : ∃ n, (o ++ [ltr (b * 16)]).length = n := ⟨_, rfl⟩
        have ht0 : ((n0 : Int).tmod 4) = 2 := tm4 _ 2 (by rw [← hq0]; exact (e1L _ _ _ hm4))
        rw [hq0] at hn1
        have Hn0 := Lib.hid hn1
        clear hn1 hq0
        have hn2 : (((o ++ [ltr (b * 16)]) ++ [61]).map byV).length = ((o ++ [ltr (b * 16)]) ++ [61]).length := List.length_map _
        obtain ⟨n1, hq1⟩ : ∃ n, ((o ++ [ltr (b * 16)]) ++ [61]).length = n := ⟨_, rfl⟩
        have ht1 : ((n1 : Int).tmod 4) = 3 := tm4 _ 3 (by rw [← hq1]; exact (e1L _ _ _ (e1L _ _ _ hm4)))
        rw [hq1] at hn2
        have Hn1 := Lib.hid hn2
        clear hn2 hq1
        have hn3 : ((((o ++ [ltr (b * 16)]) ++ [61]) ++ [61]).map byV).length = (((o ++ [ltr (b * 16)]) ++ [61]) ++ [61]).length := List.length_map _
        obtain ⟨n2, hq2⟩ : ∃ n, (((o ++ [ltr (b * 16)]) ++ [61]) ++ [61]).length = n := ⟨_, rfl⟩
        have ht2 : ((n2 : Int).tmod 4) = 0 := tm4 _ 0 (by rw [← hq2]; exact (e1L _ _ _ (e1L _ _ _ (e1L _ _ _ hm4))))
        rw [hq2] at hn3
        have Hn2 := Lib.hid hn3
        clear hn3 hq2
        have ebt := bt_ltr (b * 16) (b16 _ hb)
        clear hm4 hn0
        go_wp2_with (first | ((with_reducible refine wp_index_str (b * 16) 9 _ _ rfl rfl Tryd.underlying9 _ (bstr b64L) rfl rfl ?_ ?_); focus (rw [bstr_size]; first | exact b16 _ hb | exact b4 _ hb)) | (go_at_call 9; refine (writeByte_b _ _ (o.map byV) _ _ hB ?cl ?cb).mono ?_))
        case cl => exact clL o o hol (by simp)
        case cb => exact hwz
        rintro e w0 ⟨rfl, hB0, hw0⟩
        have hB0 : IsB w.heap.size w.heap.size ((o ++ [ltr (b * 16)]).map byV) w0 := .inr (by simpa using hB0)
        have hw0 := hw.trans hw0
        have hz0 := hw0.size
        go_wp2_with fail
        refine wp_loop_rounds 3 ?_
        rw [rounds_succ]
        go_wp2_with (go_at_call 10; refine (len_b _ _ _ _ hB0 Hn0).mono ?_)
        rintro e wl0 ⟨rfl, rfl⟩
        go_wp2_with (go_at_call 9; refine (writeByte_b _ _ ((o ++ [ltr (b * 16)]).map byV) _ _ hB0 ?cl ?cb).mono ?_)
        case cl => exact clL o _ hol (by simp)
        case cb => exact hz0
        rintro e wp0 ⟨rfl, hC0, hv0⟩
        have hC0 : IsB w.heap.size w.heap.size (((o ++ [ltr (b * 16)]) ++ [61]).map byV) wp0 := .inr (by rw [List.map_append]; exact hC0)
        have hv0 := hw0.trans hv0
        have hy0 := hv0.size
        go_wp2_with fail
        rw [rounds_succ]
        go_wp2_with (go_at_call 10; refine (len_b _ _ _ _ hC0 Hn1).mono ?_)
        rintro e wl1 ⟨rfl, rfl⟩
        go_wp2_with (go_at_call 9; refine (writeByte_b _ _ (((o ++ [ltr (b * 16)]) ++ [61]).map byV) _ _ hC0 ?cl ?cb).mono ?_)
        case cl => exact clL o _ hol (by simp)
        case cb => exact hy0
        rintro e wp1 ⟨rfl, hC1, hv1⟩
        have hC1 : IsB w.heap.size w.heap.size ((((o ++ [ltr (b * 16)]) ++ [61]) ++ [61]).map byV) wp1 := .inr (by rw [List.map_append]; exact hC1)
        have hv1 := hv0.trans hv1
        have hy1 := hv1.size
        go_wp2_with fail
        rw [rounds_succ]
        go_wp2_with (go_at_call 10; refine (len_b _ _ _ _ hC1 Hn2).mono ?_)
        rintro e wl2 ⟨rfl, rfl⟩
        go_wp2_with (go_at_call 11; refine (Tryd.Builder_String_any _ _ ((((o ++ [ltr (b * 16)]) ++ [61]) ++ [61])) _ hC1 ?cb).mono ?_)
        case cb => exact hy1
        rintro e ws ⟨rfl, hws⟩
        go_wp2_with fail
        go_ret
        exact ⟨by rw [show putS s = (((o ++ [ltr (b * 16)]) ++ [61]) ++ [61]) from hP]; first | rfl | (simp [bstr]; done), hv1.trans hws⟩
      · have hn0 : (o.map byV).length = o.length := List.length_map _
        have hn1 : ((o ++ [ltr (b * 4)]).map byV).length = (o ++ [ltr (b * 4)]).length := List.length_map _
        obtain ⟨n0, hq0⟩ : ∃ n, (o ++ [ltr (b * 4)]).length = n := ⟨_, rfl⟩
        have ht0 : ((n0 : Int).tmod 4) = 3 := tm4 _ 3 (by rw [← hq0]; exact (e1L _ _ _ hm4))
        rw [hq0] at hn1
        have Hn0 := Lib.hid hn1
        clear hn1 hq0
        have hn2 : (((o ++ [ltr (b * 4)]) ++ [61]).map byV).length = ((o ++ [ltr (b * 4)]) ++ [61]).length := List.length_map _
        obtain ⟨n1, hq1⟩ : ∃ n, ((o ++ [ltr (b * 4)]) ++ [61]).length = n := ⟨_, rfl⟩
        have ht1 : ((n1 : Int).tmod 4) = 0 := tm4 _ 0 (by rw [← hq1]; exact (e1L _ _ _ (e1L _ _ _ hm4)))
        rw [hq1] at hn2
        have Hn1 := Lib.hid hn2
        clear hn2 hq1
        have ebt := bt_ltr (b * 4) (b4 _ hb)
        clear hm4 hn0
        go_wp2_with (first | ((with_reducible refine wp_index_str (b * 4) 9 _ _ rfl rfl Tryd.underlying9 _ (bstr b64L) rfl rfl ?_ ?_); focus (rw [bstr_size]; first | exact b16 _ hb | exact b4 _ hb)) | (go_at_call 9; refine (writeByte_b _ _ (o.map byV) _ _ hB ?cl ?cb).mono ?_))
        case cl => exact clL o o hol (by simp)
        case cb => exact hwz
        rintro e w0 ⟨rfl, hB0, hw0⟩
        have hB0 : IsB w.heap.size w.heap.size ((o ++ [ltr (b * 4)]).map byV) w0 := .inr (by simpa using hB0)
        have hw0 := hw.trans hw0
        have hz0 := hw0.size
        go_wp2_with fail
        refine wp_loop_rounds 2 ?_
        rw [rounds_succ]
        go_wp2_with (go_at_call 10; refine (len_b _ _ _ _ hB0 Hn0).mono ?_)
        rintro e wl0 ⟨rfl, rfl⟩
        go_wp2_with (go_at_call 9; refine (writeByte_b _ _ ((o ++ [ltr (b * 4)]).map byV) _ _ hB0 ?cl ?cb).mono ?_)
        case cl => exact clL o _ hol (by simp)
        case cb => exact hz0
        rintro e wp0 ⟨rfl, hC0, hv0⟩
        have hC0 : IsB w.heap.size w.heap.size (((o ++ [ltr (b * 4)]) ++ [61]).map byV) wp0 := .inr (by rw [List.map_append]; exact hC0)
        have hv0 := hw0.trans hv0
        have hy0 := hv0.size
        go_wp2_with fail
        rw [rounds_succ]
        go_wp2_with (go_at_call 10; refine (len_b _ _ _ _ hC0 Hn1).mono ?_)
        rintro e wl1 ⟨rfl, rfl⟩
        go_wp2_with (go_at_call 11; refine (Tryd.Builder_String_any _ _ (((o ++ [ltr (b * 4)]) ++ [61])) _ hC0 ?cb).mono ?_)
        case cb => exact hy0
        rintro e ws ⟨rfl, hws⟩
        go_wp2_with fail
        go_ret
        exact ⟨by rw [show putS s = ((o ++ [ltr (b * 4)]) ++ [61]) from hP]; first | rfl | (simp [bstr]; done), hv0.trans hws⟩
theorem put33_c (s : List UInt8) (hl : s.length ≤ 1000000) : PCalls Tryd.prog 6 [.x (.str s)] (.x (.str (putS s))) := by
  intro w st vs hst hvl
  obtain ⟨hsz, hv⟩ := hvl
  obtain ⟨v0, rfl⟩ : ∃ v0, vs = #[v0] := by
    obtain ⟨vl⟩ := vs
    match vl, hsz with
    | [a], _ => exact ⟨a, rfl⟩
  have h0 := hv 0 _ v0 rfl rfl
  cases h0 with
  | x h0 =>
  cases h0 with
  | str _ =>
  refine (put_walk s w hl).mono ?_
  rintro e w' ⟨rfl, hb⟩
  exact ⟨_, st, rfl, ⟨hb.os, hb.tape, hb.output, hb.size, fun k hk _ => hb.block k hk⟩, fun _ _ h => h, fun _ _ h => .inl h, .x (.str _)⟩
def put33G : List D → Option (Bool × D)
  | [.x (.str s)] => some (decide (s.length ≤ 1000000), .x (.str (putS s)))
  | _ => none
theorem put33G_ok : ∀ args r, put33G args = some (true, r) → PCalls Tryd.prog 6 args r := by
  intro args r h
  unfold put33G at h
  split at h
  · rename_i s
    simp only [Option.some.injEq, Prod.mk.injEq, Bool.and_eq_true, decide_eq_true_eq, true_and] at h
    obtain ⟨h1, rfl⟩ := h
    exact put33_c s h1
  · cases h
theorem put33_enters : Go.Ab.Enters Tryd.prog 6 := enters_of Tryd.func6 (by kernel_rfl) rfl
end Go.Proofs.YtcffpndhodhncaaDoor
end
section
/- Base: a letter's number; the law's letters. -/
set_option linter.unusedSimpArgs false
set_option linter.unusedVariables false
namespace Go.Proofs.YtcffpndhodhncaaDoor
open Go.RowKit Go.Bo Go.Ab

def nIdx (c : UInt8) : Nat := b64L.findIdx fun x => x == c
def nVal (c : UInt8) : Nat := if nIdx c < 64 then nIdx c else 0
theorem b64L_len : b64L.length = 64 := rfl
theorem nIdx_at (c : UInt8) (j : Nat) (hj : j < 64) (h : ∀ x ∈ b64L.take j, x ≠ c) (he : b64L.getD j 0 = c) : nIdx c = j := by
  have hjl : j < b64L.length := by rw [b64L_len]; exact hj
  have e : b64L.getD j 0 = b64L[j] := by simp [hjl]
  rw [e] at he
  unfold nIdx
  rw [List.findIdx_eq hjl]
  refine ⟨by simp [he], fun i hi => ?_⟩
  have := h b64L[i] (by rw [List.mem_take_iff_getElem]; exact ⟨i, by omega, rfl⟩)
  simpa using this
theorem nIdx_no (c : UInt8) (h : ∀ x ∈ b64L, x ≠ c) : nIdx c = 64 := by
  unfold nIdx
  rw [← b64L_len, List.findIdx_eq_length]
  intro x hx
  simpa using h x hx
theorem number_c (c : UInt8) : PCalls Tryd.prog 13 [.x (.int .u8 c.toNat)] (.tup [.x (.int .i64 (nVal c : Nat)), .x (.bool (decide (nIdx c < 64)))]) := by
  refine FCalls.pure (fcallsG (fz := true) G_ok (p := i13) rfl _ (Nat.le_of_ble_eq_true rfl) _ (fun C0 E0 => ?_)) rfl
  dsimp only [i13, argsφ]
  have uu := trivial
  refine WI.seq ?_
  refine WI.regB noTabs_ok [0] ?_
  iterate 2 refine oS ?_
  refine oN ?_
  refine thenQ_normal ?_
  refine WI.seq ?_
  refine WI.seq ?_
  refine WI.regB noTabs_ok [0, 5] ?_
  refine oS ?_
  refine oN ?_
  refine thenQ_normal ?_
  refine WI.block ?_
  refine WI.loop (fun φ os => ∃ (j : Nat), φ = [(0, .x (.int .u8 c.toNat)), (5, .x (.int .i64 j))] ∧ os = [] ∧ j ≤ 64 ∧ ∀ x ∈ b64L.take j, x ≠ c) (down 64 5) ?_ (fun φ os hI => ?_)
  · exact ⟨0, rfl, rfl, by omega, by simp⟩
  · obtain ⟨j, rfl, rfl, hj, hall⟩ := hI
    refine WI.seq ?_
    refine WI.regB noTabs_ok [0, 5, 6] ?_
    refine oG ?_
    refine oN ?_
    refine thenQ_normal ?_
    refine WI.seq ?_
    refine WI.cond (b := _) rfl rfl (fun h0 => ?_) (fun h0 => ?_)
    · try simp only [zB] at h0
      refine WI.skip ?_
      refine thenQ_normal ?_
      refine WI.seq ?_
      refine WI.block ?_
      refine WI.seq ?_
      have hj4 : j < 64 := by omega
      have hgd : b64L.getD j 0 = b64L[j]'(by rw [b64L_len]; exact hj4) := by simp [show j < b64L.length by rw [b64L_len]; exact hj4]
      refine WI.regB noTabs_ok [0, 4, 5] ?_
      iterate 2 refine oS ?_
      refine oN ?_
      refine thenQ_normal ?_
      refine WI.seq ?_
      refine WI.regB noTabs_ok [0, 4, 5, 11] ?_
      refine oS ?_
      refine oG ?_
      refine oS ?_
      refine oG ?_
      refine oN ?_
      refine thenQ_normal ?_
      refine WI.cond (b := _) rfl rfl (fun h1 => ?_) (fun h1 => ?_)
      · try simp only [zB] at h1
        refine WI.seq ?_
        refine WI.regB noTabs_ok [2, 3] ?_
        iterate 3 refine oS ?_
        refine oN ?_
        refine thenQ_normal ?_
        refine WI.ret ?_
        refine blockQ_ret ?_
        refine thenQ_ret ?_
        refine thenQ_ret ?_
        refine blockQ_ret ?_
        refine thenQ_ret ?_
        first | refine lfR ?_ | refine lfR2 ?_
        have hc : b64L.getD j 0 = c := UInt8.toNat_inj.1 (by have : ((b64L.getD j 0).toNat : Int) = c.toNat := h1; omega)
        have hi := nIdx_at c j hj4 hall hc
        rw [nVal, hi, if_pos hj4, decide_eq_true hj4] -- leaf 0
      · try simp only [zB] at h1
        refine WI.skip ?_
        refine blockQ_normal ?_
        refine thenQ_normal ?_
        refine WI.regB noTabs_ok [0, 5] ?_
        refine oG ?_
        refine oS ?_
        refine oN ?_
        refine thenQ_normal ?_
        exact ⟨⟨j + 1, rfl, rfl, by omega, by rw [List.take_succ_eq_append_getElem (show j < b64L.length by rw [b64L_len]; omega)]; simp only [List.mem_append, List.mem_singleton]; rintro x (hx | rfl); exact hall x hx; exact fun e => h1 (by rw [← e]; exact hgd ▸ rfl)⟩, by simp [down, Ab.get, D.val, intOf?]; omega⟩
    · try simp only [zB] at h0
      refine WI.exit ?_
      refine thenQ_exit ?_
      refine thenQ_exit ?_
      refine blockQ_hit ?_
      refine thenQ_normal ?_
      refine WI.seq ?_
      refine WI.regB noTabs_ok [2, 3] ?_
      iterate 2 refine oS ?_
      refine oN ?_
      refine thenQ_normal ?_
      refine WI.ret ?_
      first | refine lfR ?_ | refine lfR2 ?_
      have hi := nIdx_no c (by rw [List.take_of_length_le (by rw [b64L_len]; omega)] at hall; exact hall)
      rw [nVal, hi]; rfl -- leaf 1
def numberG : List D → Option (Bool × D)
  | [.x (.int .u8 n)] => some (decide (n = ((UInt8.ofNat n.toNat).toNat : Int)), .tup [.x (.int .i64 (nVal (UInt8.ofNat n.toNat) : Nat)), .x (.bool (decide (nIdx (UInt8.ofNat n.toNat) < 64)))])
  | _ => none
theorem numberG_ok : ∀ args r, numberG args = some (true, r) → PCalls Tryd.prog 13 args r := by
  intro args r h
  unfold numberG at h
  split at h
  · rename_i n
    simp only [Option.some.injEq, Prod.mk.injEq, Bool.and_eq_true, decide_eq_true_eq, true_and] at h
    obtain ⟨h1, rfl⟩ := h
    exact (by have := number_c (UInt8.ofNat n.toNat); rwa [← h1] at this)
  · cases h
def bitS (s : List UInt8) (k : Nat) : Nat := if k < 8 * s.length then (s.getD (k / 8) 0).toNat / 2 ^ (7 - k % 8) % 2 else 0
def nvS (s : List UInt8) (i : Nat) : Nat → Nat
  | 0 => 0
  | t + 1 => nvS s i t * 2 + bitS s (i + t)
theorem bitS_lt (s : List UInt8) (k : Nat) : bitS s k < 2 := by unfold bitS; split <;> omega
theorem nvS_lt (s : List UInt8) (i : Nat) : ∀ t, nvS s i t < 2 ^ t
  | 0 => by simp [nvS]
  | t + 1 => by
    have := nvS_lt s i t
    have := bitS_lt s (i + t)
    rw [nvS, Nat.pow_succ]; omega
theorem nvS_lt6 (s : List UInt8) (i t : Nat) (h : t ≤ 6) : nvS s i t < 64 := Nat.lt_of_lt_of_le (nvS_lt s i t) (Nat.pow_le_pow_right (by omega) h)
def padS (l : List UInt8) : List UInt8 := l ++ List.replicate ((4 - l.length % 4) % 4) 61
def letS (s : List UInt8) (g : Nat) : List UInt8 := (List.range g).map fun i => ltr (nvS s (6 * i) 6)
theorem letS_len (s : List UInt8) (g : Nat) : (letS s g).length = g := by simp [letS]
theorem letS_succ (s : List UInt8) (g : Nat) : letS s (g + 1) = letS s g ++ [ltr (nvS s (6 * g) 6)] := by simp [letS, List.range_succ]
theorem fbit (c p : Nat) : ((c : Int).fdiv (2 ^ p)).tmod 2 = ((c / 2 ^ p % 2 : Nat) : Int) := by
  have e : ((2 : Int) ^ p) = ((2 ^ p : Nat) : Int) := by simp
  rw [e]
  have : (c : Int).fdiv ((2 ^ p : Nat) : Int) = ((c / 2 ^ p : Nat) : Int) := by
    rw [Int.fdiv_eq_ediv_of_nonneg _ (Int.natCast_nonneg _)]; rfl
  rw [this]; rfl
theorem slc1 (n : Nat) (h : n < 64) : (b64L.take (n + 1)).drop n = [ltr n] := by
  have hl : n < b64L.length := by rw [b64L_len]; exact h
  have e : ltr n = b64L[n] := by unfold ltr; simp [hl]
  rw [e, List.take_succ_eq_append_getElem hl, List.drop_append]
  simp [Nat.min_eq_left (Nat.le_of_lt hl), b64L_len, Nat.le_of_lt h]
theorem padmore (n p : Nat) (h : p ≤ (4 - n % 4) % 4) (h2 : ((n + p : Nat) : Int).tmod 4 > 0) : p + 1 ≤ (4 - n % 4) % 4 := by
  have e : ((n + p : Nat) : Int).tmod 4 = (((n + p) % 4 : Nat) : Int) := rfl
  rw [e] at h2; omega
theorem padend (n p : Nat) (h : p ≤ (4 - n % 4) % 4) (h2 : ¬ ((n + p : Nat) : Int).tmod 4 > 0) : (4 - n % 4) % 4 = p := by
  have e : ((n + p : Nat) : Int).tmod 4 = (((n + p) % 4 : Nat) : Int) := rfl
  rw [e] at h2; omega
theorem put33r_c (s : List UInt8) (hl : s.length ≤ 1000000) : PCalls Tryd.prog 7 [.x (.str s)] (.x (.str (padS (letS s ((8 * s.length + 5) / 6))))) := by
  have hL := letS_len s ((8 * s.length + 5) / 6)
  refine FCalls.pure (fcallsG (fz := true) G_ok (p := i7) rfl _ (Nat.le_of_ble_eq_true rfl) _ (fun C0 E0 => ?_)) rfl
  dsimp only [i7, argsφ]
  have uu := trivial
  refine WI.seq ?_
  refine WI.regB noTabs_ok [0] ?_
  refine oS ?_
  refine oN ?_
  refine thenQ_normal ?_
  refine WI.seq ?_
  refine WI.regB noTabs_ok [0, 3] ?_
  refine oS ?_
  refine oN ?_
  refine thenQ_normal ?_
  refine WI.seq ?_
  refine WI.regB noTabs_ok [0, 3, 4] ?_
  refine oS ?_
  refine oN ?_
  refine thenQ_normal ?_
  refine WI.seq ?_
  refine WI.seq ?_
  refine WI.regB noTabs_ok [0, 3, 4, 5] ?_
  refine oS ?_
  refine oN ?_
  refine thenQ_normal ?_
  refine WI.block ?_
  refine WI.loop (fun φ os => ∃ (g : Nat), φ = [(0, .x (.str s)), (3, .x (.str b64L)), (4, .x (.str (letS s g))), (5, .x (.int .i64 (6 * g : Nat)))] ∧ os = [] ∧ g ≤ (8 * s.length + 5) / 6) (down (8 * s.length + 10) 5) ?_ (fun φ os hI => ?_)
  · exact ⟨0, rfl, rfl, by omega⟩
  · obtain ⟨g, rfl, rfl, hg⟩ := hI
    refine WI.seq ?_
    refine WI.seq ?_
    refine WI.regB noTabs_ok [0, 3, 4, 5, 12] ?_
    iterate 2 refine oS ?_
    iterate 3 refine oG (hok := by first | with_reducible rfl | omega | (exact decide_eq_true (by omega)) | (rw [Bool.and_eq_true]; constructor <;> exact decide_eq_true (by omega)) | (exact decide_eq_true (by simp only [List.length_append, List.length_cons, List.length_nil, List.length_replicate]; omega)) | (simp; done) | (simp; omega) | rfl) ?_
    refine oN ?_
    refine thenQ_normal ?_
    refine WI.cond (b := _) rfl rfl (fun h0 => ?_) (fun h0 => ?_)
    · try simp only [zB] at h0
      refine WI.skip ?_
      refine thenQ_normal ?_
      refine WI.seq ?_
      refine WI.block ?_
      refine WI.seq ?_
      refine WI.regB noTabs_ok [0, 3, 4, 5, 6] ?_
      refine oS ?_
      refine oN ?_
      refine thenQ_normal ?_
      refine WI.seq ?_
      refine WI.seq ?_
      refine WI.regB noTabs_ok [0, 3, 4, 5, 6, 7] ?_
      iterate 2 refine oS ?_
      refine oN ?_
      refine thenQ_normal ?_
      refine WI.block ?_
      have hg8 : 6 * g < 8 * s.length := by omega
      refine WI.loop (fun φ os => ∃ (t : Nat), φ = [(0, .x (.str s)), (3, .x (.str b64L)), (4, .x (.str (letS s g))), (5, .x (.int .i64 (6 * g : Nat))), (6, .x (.int .i64 (nvS s (6 * g) t : Nat))), (7, .x (.int .i64 (6 * g + t : Nat)))] ∧ os = [] ∧ t ≤ 6) (down (6 * g + 6) 7) ?_ (fun φ os hI => ?_)
      · exact ⟨0, rfl, rfl, by omega⟩
      · obtain ⟨t, rfl, rfl, ht⟩ := hI
        refine WI.seq ?_
        refine WI.seq ?_
        have hn6 := nvS_lt6 s (6 * g) t ht
        refine WI.regB noTabs_ok [0, 3, 4, 5, 6, 7, 19] ?_
        iterate 2 refine oS ?_
        iterate 2 refine oG (hok := by first | with_reducible rfl | omega | (exact decide_eq_true (by omega)) | (rw [Bool.and_eq_true]; constructor <;> exact decide_eq_true (by omega)) | (exact decide_eq_true (by simp only [List.length_append, List.length_cons, List.length_nil, List.length_replicate]; omega)) | (simp; done) | (simp; omega) | rfl) ?_
        refine oN ?_
        refine thenQ_normal ?_
        refine WI.cond (b := _) rfl rfl (fun h1 => ?_) (fun h1 => ?_)
        · try simp only [zB] at h1
          refine WI.skip ?_
          refine thenQ_normal ?_
          refine WI.seq ?_
          refine WI.block ?_
          refine WI.seq ?_
          refine WI.regB noTabs_ok [0, 3, 4, 5, 6, 7] ?_
          refine oS ?_
          refine oG (hok := by first | with_reducible rfl | omega | (exact decide_eq_true (by omega)) | (rw [Bool.and_eq_true]; constructor <;> exact decide_eq_true (by omega)) | (exact decide_eq_true (by simp only [List.length_append, List.length_cons, List.length_nil, List.length_replicate]; omega)) | (simp; done) | (simp; omega) | rfl) ?_
          refine oS ?_
          refine oN ?_
          refine thenQ_normal ?_
          refine WI.seq ?_
          refine WI.regB noTabs_ok [0, 3, 4, 5, 6, 7, 28] ?_
          iterate 2 refine oS ?_
          iterate 3 refine oG (hok := by first | with_reducible rfl | omega | (exact decide_eq_true (by omega)) | (rw [Bool.and_eq_true]; constructor <;> exact decide_eq_true (by omega)) | (exact decide_eq_true (by simp only [List.length_append, List.length_cons, List.length_nil, List.length_replicate]; omega)) | (simp; done) | (simp; omega) | rfl) ?_
          refine oN ?_
          refine thenQ_normal ?_
          refine WI.cond (b := _) rfl rfl (fun h2 => ?_) (fun h2 => ?_)
          · try simp only [zB] at h2
            have fA : IntKind.i64.wrap (((6 * g + t : Nat) : Int).tdiv 8) = (((6 * g + t) / 8 : Nat) : Int) := by rw [show ((6 * g + t : Nat) : Int).tdiv 8 = (((6 * g + t) / 8 : Nat) : Int) from rfl, IntWalk.i64_in _ (by omega)]
            have fB : IntKind.i64.wrap (7 - ((6 * g + t : Nat) : Int).tmod 8) = ((7 - (6 * g + t) % 8 : Nat) : Int) := by have e : ((6 * g + t : Nat) : Int).tmod 8 = (((6 * g + t) % 8 : Nat) : Int) := rfl; rw [e, IntWalk.i64_in _ (by omega)]; omega
            have fC : IntKind.u64.wrap ((7 - (6 * g + t) % 8 : Nat) : Int) = ((7 - (6 * g + t) % 8 : Nat) : Int) := IntWalk.u64_in _ (by omega)
            have fD : min (7 - (6 * g + t) % 8) IntKind.u8.bits = 7 - (6 * g + t) % 8 := Nat.min_eq_left (by show _ ≤ 8; omega)
            have fE := fbit (s.getD ((6 * g + t) / 8) 0).toNat (7 - (6 * g + t) % 8)
            have uu := And.intro uu (And.intro fA (And.intro fB (And.intro fC (And.intro fD fE))))
            have hlt : 6 * g + t < 8 * s.length := by omega
            have hbt : bitS s (6 * g + t) = (s.getD ((6 * g + t) / 8) 0).toNat / 2 ^ (7 - (6 * g + t) % 8) % 2 := by unfold bitS; rw [if_pos hlt]
            have hb2 := bitS_lt s (6 * g + t)
            rw [hbt] at hb2
            refine WI.regB noTabs_ok [0, 3, 4, 5, 6, 7] ?_
            iterate 3 refine oS ?_
            iterate 2 refine oG (hok := by first | with_reducible rfl | omega | (exact decide_eq_true (by omega)) | (rw [Bool.and_eq_true]; constructor <;> exact decide_eq_true (by omega)) | (exact decide_eq_true (by simp only [List.length_append, List.length_cons, List.length_nil, List.length_replicate]; omega)) | (simp; done) | (simp; omega) | rfl) ?_
            refine oS ?_
            iterate 7 refine oG (hok := by first | with_reducible rfl | omega | (exact decide_eq_true (by omega)) | (rw [Bool.and_eq_true]; constructor <;> exact decide_eq_true (by omega)) | (exact decide_eq_true (by simp only [List.length_append, List.length_cons, List.length_nil, List.length_replicate]; omega)) | (simp; done) | (simp; omega) | rfl) ?_
            refine oS ?_
            refine oN ?_
            refine blockQ_normal ?_
            refine thenQ_normal ?_
            refine WI.regB noTabs_ok [0, 3, 4, 5, 6, 7] ?_
            refine oS ?_
            refine oG (hok := by first | with_reducible rfl | omega | (exact decide_eq_true (by omega)) | (rw [Bool.and_eq_true]; constructor <;> exact decide_eq_true (by omega)) | (exact decide_eq_true (by simp only [List.length_append, List.length_cons, List.length_nil, List.length_replicate]; omega)) | (simp; done) | (simp; omega) | rfl) ?_
            refine oS ?_
            refine oN ?_
            refine thenQ_normal ?_
            exact ⟨⟨t + 1, by rw [nvS, hbt]; rfl, rfl, by omega⟩, by simp [down, Ab.get, D.val, intOf?]; omega⟩
          · try simp only [zB] at h2
            have hbt : bitS s (6 * g + t) = 0 := by unfold bitS; rw [if_neg (by omega)]
            refine WI.skip ?_
            refine blockQ_normal ?_
            refine thenQ_normal ?_
            refine WI.regB noTabs_ok [0, 3, 4, 5, 6, 7] ?_
            refine oS ?_
            refine oG (hok := by first | with_reducible rfl | omega | (exact decide_eq_true (by omega)) | (rw [Bool.and_eq_true]; constructor <;> exact decide_eq_true (by omega)) | (exact decide_eq_true (by simp only [List.length_append, List.length_cons, List.length_nil, List.length_replicate]; omega)) | (simp; done) | (simp; omega) | rfl) ?_
            refine oS ?_
            refine oN ?_
            refine thenQ_normal ?_
            exact ⟨⟨t + 1, by rw [nvS, hbt]; rfl, rfl, by omega⟩, by simp [down, Ab.get, D.val, intOf?]; omega⟩
        · try simp only [zB] at h1
          refine WI.exit ?_
          refine thenQ_exit ?_
          refine thenQ_exit ?_
          refine blockQ_hit ?_
          refine thenQ_normal ?_
          obtain rfl : t = 6 := by omega
          have hs1 := slc1 (nvS s (6 * g) 6) hn6
          have hgl := letS_len s g
          have hw1 : IntKind.i64.wrap ((nvS s (6 * g) 6 : Nat) + 1) = ((nvS s (6 * g) 6 + 1 : Nat) : Int) := IntWalk.i64_in _ (by omega)
          have uu := And.intro uu (And.intro hs1 (And.intro hw1 b64L_len))
          refine WI.regB noTabs_ok [0, 3, 4, 5] ?_
          iterate 4 refine oS ?_
          iterate 3 refine oG (hok := by first | with_reducible rfl | omega | (exact decide_eq_true (by omega)) | (rw [Bool.and_eq_true]; constructor <;> exact decide_eq_true (by omega)) | (exact decide_eq_true (by simp only [List.length_append, List.length_cons, List.length_nil, List.length_replicate]; omega)) | (simp; done) | (simp; omega) | rfl) ?_
          refine oS ?_
          refine oN ?_
          refine blockQ_normal ?_
          refine thenQ_normal ?_
          refine WI.regB noTabs_ok [0, 3, 4, 5] ?_
          refine oS ?_
          refine oG (hok := by first | with_reducible rfl | omega | (exact decide_eq_true (by omega)) | (rw [Bool.and_eq_true]; constructor <;> exact decide_eq_true (by omega)) | (exact decide_eq_true (by simp only [List.length_append, List.length_cons, List.length_nil, List.length_replicate]; omega)) | (simp; done) | (simp; omega) | rfl) ?_
          refine oS ?_
          refine oN ?_
          refine thenQ_normal ?_
          exact ⟨⟨g + 1, by rw [letS_succ]; rfl, rfl, by omega⟩, by simp [down, Ab.get, D.val, intOf?]; omega⟩
    · try simp only [zB] at h0
      refine WI.exit ?_
      refine thenQ_exit ?_
      refine thenQ_exit ?_
      refine blockQ_hit ?_
      refine thenQ_normal ?_
      refine WI.seq ?_
      refine WI.block ?_
      obtain rfl : g = (8 * s.length + 5) / 6 := by omega
      refine WI.orderA [4] ?_
      refine WI.loop (fun φ os => ∃ (p : Nat), φ = [(4, .x (.str (letS s ((8 * s.length + 5) / 6) ++ List.replicate p 61)))] ∧ os = [] ∧ p ≤ (4 - (letS s ((8 * s.length + 5) / 6)).length % 4) % 4) (fun φ os => (8 * s.length + 5) / 6 + 4 - strL 4 φ os) ?_ (fun φ os hI => ?_)
      · exact ⟨0, by simp, rfl, by omega⟩
      · obtain ⟨p, rfl, rfl, hp⟩ := hI
        refine WI.seq ?_
        refine WI.seq ?_
        refine WI.regB noTabs_ok [4, 52] ?_
        refine oS ?_
        iterate 3 refine oG (hok := by first | with_reducible rfl | omega | (exact decide_eq_true (by omega)) | (rw [Bool.and_eq_true]; constructor <;> exact decide_eq_true (by omega)) | (exact decide_eq_true (by simp only [List.length_append, List.length_cons, List.length_nil, List.length_replicate]; omega)) | (simp; done) | (simp; omega) | rfl) ?_
        refine oN ?_
        refine thenQ_normal ?_
        refine WI.cond (b := _) rfl rfl (fun h3 => ?_) (fun h3 => ?_)
        · try simp only [zB] at h3
          have hp1 : p + 1 ≤ (4 - (letS s ((8 * s.length + 5) / 6)).length % 4) % 4 := padmore _ p hp (by rw [List.length_append, List.length_replicate] at h3; exact h3)
          refine WI.skip ?_
          refine thenQ_normal ?_
          refine WI.block ?_
          refine WI.regB noTabs_ok [4] ?_
          refine oS ?_
          refine oG (hok := by first | with_reducible rfl | omega | (exact decide_eq_true (by omega)) | (rw [Bool.and_eq_true]; constructor <;> exact decide_eq_true (by omega)) | (exact decide_eq_true (by simp only [List.length_append, List.length_cons, List.length_nil, List.length_replicate]; omega)) | (simp; done) | (simp; omega) | rfl) ?_
          refine oS ?_
          refine oN ?_
          refine blockQ_normal ?_
          refine thenQ_normal ?_
          exact ⟨⟨p + 1, by rw [List.replicate_succ', List.append_assoc], rfl, hp1⟩, by simp only [strL, Ab.get, D.val, ↓reduceIte, List.length_append, List.length_replicate, List.length_cons, List.length_nil]; omega⟩
        · try simp only [zB] at h3
          refine WI.exit ?_
          refine thenQ_exit ?_
          refine thenQ_exit ?_
          refine blockQ_hit ?_
          refine thenQ_normal ?_
          refine WI.seq ?_
          refine WI.regB noTabs_ok [2] ?_
          iterate 2 refine oS ?_
          refine oN ?_
          refine thenQ_normal ?_
          refine WI.ret ?_
          first | refine lfR ?_ | refine lfR2 ?_
          rw [padS, padend _ p hp (by rw [List.length_append, List.length_replicate] at h3; exact Int.not_lt.2 h3)] -- leaf 0
end Go.Proofs.YtcffpndhodhncaaDoor
end
section
/- Base: Read. -/
set_option linter.unusedSimpArgs false
set_option linter.unusedVariables false
namespace Go.Proofs.YtcffpndhodhncaaDoor
open Go.RowKit Go.Bo Go.Ab

def trimE (s : List UInt8) : List UInt8 := (s.reverse.dropWhile (· == 61)).reverse
theorem trim_c (s : List UInt8) (h : s.length ≤ 1000000) : PCalls Tryd.prog 12 [.x (.str s), .x (.str [61])] (.x (.str (trimE s))) := by
  intro w st vs hst hvl
  obtain ⟨hsz, hv⟩ := hvl
  obtain ⟨v0, v1, rfl⟩ : ∃ v0 v1, vs = #[v0, v1] := by
    obtain ⟨vl⟩ := vs
    match vl, hsz with
    | [a, b], _ => exact ⟨a, b, rfl⟩
  have h0 := hv 0 _ v0 rfl rfl
  have h1 := hv 1 _ v1 rfl rfl
  clear hv hsz
  cases h0 with
  | x h0 =>
  cases h1 with
  | x h1 =>
  cases h1 with
  | str _ =>
  cases h0 with
  | str _ =>
  refine (Tryd.strings_TrimRight_one (bstr s) 61 (by decide) w (by rw [bstr_size]; omega)).mono ?_
  rintro e w' ⟨rfl, rfl⟩
  exact ⟨_, st, rfl, Kept.refl _ _, fun _ _ h => h, fun _ _ h => .inl h, .x (.str _)⟩
def trimG : List D → Option (Bool × D)
  | [.x (.str s), .x (.str [61])] => some (decide (s.length ≤ 1000000), .x (.str (trimE s)))
  | _ => none
theorem trimG_ok : ∀ args r, trimG args = some (true, r) → PCalls Tryd.prog 12 args r := by
  intro args r h
  unfold trimG at h
  split at h
  · rename_i s
    simp only [Option.some.injEq, Prod.mk.injEq, Bool.and_eq_true, decide_eq_true_eq, true_and] at h
    obtain ⟨h1, rfl⟩ := h
    exact trim_c s h1
  · cases h
theorem trim_enters : Go.Ab.Enters Tryd.prog 12 := enters_of Tryd.func12 (by kernel_rfl) rfl
theorem trimE_len (s : List UInt8) : (trimE s).length ≤ s.length := by
  unfold trimE
  have := (List.dropWhile_sublist (p := (· == (61 : UInt8))) (l := s.reverse)).length_le
  simpa using this
/-- A letter more: the bytes so far, the bits that are left, how many they are. -/
def stepR (x : List UInt8 × Nat × Nat) (c : UInt8) : List UInt8 × Nat × Nat :=
  let v := x.2.1 * 64 + nVal c
  if x.2.2 = 0 then (x.1, v, 6)
  else if x.2.2 = 6 then (x.1 ++ [UInt8.ofNat (v / 16)], v % 16, 4)
  else if x.2.2 = 4 then (x.1 ++ [UInt8.ofNat (v / 4)], v % 4, 2)
  else (x.1 ++ [UInt8.ofNat v], 0, 0)
def runR (s : List UInt8) : List UInt8 × Nat × Nat := s.foldl stepR ([], 0, 0)
theorem runR_take (s : List UInt8) (j : Nat) (h : j < s.length) : runR (s.take (j + 1)) = stepR (runR (s.take j)) s[j] := by
  unfold runR; rw [List.take_succ_eq_append_getElem h, List.foldl_append]; rfl
theorem nVal_lt (c : UInt8) : nVal c < 64 := by unfold nVal; split <;> omega
theorem runR_ok (s : List UInt8) : ∀ j, j ≤ s.length → ((runR (s.take j)).2.2 = 0 ∧ (runR (s.take j)).2.1 = 0 ∨ (runR (s.take j)).2.2 = 6 ∧ (runR (s.take j)).2.1 < 64 ∨ (runR (s.take j)).2.2 = 4 ∧ (runR (s.take j)).2.1 < 16 ∨ (runR (s.take j)).2.2 = 2 ∧ (runR (s.take j)).2.1 < 4) ∧ (runR (s.take j)).1.length ≤ j
  | 0, _ => by simp [runR]
  | j + 1, h => by
    obtain ⟨h1, h2⟩ := runR_ok s j (by omega)
    rw [runR_take s j (by omega)]
    generalize runR (s.take j) = x at h1 h2 ⊢
    obtain ⟨o, b, m⟩ := x
    have hc := nVal_lt s[j]
    simp only at h1 h2 ⊢
    unfold stepR
    simp only
    rcases h1 with h1 | h1 | h1 | h1 <;> obtain ⟨rfl, h1⟩ := h1 <;> simp <;> omega
def okL (c : UInt8) : Bool := decide (nIdx c < 64)
def readS (s : List UInt8) : List UInt8 × Int :=
  if s.length % 4 = 0 ∧ s.length - (trimE s).length ≤ 2 ∧ (trimE s).all okL = true ∧ (runR (trimE s)).2.1 = 0 ∧ (runR (trimE s)).2.2 < 6 then ((runR (trimE s)).1, 0) else ([], 5)
theorem or6N : ∀ (b : Fin 64) (c : Fin 64), IntKind.i64.wrap ((BitVec.ofInt IntKind.i64.bits ((b.val : Int) * 64) ||| BitVec.ofInt IntKind.i64.bits (c.val : Int)).toNat : Int) = ((b.val * 64 + c.val : Nat) : Int) := by decide +kernel
theorem or6 (b c : Nat) (hb : b < 64) (hc : c < 64) : IntKind.i64.wrap ((BitVec.ofInt IntKind.i64.bits ((b : Int) * 64) ||| BitVec.ofInt IntKind.i64.bits (c : Int)).toNat : Int) = ((b * 64 + c : Nat) : Int) := or6N ⟨b, hb⟩ ⟨c, hc⟩
theorem fS6 : (2 : Int) ^ min 6 IntKind.i64.bits = 64 := rfl
theorem fS4 : (2 : Int) ^ min 4 IntKind.i64.bits = 16 := rfl
theorem fS2 : (2 : Int) ^ min 2 IntKind.i64.bits = 4 := rfl
theorem fS0 : (2 : Int) ^ min 0 IntKind.i64.bits = 1 := rfl
theorem fdN (v d : Nat) : (v : Int).fdiv (d : Int) = ((v / d : Nat) : Int) := by rw [Int.fdiv_eq_ediv_of_nonneg _ (Int.natCast_nonneg _)]; rfl
theorem fU8 (q : Nat) (h : q < 256) : IntKind.u8.wrap (q : Int) = ((UInt8.ofNat q).toNat : Int) := by rw [IntWalk.u8_in _ (by omega)]; simp; omega
def tabBaR : Tabs := addQ (addQ (noTabs) 12 trimG) 13 numberG
theorem tabBaR_ok : SsOk Tryd.prog tabBaR := addQ_ok (addQ_ok (noTabs_ok) trim_enters trimG_ok) (G_enters G_ok (p := i13) rfl) numberG_ok
theorem tabBaR_q12 (a : List D) : tabBaR.q 12 a = trimG a := rfl
theorem tabBaR_q13 (a : List D) : tabBaR.q 13 a = numberG a := rfl
theorem tabBaR_r (f : FuncId) (a : List D) (o : List Ob) : tabBaR.r f a o = none := rfl
theorem tabBaR_k (f : FuncId) (a : List D) (o : List Ob) : tabBaR.k f a o = none := rfl
theorem bytes_snoc' (l : List UInt8) (c : UInt8) : (l ++ [c]).map byteRow = l.map byteRow ++ [[X.int .u8 c.toNat]] := by rw [List.map_append]; rfl
theorem allS (l : List UInt8) (j : Nat) (hj : j < l.length) (h : (l.take j).all okL = true) (hk : okL l[j] = true) : (l.take (j + 1)).all okL = true := by
  rw [List.take_succ_eq_append_getElem hj, List.all_append, h]; simp [hk]
theorem read33_c (s : List UInt8) (hl : s.length ≤ 1000000) : PCalls Tryd.prog 8 [.x (.str s)] (.tup [.x (.str (readS s).1), .x (.int .i64 (readS s).2)]) := by
  have htl := trimE_len s
  have un8 : ∀ c : UInt8, UInt8.ofNat c.toNat = c := fun c => by simp
  have und := fun c : UInt8 => show decide ((c.toNat : Int) = ((UInt8.ofNat ((c.toNat : Int)).toNat).toNat : Int)) = true by simp
  refine FCalls.pure (fcallsG (fz := true) G_ok (p := i8) rfl _ (Nat.le_of_ble_eq_true rfl) _ (fun C0 E0 => ?_)) rfl
  dsimp only [i8, argsφ]
  have uu := And.intro @trimG.eq_1 (And.intro @trimG.eq_2 (And.intro @numberG.eq_1 (And.intro @numberG.eq_2 (And.intro @un8 (And.intro @und (And.intro @tabBaR_r (And.intro @tabBaR_k (And.intro @tabBaR_q12 (@tabBaR_q13)))))))))
  refine WI.seq ?_
  refine WI.regB tabBaR_ok [0] ?_
  iterate 2 refine oS ?_
  refine oN ?_
  refine thenQ_normal ?_
  refine WI.seq ?_
  refine WI.seq ?_
  refine WI.regB tabBaR_ok [0, 14] ?_
  refine oS ?_
  iterate 3 refine oG (hok := by first | with_reducible rfl | omega | (exact decide_eq_true (by omega)) | (exact bytes_all _) | (simp; done) | (simp; omega) | rfl) ?_
  refine oN ?_
  refine thenQ_normal ?_
  refine WI.cond (b := _) rfl rfl (fun h0 => ?_) (fun h0 => ?_)
  · try simp only [zB] at h0
    refine WI.seq ?_
    refine WI.regB tabBaR_ok [2, 3] ?_
    iterate 2 refine oS ?_
    refine oN ?_
    refine thenQ_normal ?_
    refine WI.ret ?_
    refine thenQ_ret ?_
    first | refine lfR ?_ | refine lfR2 ?_
    rw [readS, if_neg (fun hh => h0 (by have := hh.1; show ((s.length % 4 : Nat) : Int) = 0; omega))] -- leaf 0
  · try simp only [zB] at h0
    refine WI.skip ?_
    refine thenQ_normal ?_
    refine WI.seq ?_
    refine WI.regB tabBaR_ok [0, 4] ?_
    refine oS ?_
    refine oC (hok := by first | with_reducible rfl | omega | (exact decide_eq_true (by omega)) | (exact bytes_all _) | (simp; done) | (simp; omega) | rfl) ?_
    refine oS ?_
    refine oN ?_
    refine thenQ_normal ?_
    refine WI.seq ?_
    refine WI.seq ?_
    refine WI.regB tabBaR_ok [4, 22] ?_
    refine oS ?_
    refine oG (hok := by first | with_reducible rfl | omega | (exact decide_eq_true (by omega)) | (exact bytes_all _) | (simp; done) | (simp; omega) | rfl) ?_
    refine oS ?_
    iterate 3 refine oG (hok := by first | with_reducible rfl | omega | (exact decide_eq_true (by omega)) | (exact bytes_all _) | (simp; done) | (simp; omega) | rfl) ?_
    refine oN ?_
    refine thenQ_normal ?_
    refine WI.cond (b := _) rfl rfl (fun h1 => ?_) (fun h1 => ?_)
    · try simp only [zB] at h1
      refine WI.seq ?_
      refine WI.regB tabBaR_ok [2, 3] ?_
      iterate 2 refine oS ?_
      refine oN ?_
      refine thenQ_normal ?_
      refine WI.ret ?_
      refine thenQ_ret ?_
      first | refine lfR ?_ | refine lfR2 ?_
      rw [readS, if_neg (fun hh => by have := hh.2.1; omega)] -- leaf 1
    · try simp only [zB] at h1
      refine WI.skip ?_
      refine thenQ_normal ?_
      refine WI.seq ?_
      refine WI.regB tabBaR_ok [4, 5] ?_
      refine oS ?_
      refine oN ?_
      refine thenQ_normal ?_
      refine WI.seq ?_
      refine WI.regB tabBaR_ok [4, 5, 6, 7] ?_
      iterate 2 refine oS ?_
      refine oN ?_
      refine thenQ_normal ?_
      refine WI.seq ?_
      refine WI.seq ?_
      refine WI.regB tabBaR_ok [4, 5, 6, 7, 24, 25] ?_
      refine oS ?_
      refine oG (hok := by first | with_reducible rfl | omega | (exact decide_eq_true (by omega)) | (exact bytes_all _) | (simp; done) | (simp; omega) | rfl) ?_
      refine oS ?_
      refine oN ?_
      refine thenQ_normal ?_
      refine WI.block ?_
      refine WI.ownA 5 5 1 ?_
      refine WI.loop (fun φ os => ∃ (j : Nat), φ = [(4, .x (.str (trimE s))), (5, .ref 0 (runR ((trimE s).take j)).1.length 0 (runR ((trimE s).take j)).1.length), (6, .x (.int .i64 (runR ((trimE s).take j)).2.1)), (7, .x (.int .i64 (runR ((trimE s).take j)).2.2)), (24, .x (.int .i64 (trimE s).length)), (25, .x (.int .i64 j))] ∧ os = [.rows false 5 1 ((runR ((trimE s).take j)).1.map byteRow)] ∧ j ≤ (trimE s).length ∧ ((trimE s).take j).all okL = true) (down (trimE s).length 25) ?_ (fun φ os hI => ?_)
      · exact ⟨0, rfl, rfl, by omega, rfl⟩
      · obtain ⟨j, rfl, rfl, hj, hall⟩ := hI
        refine WI.seq ?_
        refine WI.regB tabBaR_ok [4, 5, 6, 7, 24, 25, 26] ?_
        refine oG (hok := by first | with_reducible rfl | omega | (exact decide_eq_true (by omega)) | (exact bytes_all _) | (simp; done) | (simp; omega) | rfl) ?_
        refine oN ?_
        refine thenQ_normal ?_
        refine WI.seq ?_
        refine WI.cond (b := _) rfl rfl (fun h2 => ?_) (fun h2 => ?_)
        · try simp only [zB] at h2
          refine WI.skip ?_
          refine thenQ_normal ?_
          refine WI.seq ?_
          refine WI.block ?_
          refine WI.seq ?_
          have hj4 : j < (trimE s).length := by omega
          obtain ⟨hk1, hk2⟩ := runR_ok (trimE s) j hj
          have hst := runR_take (trimE s) j hj4
          have hgd : (trimE s).getD j 0 = (trimE s)[j] := by simp [hj4]
          rw [← hgd] at hst
          generalize runR ((trimE s).take j) = x at hk1 hk2 hst ⊢
          obtain ⟨o, b, m⟩ := x
          simp only at hk1 hk2
          refine WI.regB tabBaR_ok [4, 5, 6, 7, 8, 24, 25] ?_
          iterate 2 refine oS ?_
          refine oN ?_
          refine thenQ_normal ?_
          refine WI.seq ?_
          refine WI.regB tabBaR_ok [4, 5, 6, 7, 9, 10, 24, 25] ?_
          iterate 2 refine oS ?_
          refine oG (hok := by first | with_reducible rfl | omega | (exact decide_eq_true (by omega)) | (exact bytes_all _) | (simp; done) | (simp; omega) | rfl) ?_
          refine oC (hok := by first | with_reducible rfl | omega | (exact decide_eq_true (by omega)) | (exact bytes_all _) | (simp; done) | (simp; omega) | rfl) ?_
          refine oS ?_
          iterate 2 refine oG (hok := by first | with_reducible rfl | omega | (exact decide_eq_true (by omega)) | (exact bytes_all _) | (simp; done) | (simp; omega) | rfl) ?_
          iterate 2 refine oS ?_
          refine oN ?_
          refine thenQ_normal ?_
          refine WI.seq ?_
          refine WI.seq ?_
          refine WI.regB tabBaR_ok [4, 5, 6, 7, 9, 24, 25, 36] ?_
          refine oS ?_
          refine oG (hok := by first | with_reducible rfl | omega | (exact decide_eq_true (by omega)) | (exact bytes_all _) | (simp; done) | (simp; omega) | rfl) ?_
          refine oN ?_
          refine thenQ_normal ?_
          refine WI.cond (b := _) rfl rfl (fun h3 => ?_) (fun h3 => ?_)
          · try simp only [zB] at h3
            refine WI.seq ?_
            refine WI.regB tabBaR_ok [2, 3] ?_
            iterate 2 refine oS ?_
            refine oN ?_
            refine thenQ_normal ?_
            refine WI.ret ?_
            refine thenQ_ret ?_
            refine blockQ_ret ?_
            refine thenQ_ret ?_
            refine thenQ_ret ?_
            refine blockQ_ret ?_
            refine thenQ_ret ?_
            first | refine lfR ?_ | refine lfR2 ?_
            rw [readS, if_neg (fun hh => h3 (by have := List.all_eq_true.1 hh.2.2.1 _ (List.getElem_mem hj4); rw [← hgd] at this; exact of_decide_eq_true this))] -- leaf 2
          · try simp only [zB] at h3
            have hn64 := nVal_lt ((trimE s).getD j 0)
            obtain ⟨n, hn⟩ : ∃ n, n = nVal ((trimE s).getD j 0) := ⟨_, rfl⟩
            rw [← hn] at hn64 ⊢
            try dsimp only
            refine WI.skip ?_
            refine thenQ_normal ?_
            refine WI.seq ?_
            rcases hk1 with ⟨rfl, rfl⟩ | ⟨rfl, hb⟩ | ⟨rfl, hb⟩ | ⟨rfl, hb⟩
            · have c0 : ((0 : Nat) : Int) = 0 := rfl
              rw [c0]
              have hs : stepR (o, 0, 0) ((trimE s).getD j 0) = (o, n, 6) := by rw [hn]; show (o, 0 * 64 + nVal _, 6) = _; rw [Nat.zero_mul, Nat.zero_add]
              have e2 : IntKind.i64.wrap ((BitVec.ofInt IntKind.i64.bits 0 ||| BitVec.ofInt IntKind.i64.bits (n : Int)).toNat : Int) = ((0 * 64 + n : Nat) : Int) := or6 0 n (by omega) hn64
              have uu := And.intro uu (And.intro fS6 e2)
              refine WI.regB tabBaR_ok [4, 5, 6, 7, 24, 25] ?_
              refine oS ?_
              refine oG (hok := by first | with_reducible rfl | omega | (exact decide_eq_true (by omega)) | (exact bytes_all _) | (simp; done) | (simp; omega) | rfl) ?_
              refine oS ?_
              refine oG (hok := by first | with_reducible rfl | omega | (exact decide_eq_true (by omega)) | (exact bytes_all _) | (simp; done) | (simp; omega) | rfl) ?_
              refine oS ?_
              refine oG (hok := by first | with_reducible rfl | omega | (exact decide_eq_true (by omega)) | (exact bytes_all _) | (simp; done) | (simp; omega) | rfl) ?_
              iterate 2 refine oS ?_
              refine oN ?_
              refine thenQ_normal ?_
              refine WI.seq ?_
              refine WI.regB tabBaR_ok [4, 5, 6, 7, 24, 25, 44] ?_
              refine oS ?_
              refine oG (hok := by first | with_reducible rfl | omega | (exact decide_eq_true (by omega)) | (exact bytes_all _) | (simp; done) | (simp; omega) | rfl) ?_
              refine oN ?_
              refine thenQ_normal ?_
              refine WI.cond (b := _) rfl rfl (fun h4 => ?_) (fun h4 => ?_)
              · exfalso
                simp at h4
              · try simp only [zB] at h4
                refine WI.skip ?_
                refine blockQ_normal ?_
                refine thenQ_normal ?_
                refine WI.regB tabBaR_ok [4, 5, 6, 7, 24, 25] ?_
                refine oG (hok := by first | with_reducible rfl | omega | (exact decide_eq_true (by omega)) | (exact bytes_all _) | (simp; done) | (simp; omega) | rfl) ?_
                refine oS ?_
                refine oN ?_
                refine thenQ_normal ?_
                exact ⟨⟨j + 1, by first | (rw [hst, hs]; done) | (rw [hst, hs]; rfl) | (rw [hst, hs]; simp only [List.length_append]; rfl), by first | (rw [hst, hs]; done) | (rw [hst, hs]; rfl) | (rw [hst, hs]; simp only [bytes_snoc']; done), by omega, allS _ j hj4 hall (by rw [okL, ← hgd]; exact decide_eq_true h3)⟩, by simp [down, Ab.get, D.val, intOf?]; omega⟩
            · have c0 : ((6 : Nat) : Int) = 6 := rfl
              rw [c0]
              have hs : stepR (o, b, 6) ((trimE s).getD j 0) = (o ++ [UInt8.ofNat ((b * 64 + n) / 16)], (b * 64 + n) % 16, 4) := by rw [hn]; rfl
              have e2 := or6 b n (by omega) hn64
              have e4 : ((b * 64 + n : Nat) : Int).fdiv 16 = (((b * 64 + n) / 16 : Nat) : Int) := fdN _ 16
              have e5 := fU8 ((b * 64 + n) / 16) (by omega)
              have e3 : IntKind.i64.wrap ((BitVec.ofInt IntKind.i64.bits ((b * 64 + n : Nat) : Int) &&& BitVec.ofInt IntKind.i64.bits 15).toNat : Int) = (((b * 64 + n) % 16 : Nat) : Int) := a15 (b * 64 + n) (by omega)
              have uu := And.intro uu (And.intro fS6 (And.intro fS4 (And.intro e2 (And.intro e3 (And.intro e4 e5)))))
              refine WI.regB tabBaR_ok [4, 5, 6, 7, 24, 25] ?_
              refine oS ?_
              refine oG (hok := by first | with_reducible rfl | omega | (exact decide_eq_true (by omega)) | (exact bytes_all _) | (simp; done) | (simp; omega) | rfl) ?_
              refine oS ?_
              refine oG (hok := by first | with_reducible rfl | omega | (exact decide_eq_true (by omega)) | (exact bytes_all _) | (simp; done) | (simp; omega) | rfl) ?_
              refine oS ?_
              refine oG (hok := by first | with_reducible rfl | omega | (exact decide_eq_true (by omega)) | (exact bytes_all _) | (simp; done) | (simp; omega) | rfl) ?_
              iterate 2 refine oS ?_
              refine oN ?_
              refine thenQ_normal ?_
              refine WI.seq ?_
              refine WI.regB tabBaR_ok [4, 5, 6, 7, 24, 25, 44] ?_
              refine oS ?_
              refine oG (hok := by first | with_reducible rfl | omega | (exact decide_eq_true (by omega)) | (exact bytes_all _) | (simp; done) | (simp; omega) | rfl) ?_
              refine oN ?_
              refine thenQ_normal ?_
              refine WI.cond (b := _) rfl rfl (fun h4 => ?_) (fun h4 => ?_)
              · try simp only [zB] at h4
                refine WI.seq ?_
                refine WI.regB tabBaR_ok [4, 5, 6, 7, 24, 25] ?_
                refine oS ?_
                refine oG (hok := by first | with_reducible rfl | omega | (exact decide_eq_true (by omega)) | (exact bytes_all _) | (simp; done) | (simp; omega) | rfl) ?_
                refine oS ?_
                refine oN ?_
                refine thenQ_normal ?_
                refine WI.seq ?_
                refine WI.post ?_
                refine WI.regB tabBaR_ok [4, 5, 6, 7, 24, 25] ?_
                iterate 3 refine oS ?_
                iterate 4 refine oG (hok := by first | with_reducible rfl | omega | (exact decide_eq_true (by omega)) | (exact bytes_all _) | (simp; done) | (simp; omega) | rfl) ?_
                refine oS ?_
                refine oP ?_
                refine pPick [0] ?_
                refine pEnd ?_
                refine thenQ_normal ?_
                refine WI.regB tabBaR_ok [4, 5, 6, 7, 24, 25] ?_
                iterate 2 refine oS ?_
                iterate 3 refine oG (hok := by first | with_reducible rfl | omega | (exact decide_eq_true (by omega)) | (exact bytes_all _) | (simp; done) | (simp; omega) | rfl) ?_
                refine oS ?_
                refine oN ?_
                refine blockQ_normal ?_
                refine thenQ_normal ?_
                refine WI.regB tabBaR_ok [4, 5, 6, 7, 24, 25] ?_
                refine oG (hok := by first | with_reducible rfl | omega | (exact decide_eq_true (by omega)) | (exact bytes_all _) | (simp; done) | (simp; omega) | rfl) ?_
                refine oS ?_
                refine oN ?_
                refine thenQ_normal ?_
                exact ⟨⟨j + 1, by first | (rw [hst, hs]; done) | (rw [hst, hs]; rfl) | (rw [hst, hs]; simp only [List.length_append]; rfl), by first | (rw [hst, hs]; done) | (rw [hst, hs]; rfl) | (rw [hst, hs]; simp only [bytes_snoc']; done), by omega, allS _ j hj4 hall (by rw [okL, ← hgd]; exact decide_eq_true h3)⟩, by simp [down, Ab.get, D.val, intOf?]; omega⟩
              · exfalso
                simp at h4
            · have c0 : ((4 : Nat) : Int) = 4 := rfl
              rw [c0]
              have hs : stepR (o, b, 4) ((trimE s).getD j 0) = (o ++ [UInt8.ofNat ((b * 64 + n) / 4)], (b * 64 + n) % 4, 2) := by rw [hn]; rfl
              have e2 := or6 b n (by omega) hn64
              have e4 : ((b * 64 + n : Nat) : Int).fdiv 4 = (((b * 64 + n) / 4 : Nat) : Int) := fdN _ 4
              have e5 := fU8 ((b * 64 + n) / 4) (by omega)
              have e3 : IntKind.i64.wrap ((BitVec.ofInt IntKind.i64.bits ((b * 64 + n : Nat) : Int) &&& BitVec.ofInt IntKind.i64.bits 3).toNat : Int) = (((b * 64 + n) % 4 : Nat) : Int) := a3 (b * 64 + n) (by omega)
              have uu := And.intro uu (And.intro fS6 (And.intro fS2 (And.intro e2 (And.intro e3 (And.intro e4 e5)))))
              refine WI.regB tabBaR_ok [4, 5, 6, 7, 24, 25] ?_
              refine oS ?_
              refine oG (hok := by first | with_reducible rfl | omega | (exact decide_eq_true (by omega)) | (exact bytes_all _) | (simp; done) | (simp; omega) | rfl) ?_
              refine oS ?_
              refine oG (hok := by first | with_reducible rfl | omega | (exact decide_eq_true (by omega)) | (exact bytes_all _) | (simp; done) | (simp; omega) | rfl) ?_
              refine oS ?_
              refine oG (hok := by first | with_reducible rfl | omega | (exact decide_eq_true (by omega)) | (exact bytes_all _) | (simp; done) | (simp; omega) | rfl) ?_
              iterate 2 refine oS ?_
              refine oN ?_
              refine thenQ_normal ?_
              refine WI.seq ?_
              refine WI.regB tabBaR_ok [4, 5, 6, 7, 24, 25, 44] ?_
              refine oS ?_
              refine oG (hok := by first | with_reducible rfl | omega | (exact decide_eq_true (by omega)) | (exact bytes_all _) | (simp; done) | (simp; omega) | rfl) ?_
              refine oN ?_
              refine thenQ_normal ?_
              refine WI.cond (b := _) rfl rfl (fun h4 => ?_) (fun h4 => ?_)
              · try simp only [zB] at h4
                refine WI.seq ?_
                refine WI.regB tabBaR_ok [4, 5, 6, 7, 24, 25] ?_
                refine oS ?_
                refine oG (hok := by first | with_reducible rfl | omega | (exact decide_eq_true (by omega)) | (exact bytes_all _) | (simp; done) | (simp; omega) | rfl) ?_
                refine oS ?_
                refine oN ?_
                refine thenQ_normal ?_
                refine WI.seq ?_
                refine WI.post ?_
                refine WI.regB tabBaR_ok [4, 5, 6, 7, 24, 25] ?_
                iterate 3 refine oS ?_
                iterate 4 refine oG (hok := by first | with_reducible rfl | omega | (exact decide_eq_true (by omega)) | (exact bytes_all _) | (simp; done) | (simp; omega) | rfl) ?_
                refine oS ?_
                refine oP ?_
                refine pPick [0] ?_
                refine pEnd ?_
                refine thenQ_normal ?_
                refine WI.regB tabBaR_ok [4, 5, 6, 7, 24, 25] ?_
                iterate 2 refine oS ?_
                iterate 3 refine oG (hok := by first | with_reducible rfl | omega | (exact decide_eq_true (by omega)) | (exact bytes_all _) | (simp; done) | (simp; omega) | rfl) ?_
                refine oS ?_
                refine oN ?_
                refine blockQ_normal ?_
                refine thenQ_normal ?_
                refine WI.regB tabBaR_ok [4, 5, 6, 7, 24, 25] ?_
                refine oG (hok := by first | with_reducible rfl | omega | (exact decide_eq_true (by omega)) | (exact bytes_all _) | (simp; done) | (simp; omega) | rfl) ?_
                refine oS ?_
                refine oN ?_
                refine thenQ_normal ?_
                exact ⟨⟨j + 1, by first | (rw [hst, hs]; done) | (rw [hst, hs]; rfl) | (rw [hst, hs]; simp only [List.length_append]; rfl), by first | (rw [hst, hs]; done) | (rw [hst, hs]; rfl) | (rw [hst, hs]; simp only [bytes_snoc']; done), by omega, allS _ j hj4 hall (by rw [okL, ← hgd]; exact decide_eq_true h3)⟩, by simp [down, Ab.get, D.val, intOf?]; omega⟩
              · exfalso
                simp at h4
            · have c0 : ((2 : Nat) : Int) = 2 := rfl
              rw [c0]
              have hs : stepR (o, b, 2) ((trimE s).getD j 0) = (o ++ [UInt8.ofNat (b * 64 + n)], 0, 0) := by rw [hn]; rfl
              have e2 := or6 b n (by omega) hn64
              have e4 : ((b * 64 + n : Nat) : Int).fdiv 1 = (((b * 64 + n) / 1 : Nat) : Int) := fdN _ 1
              have e5 := fU8 ((b * 64 + n) / 1) (by omega)
              rw [Nat.div_one] at e4 e5
              have e3 : IntKind.i64.wrap ((BitVec.ofInt IntKind.i64.bits ((b * 64 + n : Nat) : Int) &&& BitVec.ofInt IntKind.i64.bits 0).toNat : Int) = 0 := a0 (b * 64 + n) (by omega)
              have uu := And.intro uu (And.intro fS6 (And.intro fS0 (And.intro e2 (And.intro e3 (And.intro e4 e5)))))
              refine WI.regB tabBaR_ok [4, 5, 6, 7, 24, 25] ?_
              refine oS ?_
              refine oG (hok := by first | with_reducible rfl | omega | (exact decide_eq_true (by omega)) | (exact bytes_all _) | (simp; done) | (simp; omega) | rfl) ?_
              refine oS ?_
              refine oG (hok := by first | with_reducible rfl | omega | (exact decide_eq_true (by omega)) | (exact bytes_all _) | (simp; done) | (simp; omega) | rfl) ?_
              refine oS ?_
              refine oG (hok := by first | with_reducible rfl | omega | (exact decide_eq_true (by omega)) | (exact bytes_all _) | (simp; done) | (simp; omega) | rfl) ?_
              iterate 2 refine oS ?_
              refine oN ?_
              refine thenQ_normal ?_
              refine WI.seq ?_
              refine WI.regB tabBaR_ok [4, 5, 6, 7, 24, 25, 44] ?_
              refine oS ?_
              refine oG (hok := by first | with_reducible rfl | omega | (exact decide_eq_true (by omega)) | (exact bytes_all _) | (simp; done) | (simp; omega) | rfl) ?_
              refine oN ?_
              refine thenQ_normal ?_
              refine WI.cond (b := _) rfl rfl (fun h4 => ?_) (fun h4 => ?_)
              · try simp only [zB] at h4
                refine WI.seq ?_
                refine WI.regB tabBaR_ok [4, 5, 6, 7, 24, 25] ?_
                refine oS ?_
                refine oG (hok := by first | with_reducible rfl | omega | (exact decide_eq_true (by omega)) | (exact bytes_all _) | (simp; done) | (simp; omega) | rfl) ?_
                refine oS ?_
                refine oN ?_
                refine thenQ_normal ?_
                refine WI.seq ?_
                refine WI.post ?_
                refine WI.regB tabBaR_ok [4, 5, 6, 7, 24, 25] ?_
                iterate 3 refine oS ?_
                iterate 4 refine oG (hok := by first | with_reducible rfl | omega | (exact decide_eq_true (by omega)) | (exact bytes_all _) | (simp; done) | (simp; omega) | rfl) ?_
                refine oS ?_
                refine oP ?_
                refine pPick [0] ?_
                refine pEnd ?_
                refine thenQ_normal ?_
                refine WI.regB tabBaR_ok [4, 5, 6, 7, 24, 25] ?_
                iterate 2 refine oS ?_
                iterate 3 refine oG (hok := by first | with_reducible rfl | omega | (exact decide_eq_true (by omega)) | (exact bytes_all _) | (simp; done) | (simp; omega) | rfl) ?_
                refine oS ?_
                refine oN ?_
                refine blockQ_normal ?_
                refine thenQ_normal ?_
                refine WI.regB tabBaR_ok [4, 5, 6, 7, 24, 25] ?_
                refine oG (hok := by first | with_reducible rfl | omega | (exact decide_eq_true (by omega)) | (exact bytes_all _) | (simp; done) | (simp; omega) | rfl) ?_
                refine oS ?_
                refine oN ?_
                refine thenQ_normal ?_
                exact ⟨⟨j + 1, by first | (rw [hst, hs]; done) | (rw [hst, hs]; rfl) | (rw [hst, hs]; simp only [List.length_append]; rfl), by first | (rw [hst, hs]; done) | (rw [hst, hs]; rfl) | (rw [hst, hs]; simp only [bytes_snoc']; done), by omega, allS _ j hj4 hall (by rw [okL, ← hgd]; exact decide_eq_true h3)⟩, by simp [down, Ab.get, D.val, intOf?]; omega⟩
              · exfalso
                simp at h4
        · try simp only [zB] at h2
          refine WI.exit ?_
          refine thenQ_exit ?_
          refine thenQ_exit ?_
          refine blockQ_hit ?_
          refine thenQ_normal ?_
          refine WI.seq ?_
          refine WI.seq ?_
          have hvt : (trimE s).take j = trimE s := List.take_of_length_le (by omega)
          rw [hvt] at hall ⊢
          have e8 : ((runR (trimE s)).1.map byteRow).take (runR (trimE s)).1.length = (runR (trimE s)).1.map byteRow := List.take_of_length_le (by simp)
          have uu := And.intro uu e8
          refine WI.regB tabBaR_ok [5, 65] ?_
          refine oS ?_
          refine oG (hok := by first | with_reducible rfl | omega | (exact decide_eq_true (by omega)) | (exact bytes_all _) | (simp; done) | (simp; omega) | rfl) ?_
          refine oS ?_
          iterate 3 refine oG (hok := by first | with_reducible rfl | omega | (exact decide_eq_true (by omega)) | (exact bytes_all _) | (simp; done) | (simp; omega) | rfl) ?_
          refine oN ?_
          refine thenQ_normal ?_
          refine WI.cond (b := _) rfl rfl (fun h5 => ?_) (fun h5 => ?_)
          · try simp only [zB] at h5
            refine WI.seq ?_
            refine WI.regB tabBaR_ok [2, 3] ?_
            iterate 2 refine oS ?_
            refine oN ?_
            refine thenQ_normal ?_
            refine WI.ret ?_
            refine thenQ_ret ?_
            first | refine lfR ?_ | refine lfR2 ?_
            rw [readS, if_neg (fun hh => by have h7 := hh.2.2.2.1; have h8 := hh.2.2.2.2; omega)] -- leaf 3
          · try simp only [zB] at h5
            refine WI.skip ?_
            refine thenQ_normal ?_
            refine WI.seq ?_
            refine WI.regB tabBaR_ok [2, 3] ?_
            refine oS ?_
            refine oG (hok := by first | with_reducible rfl | omega | (exact decide_eq_true (by omega)) | (exact bytes_all _) | (simp; done) | (simp; omega) | rfl) ?_
            iterate 2 refine oS ?_
            refine oN ?_
            refine thenQ_normal ?_
            refine WI.ret ?_
            first | refine lfR ?_ | refine lfR2 ?_
            rw [readS, if_pos ⟨by have h0' := h0; rw [show ((s.length : Nat) : Int).tmod 4 = ((s.length % 4 : Nat) : Int) from rfl] at h0'; omega, by omega, hall, by omega, by omega⟩] -- leaf 4
end Go.Proofs.YtcffpndhodhncaaDoor
end
section
/- Base: the plain laws. -/
set_option linter.unusedSimpArgs false
set_option linter.unusedVariables false
namespace Go.Proofs.YtcffpndhodhncaaDoor
open Go.RowKit Go.Bo Go.Ab

/-- Bytes as a number; letters as a number. -/
def vB (s : List UInt8) : Nat := s.foldl (fun a c => a * 256 + c.toNat) 0
def vL (s : List UInt8) : Nat := s.foldl (fun a c => a * 64 + nVal c) 0
theorem vB_snoc (s : List UInt8) (c : UInt8) : vB (s ++ [c]) = vB s * 256 + c.toNat := by unfold vB; rw [List.foldl_append]; rfl
theorem vL_snoc (s : List UInt8) (c : UInt8) : vL (s ++ [c]) = vL s * 64 + nVal c := by unfold vL; rw [List.foldl_append]; rfl
theorem snocInd {α : Type} {P : List α → Prop} (h0 : P []) (h1 : ∀ l a, P l → P (l ++ [a])) : ∀ l, P l := by
  intro l
  have : ∀ n (l : List α), l.length = n → P l := by
    intro n
    induction n with
    | zero => intro l hl; rw [List.length_eq_zero_iff.1 hl]; exact h0
    | succ n ih =>
      intro l hl
      have hne : l ≠ [] := fun e => by simp [e] at hl
      rw [← List.dropLast_concat_getLast hne]
      exact h1 _ _ (ih _ (by simp [hl]))
  exact this _ l rfl
theorem ltr_idx : ∀ x : Fin 64, nIdx (ltr x.val) = x.val := by decide +kernel
theorem ltr_ok (x : Nat) (h : x < 64) : nIdx (ltr x) = x := ltr_idx ⟨x, h⟩
theorem ltr_val (x : Nat) (h : x < 64) : nVal (ltr x) = x := by unfold nVal; rw [ltr_ok x h, if_pos h]
theorem ltr_okL (x : Nat) (h : x < 64) : okL (ltr x) = true := by unfold okL; rw [ltr_ok x h]; exact decide_eq_true h
theorem ok_ltr (c : UInt8) (h : okL c = true) : ltr (nVal c) = c := by
  have h1 : nIdx c < 64 := of_decide_eq_true h
  unfold nVal
  rw [if_pos h1]
  have hl : nIdx c < b64L.length := by rw [b64L_len]; exact h1
  have h2 : (b64L[nIdx c] == c) = true := List.findIdx_getElem (xs := b64L) (p := fun x => x == c) (w := hl)
  have e : ltr (nIdx c) = b64L[nIdx c] := by unfold ltr; simp [hl]
  rw [e]; exact eq_of_beq h2
theorem eq61 : okL 61 = false := by decide +kernel
theorem vL_inj : ∀ (a b : List UInt8), a.length = b.length → a.all okL = true → b.all okL = true → vL a = vL b → a = b := by
  intro a
  induction a using snocInd with
  | h0 => intro b hl _ _ _; exact (List.length_eq_zero_iff.1 hl.symm).symm
  | h1 l x ih =>
    intro b hl ha hb hv
    have hne : b ≠ [] := fun e => by simp [e] at hl
    rw [← List.dropLast_concat_getLast hne] at hl hb hv ⊢
    generalize b.dropLast = m at *
    generalize b.getLast hne = y at *
    rw [vL_snoc, vL_snoc] at hv
    have hx := nVal_lt x
    have hy := nVal_lt y
    simp only [List.all_append, List.all_cons, List.all_nil, Bool.and_true, Bool.and_eq_true] at ha hb
    have e1 : nVal x = nVal y := by omega
    have e2 : vL l = vL m := by omega
    rw [ih m (by simpa using hl) ha.1 hb.1 e2, ← ok_ltr x ha.2, ← ok_ltr y hb.2, e1]
theorem vB_inj : ∀ (a b : List UInt8), a.length = b.length → vB a = vB b → a = b := by
  intro a
  induction a using snocInd with
  | h0 => intro b hl _; exact (List.length_eq_zero_iff.1 hl.symm).symm
  | h1 l x ih =>
    intro b hl hv
    have hne : b ≠ [] := fun e => by simp [e] at hl
    rw [← List.dropLast_concat_getLast hne] at hl hv ⊢
    generalize b.dropLast = m at *
    generalize b.getLast hne = y at *
    rw [vB_snoc, vB_snoc] at hv
    have hx := UInt8.toNat_lt x
    have hy := UInt8.toNat_lt y
    have e1 : x = y := UInt8.toNat_inj.1 (by omega)
    have e2 : vB l = vB m := by omega
    rw [ih m (by simpa using hl) e2, e1]

/-! ### what is put -/
def QE (x : List UInt8 × Nat × Nat) (n v : Nat) : Prop := (x.2.2 = 0 ∨ x.2.2 = 2 ∨ x.2.2 = 4) ∧ 8 * n = 6 * x.1.length + x.2.2 ∧ x.2.1 < 2 ^ x.2.2 ∧ vL x.1 * 2 ^ x.2.2 + x.2.1 = v ∧ x.1.all okL = true
theorem runE_QE : ∀ s : List UInt8, QE (runE s) s.length (vB s) := by
  intro s
  induction s using snocInd with
  | h0 => exact ⟨.inl rfl, rfl, by simp [runE], rfl, rfl⟩
  | h1 l c ih =>
    have hr : runE (l ++ [c]) = stepE (runE l) c := by unfold runE; rw [List.foldl_append]; rfl
    rw [hr, vB_snoc, List.length_append]
    generalize runE l = x at ih
    obtain ⟨o, b, m⟩ := x
    obtain ⟨h1, h2, h3, h4, h5⟩ := ih
    simp only at h1 h2 h3 h4 h5
    have hc := UInt8.toNat_lt c
    rcases h1 with rfl | rfl | rfl
    · have hb : b = 0 := by simpa using h3
      subst hb
      have hs := step0 o c
      rw [hs]
      refine ⟨.inr (.inl rfl), ?_, ?_, ?_, ?_⟩
      · simp at h2 ⊢; omega
      · exact Nat.mod_lt _ (by decide)
      · simp only [vL_snoc, ltr_val _ (m64 _)]; simp at h4 ⊢; omega
      · simp [h5, ltr_okL _ (m64 _)]
    · have hb : b < 4 := h3
      have hs := step2 o b _ c rfl
      rw [hs]
      refine ⟨.inr (.inr rfl), ?_, ?_, ?_, ?_⟩
      · simp at h2 ⊢; omega
      · exact Nat.mod_lt _ (by decide)
      · simp only [vL_snoc, ltr_val _ (m64 _)]; simp at h4 ⊢; omega
      · simp [h5, ltr_okL _ (m64 _)]
    · have hb : b < 16 := h3
      have hs := step4 o b _ c rfl
      rw [hs]
      refine ⟨.inl rfl, ?_, ?_, ?_, ?_⟩
      · simp at h2 ⊢; omega
      · exact Nat.zero_lt_one
      · simp only [vL_snoc, ltr_val _ (m64 _)]; simp at h4 ⊢; omega
      · simp [h5, ltr_okL _ (m64 _)]
/-- The letters, without what fills the last four. -/
def lets (x : List UInt8 × Nat × Nat) : List UInt8 := if x.2.2 = 0 then x.1 else if x.2.2 = 2 then x.1 ++ [ltr (x.2.1 * 16)] else x.1 ++ [ltr (x.2.1 * 4)]
/-- All of it: letters of the right number, so many that they hold all bits. -/
theorem putS_ok (s : List UInt8) : ∃ p L, p < 6 ∧ 6 * L.length = 8 * s.length + p ∧ vL L = vB s * 2 ^ p ∧ L.all okL = true ∧ putS s = padS L := by
  have h := runE_QE s
  unfold putS
  generalize runE s = x at h
  obtain ⟨o, b, m⟩ := x
  obtain ⟨h1, h2, h3, h4, h5⟩ := h
  simp only at h1 h2 h3 h4 h5
  rcases h1 with rfl | rfl | rfl
  · refine ⟨0, o, by omega, by omega, ?_, h5, ?_⟩
    · have hb : b = 0 := by simpa using h3
      subst hb; simp at h4 ⊢; omega
    · have e : (4 - o.length % 4) % 4 = 0 := by omega
      unfold padS; rw [e]; simp [finE]
  · refine ⟨4, o ++ [ltr (b * 16)], by omega, by simp; omega, ?_, ?_, ?_⟩
    · have hb : b < 4 := h3
      rw [vL_snoc, ltr_val _ (by omega)]; simp at h4 ⊢; omega
    · have hb : b < 4 := h3
      simp [h5, ltr_okL (b * 16) (by omega)]
    · have e : (4 - (o ++ [ltr (b * 16)]).length % 4) % 4 = 2 := by simp; omega
      unfold padS; rw [e]; simp [finE, List.replicate]
  · refine ⟨2, o ++ [ltr (b * 4)], by omega, by simp; omega, ?_, ?_, ?_⟩
    · have hb : b < 16 := h3
      rw [vL_snoc, ltr_val _ (by omega)]; simp at h4 ⊢; omega
    · have hb : b < 16 := h3
      simp [h5, ltr_okL (b * 4) (by omega)]
    · have e : (4 - (o ++ [ltr (b * 4)]).length % 4) % 4 = 1 := by simp; omega
      unfold padS; rw [e]; simp [finE, List.replicate]
theorem putS_of (s L : List UInt8) (p : Nat) (hp : p < 6) (hl : 6 * L.length = 8 * s.length + p) (hv : vL L = vB s * 2 ^ p) (ha : L.all okL = true) : putS s = padS L := by
  obtain ⟨q, M, hq, hm, hw, hb, he⟩ := putS_ok s
  have e1 : M.length = L.length := by omega
  have e2 : q = p := by omega
  subst e2
  rw [he, vL_inj M L e1 hb ha (by rw [hw, hv])]
end Go.Proofs.YtcffpndhodhncaaDoor
end
section
/- Base: what is read comes back; the law's letters are those; awake; the laws. -/
set_option linter.unusedSimpArgs false
set_option linter.unusedVariables false
namespace Go.Proofs.YtcffpndhodhncaaDoor
open Go.RowKit Go.Bo Go.Ab

def QR (x : List UInt8 × Nat × Nat) (k u : Nat) : Prop := (x.2.2 = 0 ∨ x.2.2 = 6 ∨ x.2.2 = 4 ∨ x.2.2 = 2) ∧ 6 * k = 8 * x.1.length + x.2.2 ∧ x.2.1 < 2 ^ x.2.2 ∧ vB x.1 * 2 ^ x.2.2 + x.2.1 = u
theorem ofN (q : Nat) (h : q < 256) : (UInt8.ofNat q).toNat = q := by simp; omega
theorem runR_QR : ∀ s : List UInt8, QR (runR s) s.length (vL s) := by
  intro s
  induction s using snocInd with
  | h0 => exact ⟨.inl rfl, rfl, by simp [runR], rfl⟩
  | h1 l c ih =>
    have hr : runR (l ++ [c]) = stepR (runR l) c := by unfold runR; rw [List.foldl_append]; rfl
    rw [hr, vL_snoc, List.length_append]
    generalize runR l = x at ih
    obtain ⟨o, b, m⟩ := x
    obtain ⟨h1, h2, h3, h4⟩ := ih
    simp only at h1 h2 h3 h4
    have hc := nVal_lt c
    rcases h1 with rfl | rfl | rfl | rfl
    · have hb : b = 0 := by simpa using h3
      subst hb
      have hs : stepR (o, 0, 0) c = (o, 0 * 64 + nVal c, 6) := rfl
      rw [hs]
      refine ⟨.inr (.inl rfl), ?_, ?_, ?_⟩
      · simp at h2 ⊢; omega
      · show 0 * 64 + nVal c < 64; omega
      · simp at h4 ⊢; omega
    · have hb : b < 64 := h3
      have hs : stepR (o, b, 6) c = (o ++ [UInt8.ofNat ((b * 64 + nVal c) / 16)], (b * 64 + nVal c) % 16, 4) := rfl
      rw [hs]
      refine ⟨.inr (.inr (.inl rfl)), ?_, Nat.mod_lt _ (by decide), ?_⟩
      · simp at h2 ⊢; omega
      · simp only [vB_snoc, ofN ((b * 64 + nVal c) / 16) (by omega)]; simp at h4 ⊢; omega
    · have hb : b < 16 := h3
      have hs : stepR (o, b, 4) c = (o ++ [UInt8.ofNat ((b * 64 + nVal c) / 4)], (b * 64 + nVal c) % 4, 2) := rfl
      rw [hs]
      refine ⟨.inr (.inr (.inr rfl)), ?_, Nat.mod_lt _ (by decide), ?_⟩
      · simp at h2 ⊢; omega
      · simp only [vB_snoc, ofN ((b * 64 + nVal c) / 4) (by omega)]; simp at h4 ⊢; omega
    · have hb : b < 4 := h3
      have hs : stepR (o, b, 2) c = (o ++ [UInt8.ofNat (b * 64 + nVal c)], 0, 0) := rfl
      rw [hs]
      refine ⟨.inl rfl, ?_, Nat.zero_lt_one, ?_⟩
      · simp at h2 ⊢; omega
      · simp only [vB_snoc, ofN (b * 64 + nVal c) (by omega)]; simp at h4 ⊢; omega
theorem trim_pad (L : List UInt8) (q : Nat) (h : L.all okL = true) : trimE (L ++ List.replicate q 61) = L := by
  unfold trimE
  rw [List.reverse_append, List.reverse_replicate, List.dropWhile_append_of_pos (by intro x hx; rw [(List.mem_replicate.1 hx).2]; rfl)]
  have hne : ∀ x ∈ L.reverse, (x == 61) = false := by
    intro x hx
    rw [beq_eq_false_iff_ne]
    rintro rfl
    have := List.all_eq_true.1 h 61 (List.mem_reverse.1 hx)
    rw [eq61] at this; cases this
  have : L.reverse.dropWhile (· == 61) = L.reverse := by
    cases hr : L.reverse with
    | nil => rfl
    | cons x l => rw [List.dropWhile_cons, hne x (by rw [hr]; exact List.mem_cons_self)]; rfl
  rw [this, List.reverse_reverse]
theorem trim_split (t : List UInt8) : t = trimE t ++ List.replicate (t.length - (trimE t).length) 61 := by
  have h1 : t.reverse = t.reverse.takeWhile (· == 61) ++ t.reverse.dropWhile (· == 61) := (List.takeWhile_append_dropWhile).symm
  have h2 : t = trimE t ++ (t.reverse.takeWhile (· == 61)).reverse := by
    have := congrArg List.reverse h1
    rw [List.reverse_reverse, List.reverse_append] at this
    exact this
  have h3 : ∀ x ∈ (t.reverse.takeWhile (· == 61)).reverse, x = 61 := by
    intro x hx
    have := List.all_eq_true.1 (List.all_takeWhile (p := (· == (61 : UInt8))) (l := t.reverse)) x (List.mem_reverse.1 hx)
    exact eq_of_beq this
  have h4 := List.eq_replicate_of_mem h3
  have h5 : (t.reverse.takeWhile (· == 61)).reverse.length = t.length - (trimE t).length := by
    have := congrArg List.length h2
    rw [List.length_append] at this; omega
  rw [h5] at h4
  rw [← h4]; exact h2
theorem read_put (s : List UInt8) : readS (putS s) = (s, 0) := by
  obtain ⟨p, L, hp, hl, hv, ha, he⟩ := putS_ok s
  have ht : trimE (putS s) = L := by rw [he]; exact trim_pad L _ ha
  have hpl : (putS s).length = L.length + (4 - L.length % 4) % 4 := by rw [he]; simp [padS]
  have hq := runR_QR L
  unfold readS
  rw [ht, hpl]
  generalize runR L = x at hq ⊢
  obtain ⟨o, b, m⟩ := x
  obtain ⟨h1, h2, h3, h4⟩ := hq
  simp only at h1 h2 h3 h4 ⊢
  have hm : m = p := by omega
  subst hm
  have hol : o.length = s.length := by omega
  rw [hv] at h4
  have hb0 : b = 0 ∧ vB o = vB s := by
    rcases h1 with rfl | rfl | rfl | rfl <;> simp at h3 h4 <;> omega
  rw [if_pos ⟨by omega, by omega, ha, hb0.1, hp⟩, vB_inj o s hol hb0.2]
theorem put_read (t : List UInt8) : (readS t).2 = 0 ∧ putS (readS t).1 = t ∨ readS t = ([], 5) := by
  unfold readS
  split
  · rename_i h
    obtain ⟨c1, c2, c3, c4, c5⟩ := h
    refine .inl ⟨rfl, ?_⟩
    have hq := runR_QR (trimE t)
    have hsp := trim_split t
    have hle := trimE_len t
    generalize runR (trimE t) = x at hq c4 c5 ⊢
    obtain ⟨o, b, m⟩ := x
    obtain ⟨h1, h2, h3, h4⟩ := hq
    simp only at h1 h2 h3 h4 c4 c5 ⊢
    subst c4
    rw [putS_of o (trimE t) m c5 (by omega) (by omega) c3]
    unfold padS
    rw [show (4 - (trimE t).length % 4) % 4 = t.length - (trimE t).length by omega]
    exact hsp.symm
  · exact .inr rfl
/-! ### the law's letters -/
theorem nvS_add (s : List UInt8) (i a : Nat) : ∀ t, nvS s i (a + t) = nvS s i a * 2 ^ t + nvS s (i + a) t
  | 0 => by simp [nvS]
  | t + 1 => by
    rw [← Nat.add_assoc, nvS, nvS_add s i a t, nvS, Nat.add_assoc, Nat.pow_succ, Nat.add_mul, Nat.mul_assoc, Nat.add_assoc]
theorem vL_letS (s : List UInt8) : ∀ g, vL (letS s g) = nvS s 0 (6 * g)
  | 0 => rfl
  | g + 1 => by
    rw [letS_succ, vL_snoc, vL_letS s g, ltr_val _ (nvS_lt6 s _ 6 (by omega)), show 6 * (g + 1) = 6 * g + 6 by omega, nvS_add, Nat.zero_add]
theorem ok_letS (s : List UInt8) (g : Nat) : (letS s g).all okL = true := by
  rw [List.all_eq_true]
  intro x hx
  obtain ⟨i, _, rfl⟩ := List.mem_map.1 hx
  exact ltr_okL _ (nvS_lt6 s _ 6 (by omega))
theorem bit8 (s : List UInt8) (j r : Nat) (hj : j < s.length) (hr : r < 8) : bitS s (8 * j + r) = s[j].toNat / 2 ^ (7 - r) % 2 := by
  unfold bitS
  have e1 : (8 * j + r) / 8 = j := by omega
  have e2 : (8 * j + r) % 8 = r := by omega
  rw [if_pos (by omega), e1, e2, show s.getD j 0 = s[j] by simp [hj]]
theorem byte8N : ∀ c : Fin 256, (((((((0 * 2 + c.val / 2 ^ (7 - 0) % 2) * 2 + c.val / 2 ^ (7 - 1) % 2) * 2 + c.val / 2 ^ (7 - 2) % 2) * 2 + c.val / 2 ^ (7 - 3) % 2) * 2 + c.val / 2 ^ (7 - 4) % 2) * 2 + c.val / 2 ^ (7 - 5) % 2) * 2 + c.val / 2 ^ (7 - 6) % 2) * 2 + c.val / 2 ^ (7 - 7) % 2 = c.val := by decide +kernel
theorem nvS8 (s : List UInt8) (i : Nat) : nvS s i 8 = (((((((0 * 2 + bitS s (i + 0)) * 2 + bitS s (i + 1)) * 2 + bitS s (i + 2)) * 2 + bitS s (i + 3)) * 2 + bitS s (i + 4)) * 2 + bitS s (i + 5)) * 2 + bitS s (i + 6)) * 2 + bitS s (i + 7) := rfl
theorem nvS_byte (s : List UInt8) (j : Nat) (hj : j < s.length) : nvS s (8 * j) 8 = s[j].toNat := by
  rw [nvS8, bit8 s j 0 hj (by decide), bit8 s j 1 hj (by decide), bit8 s j 2 hj (by decide), bit8 s j 3 hj (by decide), bit8 s j 4 hj (by decide), bit8 s j 5 hj (by decide), bit8 s j 6 hj (by decide), bit8 s j 7 hj (by decide)]
  exact byte8N ⟨s[j].toNat, UInt8.toNat_lt _⟩
theorem nvS_bytes (s : List UInt8) : ∀ j, j ≤ s.length → nvS s 0 (8 * j) = vB (s.take j)
  | 0, _ => rfl
  | j + 1, h => by
    rw [show 8 * (j + 1) = 8 * j + 8 by omega, nvS_add, nvS_bytes s j (by omega), Nat.zero_add, nvS_byte s j (by omega), List.take_succ_eq_append_getElem (by omega), vB_snoc]
theorem nvS_none (s : List UInt8) : ∀ p, nvS s (8 * s.length) p = 0
  | 0 => rfl
  | p + 1 => by rw [nvS, nvS_none s p]; unfold bitS; rw [if_neg (by omega)]
theorem letS_put (s : List UInt8) : padS (letS s ((8 * s.length + 5) / 6)) = putS s := by
  obtain ⟨p, hp⟩ : ∃ p, 6 * ((8 * s.length + 5) / 6) = 8 * s.length + p := ⟨6 * ((8 * s.length + 5) / 6) - 8 * s.length, by omega⟩
  refine (putS_of s _ p (by omega) (by rw [letS_len]; exact hp) ?_ (ok_letS _ _)).symm
  rw [vL_letS, hp, nvS_add, nvS_bytes s s.length (Nat.le_refl _), List.take_length, Nat.zero_add, nvS_none]; rfl
/-! ### tables and laws -/
def read33G : List D → Option (Bool × D)
  | [.x (.str s)] => some (decide (s.length ≤ 1000000), .tup [.x (.str (readS s).1), .x (.int .i64 (readS s).2)])
  | _ => none
theorem read33G_ok : ∀ args r, read33G args = some (true, r) → PCalls Tryd.prog 8 args r := by
  intro args r h
  unfold read33G at h
  split at h
  · rename_i s
    simp only [Option.some.injEq, Prod.mk.injEq, Bool.and_eq_true, decide_eq_true_eq, true_and] at h
    obtain ⟨h1, rfl⟩ := h
    exact read33_c s h1
  · cases h
def put33rG : List D → Option (Bool × D)
  | [.x (.str s)] => some (decide (s.length ≤ 1000000), .x (.str (putS s)))
  | _ => none
theorem put33rG_ok : ∀ args r, put33rG args = some (true, r) → PCalls Tryd.prog 7 args r := by
  intro args r h
  unfold put33rG at h
  split at h
  · rename_i s
    simp only [Option.some.injEq, Prod.mk.injEq, Bool.and_eq_true, decide_eq_true_eq, true_and] at h
    obtain ⟨h1, rfl⟩ := h
    exact (by rw [← letS_put]; exact put33r_c s h1)
  · cases h
def tabBaA : Tabs := addQ (addQ (noTabs) 6 put33G) 8 read33G
theorem tabBaA_ok : SsOk Tryd.prog tabBaA := addQ_ok (addQ_ok (noTabs_ok) put33_enters put33G_ok) (G_enters G_ok (p := i8) rfl) read33G_ok
theorem tabBaA_q6 (a : List D) : tabBaA.q 6 a = put33G a := rfl
theorem tabBaA_q8 (a : List D) : tabBaA.q 8 a = read33G a := rfl
theorem tabBaA_r (f : FuncId) (a : List D) (o : List Ob) : tabBaA.r f a o = none := rfl
theorem tabBaA_k (f : FuncId) (a : List D) (o : List Ob) : tabBaA.k f a o = none := rfl
theorem awake33_c : PCalls Tryd.prog 5 [] (.x (.bool true)) := ev_closedS G_ok 300 (p := i5) rfl tabBaA_ok (by kernel_rfl) rfl
def awake33G : List D → Option (Bool × D)
  | [] => some (true, .x (.bool true))
  | _ => none
theorem awake33G_ok : ∀ args r, awake33G args = some (true, r) → PCalls Tryd.prog 5 args r := by
  intro args r h
  unfold awake33G at h
  split at h
  · simp only [Option.some.injEq, Prod.mk.injEq, true_and] at h
    subst h; exact awake33_c
  · cases h
def tabBaW : Tabs := addQ (addQ (addQ (addQ (noTabs) 5 awake33G) 6 put33G) 8 read33G) 7 put33rG
theorem tabBaW_ok : SsOk Tryd.prog tabBaW := addQ_ok (addQ_ok (addQ_ok (addQ_ok (noTabs_ok) (G_enters G_ok (p := i5) rfl) awake33G_ok) put33_enters put33G_ok) (G_enters G_ok (p := i8) rfl) read33G_ok) (G_enters G_ok (p := i7) rfl) put33rG_ok
theorem tabBaW_q5 (a : List D) : tabBaW.q 5 a = awake33G a := rfl
theorem tabBaW_q6 (a : List D) : tabBaW.q 6 a = put33G a := rfl
theorem tabBaW_q8 (a : List D) : tabBaW.q 8 a = read33G a := rfl
theorem tabBaW_q7 (a : List D) : tabBaW.q 7 a = put33rG a := rfl
theorem tabBaW_r (f : FuncId) (a : List D) (o : List Ob) : tabBaW.r f a o = none := rfl
theorem tabBaW_k (f : FuncId) (a : List D) (o : List Ob) : tabBaW.k f a o = none := rfl
theorem basePuts_c (s : List UInt8) : PCalls Tryd.prog 3 [.x (.str s)] (.x (.bool true)) := by
  refine FCalls.pure (fcallsG (fz := true) G_ok (p := i3) rfl _ (Nat.le_of_ble_eq_true rfl) _ (fun C0 E0 => ?_)) rfl
  dsimp only [i3, argsφ]
  have uu := And.intro @awake33G.eq_1 (And.intro @awake33G.eq_2 (And.intro @put33G.eq_1 (And.intro @put33G.eq_2 (And.intro @put33rG.eq_1 (And.intro @put33rG.eq_2 (And.intro @tabBaW_r (And.intro @tabBaW_k (And.intro @tabBaW_q5 (And.intro @tabBaW_q6 (And.intro @tabBaW_q7 (And.intro @tabBaW_q8 (And.intro @read33G.eq_1 (@read33G.eq_2)))))))))))))
  refine WI.seq ?_
  refine WI.regB tabBaW_ok [0] ?_
  refine oS ?_
  refine oN ?_
  refine thenQ_normal ?_
  refine WI.seq ?_
  refine WI.seq ?_
  refine WI.regB tabBaW_ok [0, 5] ?_
  refine oS ?_
  iterate 2 refine oG ?_
  refine oN ?_
  refine thenQ_normal ?_
  refine WI.cond (b := _) rfl rfl (fun h0 => ?_) (fun h0 => ?_)
  · try simp only [zB] at h0
    refine WI.seq ?_
    refine WI.regB tabBaW_ok [2] ?_
    refine oC ?_
    refine oS ?_
    refine oN ?_
    refine thenQ_normal ?_
    refine WI.ret ?_
    refine thenQ_ret ?_
    first | refine lfR ?_ | refine lfR2 ?_
    first | rfl | (trace_state; sorry) -- leaf 0
  · try simp only [zB] at h0
    refine WI.skip ?_
    refine thenQ_normal ?_
    refine WI.seq ?_
    refine WI.regB tabBaW_ok [2] ?_
    refine oS ?_
    refine oC ?_
    refine oS ?_
    refine oC ?_
    refine oG ?_
    refine oS ?_
    refine oC ?_
    refine oG ?_
    refine oS ?_
    refine oN ?_
    refine thenQ_normal ?_
    refine WI.ret ?_
    first | refine lfR ?_ | refine lfR2 ?_
    first | rfl | (trace_state; sorry) -- leaf 1
theorem putS_len (s : List UInt8) : (putS s).length ≤ 2 * s.length + 10 := by
  obtain ⟨p, L, hp, hl, hv, ha, he⟩ := putS_ok s
  rw [he]; simp [padS]; omega
theorem readS_len (t : List UInt8) : (readS t).1.length ≤ t.length := by
  unfold readS
  split
  · have := (runR_QR (trimE t)).2.1
    have := trimE_len t
    simp only; omega
  · simp
theorem baseBack_c (s t : List UInt8) : PCalls Tryd.prog 4 [.x (.str s), .x (.str t)] (.x (.bool true)) := by
  have h1 := putS_len s
  have h2 := readS_len t
  have e1 := read_put s
  rcases put_read t with ⟨e2, e3⟩ | e2
  · skip
    refine FCalls.pure (fcallsG (fz := true) G_ok (p := i4) rfl _ (Nat.le_of_ble_eq_true rfl) _ (fun C0 E0 => ?_)) rfl
    dsimp only [i4, argsφ]
    have uu := And.intro @awake33G.eq_1 (And.intro @awake33G.eq_2 (And.intro @put33G.eq_1 (And.intro @put33G.eq_2 (And.intro @put33rG.eq_1 (And.intro @put33rG.eq_2 (And.intro @read33G.eq_1 (And.intro @read33G.eq_2 (And.intro @e1 (And.intro @e2 (And.intro @e3 (And.intro @tabBaW_r (And.intro @tabBaW_k (And.intro @tabBaW_q5 (And.intro @tabBaW_q6 (And.intro @tabBaW_q7 (@tabBaW_q8))))))))))))))))
    refine WI.seq ?_
    refine WI.regB tabBaW_ok [0, 1] ?_
    refine oS ?_
    refine oN ?_
    refine thenQ_normal ?_
    refine WI.seq ?_
    refine WI.seq ?_
    refine WI.regB tabBaW_ok [0, 1, 16] ?_
    refine oS ?_
    iterate 2 refine oG ?_
    refine oS ?_
    iterate 4 refine oG ?_
    refine oN ?_
    refine thenQ_normal ?_
    refine WI.cond (b := _) rfl rfl (fun h0 => ?_) (fun h0 => ?_)
    · try simp only [zB] at h0
      refine WI.seq ?_
      refine WI.regB tabBaW_ok [4] ?_
      refine oC ?_
      refine oS ?_
      refine oN ?_
      refine thenQ_normal ?_
      refine WI.ret ?_
      refine thenQ_ret ?_
      first | refine lfR ?_ | refine lfR2 ?_
      first | rfl | (trace_state; sorry) -- leaf 0
    · try simp only [zB] at h0
      refine WI.skip ?_
      refine thenQ_normal ?_
      refine WI.seq ?_
      refine WI.regB tabBaW_ok [0, 1, 5, 6] ?_
      refine oS ?_
      iterate 2 refine oC ?_
      refine oS ?_
      iterate 2 refine oG ?_
      iterate 2 refine oS ?_
      refine oN ?_
      refine thenQ_normal ?_
      refine WI.seq ?_
      refine WI.regB tabBaW_ok [0, 1, 5, 6, 7, 8] ?_
      refine oS ?_
      refine oC ?_
      refine oS ?_
      iterate 2 refine oG ?_
      iterate 2 refine oS ?_
      refine oN ?_
      refine thenQ_normal ?_
      refine WI.seq ?_
      refine WI.regB tabBaW_ok [4] ?_
      iterate 2 refine oS ?_
      refine oG ?_
      refine oS ?_
      iterate 3 refine oG ?_
      refine oS ?_
      iterate 4 refine oG ?_
      refine oC ?_
      iterate 12 refine oG ?_
      refine oS ?_
      refine oC ?_
      refine oG ?_
      refine oS ?_
      refine oN ?_
      refine thenQ_normal ?_
      refine WI.ret ?_
      first | refine lfR ?_ | refine lfR2 ?_
      first | rfl | (trace_state; sorry) -- leaf 1
  · skip
    refine FCalls.pure (fcallsG (fz := true) G_ok (p := i4) rfl _ (Nat.le_of_ble_eq_true rfl) _ (fun C0 E0 => ?_)) rfl
    dsimp only [i4, argsφ]
    have uu := And.intro @awake33G.eq_1 (And.intro @awake33G.eq_2 (And.intro @put33G.eq_1 (And.intro @put33G.eq_2 (And.intro @put33rG.eq_1 (And.intro @put33rG.eq_2 (And.intro @read33G.eq_1 (And.intro @read33G.eq_2 (And.intro @e1 (And.intro @e2 (And.intro @tabBaW_r (And.intro @tabBaW_k (And.intro @tabBaW_q5 (And.intro @tabBaW_q6 (And.intro @tabBaW_q7 (@tabBaW_q8)))))))))))))))
    refine WI.seq ?_
    refine WI.regB tabBaW_ok [0, 1] ?_
    refine oS ?_
    refine oN ?_
    refine thenQ_normal ?_
    refine WI.seq ?_
    refine WI.seq ?_
    refine WI.regB tabBaW_ok [0, 1, 16] ?_
    refine oS ?_
    iterate 2 refine oG ?_
    refine oS ?_
    iterate 4 refine oG ?_
    refine oN ?_
    refine thenQ_normal ?_
    refine WI.cond (b := _) rfl rfl (fun h0 => ?_) (fun h0 => ?_)
    · try simp only [zB] at h0
      refine WI.seq ?_
      refine WI.regB tabBaW_ok [4] ?_
      refine oC ?_
      refine oS ?_
      refine oN ?_
      refine thenQ_normal ?_
      refine WI.ret ?_
      refine thenQ_ret ?_
      first | refine lfR ?_ | refine lfR2 ?_
      first | rfl | (trace_state; sorry) -- leaf 0
    · try simp only [zB] at h0
      refine WI.skip ?_
      refine thenQ_normal ?_
      refine WI.seq ?_
      refine WI.regB tabBaW_ok [0, 1, 5, 6] ?_
      refine oS ?_
      iterate 2 refine oC ?_
      refine oS ?_
      iterate 2 refine oG ?_
      iterate 2 refine oS ?_
      refine oN ?_
      refine thenQ_normal ?_
      refine WI.seq ?_
      refine WI.regB tabBaW_ok [0, 1, 5, 6, 7, 8] ?_
      refine oS ?_
      refine oC ?_
      refine oS ?_
      iterate 2 refine oG ?_
      iterate 2 refine oS ?_
      refine oN ?_
      refine thenQ_normal ?_
      refine WI.seq ?_
      refine WI.regB tabBaW_ok [4] ?_
      iterate 2 refine oS ?_
      refine oG ?_
      refine oS ?_
      iterate 3 refine oG ?_
      refine oS ?_
      iterate 4 refine oG ?_
      refine oC ?_
      iterate 12 refine oG ?_
      refine oS ?_
      refine oC ?_
      refine oG ?_
      refine oS ?_
      refine oN ?_
      refine thenQ_normal ?_
      refine WI.ret ?_
      first | refine lfR ?_ | refine lfR2 ?_
      first | rfl | (trace_state; sorry) -- leaf 1
end Go.Proofs.YtcffpndhodhncaaDoor
end
