/- num.Put and bothyref02.Put: both give the bytes putB, or ErrRange. -/
import Derived.Test.YtecfcamlnfmebaaRows
import Derived.Test.YtecfcamlnfmebaaOwn
import Derived.Handy
namespace Go.Proofs.Ytecfcamlnfmebaa
open Go.RowKit Go.Bo

/-- The bytes of a number, so many. -/
def manyB (n : Int) : Nat → List Int
  | 0 => []
  | 1 => [n % 256]
  | 2 => [n / 256 % 256, n % 256]
  | 3 => [n / 65536 % 256, n / 256 % 256, n % 256]
  | _ => [n / 16777216 % 256, n / 65536 % 256, n / 256 % 256, n % 256]
def manyF (n : Int) : Nat := if -128 ≤ n ∧ n < 128 then 1 else if -32768 ≤ n ∧ n < 32768 then 2 else if -8388608 ≤ n ∧ n < 8388608 then 3 else 4
def putB (n : Int) : List Int := manyB n (manyF n)

set_option maxRecDepth 100000 in
set_option maxHeartbeats 1000000 in
theorem put_1 (n : Int) (w : World) (h0 : -128 ≤ n) (h1 : n < 128) :
    Calls Try.prog 28 #[.int .i64 n] w fun e w' => e = .returned (.tuple #[.string (bytesOf [n % 256]), .int .i64 0]) ∧ Ext w w' := by
  have hmk : ∀ w, (Instr.makeSlice 77 (.int .i64 1) (.int .i64 1)).run Try.prog w = .ok (.slice (some ⟨w.heap.size, 0, none⟩) 1 1) (w.alloc (.cells #[.int .u8 0] 5)) := fun _ => by kernel_rfl
  have hn : (n / 128 != 0) = false ∨ (n / 128 != 0) = true ∧ (n / 128 != -1) = false := by
    simp only [bne_eq_false_iff_eq, bne_iff_ne]; omega
  rcases hn with hn | ⟨hn, hn'⟩
  all_goals
    go_enter Try.func28, Try.ntmps28
    go_wp2_with fail
    refine wp_loop_rounds 1 ?_
    iterate 1 (rw [rounds_succ]; go_wp2_with fail)
    refine wp_loop_rounds 2 ?_
    iterate 1 (rw [rounds_succ]; go_wp2_with fail)
    rw [rounds_succ]; go_wp2_with (with_reducible refine wp_string_bytes 77 9 5 _ rfl rfl Try.underlying77 Try.underlying5 Try.underlying9 _ _ _ [n % 256] rfl rfl ?c1 ?c2 ?_)
    case c1 => intro h; cases h
    case c2 => rintro b ⟨⟩; exact cells_new1 _ _ _
    go_wp2_with fail
    go_ret2
    exact ⟨rfl, ((Ext.refl _).al _)⟩

set_option maxRecDepth 100000 in
set_option maxHeartbeats 1000000 in
theorem put_2 (n : Int) (w : World) (h0 : -32768 ≤ n) (h1 : n < 32768) (h2 : n < -128 ∨ 128 ≤ n) :
    Calls Try.prog 28 #[.int .i64 n] w fun e w' => e = .returned (.tuple #[.string (bytesOf [n / 256 % 256, n % 256]), .int .i64 0]) ∧ Ext w w' := by
  have hmk : ∀ w, (Instr.makeSlice 77 (.int .i64 2) (.int .i64 2)).run Try.prog w = .ok (.slice (some ⟨w.heap.size, 0, none⟩) 2 2) (w.alloc (.cells #[.int .u8 0, .int .u8 0] 5)) := fun _ => by kernel_rfl
  have ha : (n / 128 != 0) = true ∧ (n / 128 != -1) = true := by
    simp only [bne_iff_ne]; omega
  obtain ⟨a0, b0⟩ := ha
  have hn : (n / 32768 != 0) = false ∨ (n / 32768 != 0) = true ∧ (n / 32768 != -1) = false := by
    simp only [bne_eq_false_iff_eq, bne_iff_ne]; omega
  rcases hn with hn | ⟨hn, hn'⟩
  all_goals
    go_enter Try.func28, Try.ntmps28
    go_wp2_with fail
    refine wp_loop_rounds 2 ?_
    iterate 2 (rw [rounds_succ]; go_wp2_with fail)
    refine wp_loop_rounds 3 ?_
    iterate 2 (rw [rounds_succ]; go_wp2_with fail)
    rw [rounds_succ]; go_wp2_with (with_reducible refine wp_string_bytes 77 9 5 _ rfl rfl Try.underlying77 Try.underlying5 Try.underlying9 _ _ _ [n / 256 % 256, n % 256] rfl rfl ?c1 ?c2 ?_)
    case c1 => intro h; cases h
    case c2 => rintro b ⟨⟩; exact cells_new1 _ _ _
    go_wp2_with fail
    go_ret2
    exact ⟨rfl, ((Ext.refl _).al _)⟩

set_option maxRecDepth 100000 in
set_option maxHeartbeats 1000000 in
theorem put_3 (n : Int) (w : World) (h0 : -8388608 ≤ n) (h1 : n < 8388608) (h2 : n < -32768 ∨ 32768 ≤ n) :
    Calls Try.prog 28 #[.int .i64 n] w fun e w' => e = .returned (.tuple #[.string (bytesOf [n / 65536 % 256, n / 256 % 256, n % 256]), .int .i64 0]) ∧ Ext w w' := by
  have hmk : ∀ w, (Instr.makeSlice 77 (.int .i64 3) (.int .i64 3)).run Try.prog w = .ok (.slice (some ⟨w.heap.size, 0, none⟩) 3 3) (w.alloc (.cells #[.int .u8 0, .int .u8 0, .int .u8 0] 5)) := fun _ => by kernel_rfl
  have ha : (n / 128 != 0) = true ∧ (n / 128 != -1) = true ∧ (n / 32768 != 0) = true ∧ (n / 32768 != -1) = true := by
    simp only [bne_iff_ne]; omega
  obtain ⟨a0, b0, a1, b1⟩ := ha
  have hn : (n / 8388608 != 0) = false ∨ (n / 8388608 != 0) = true ∧ (n / 8388608 != -1) = false := by
    simp only [bne_eq_false_iff_eq, bne_iff_ne]; omega
  rcases hn with hn | ⟨hn, hn'⟩
  all_goals
    go_enter Try.func28, Try.ntmps28
    go_wp2_with fail
    refine wp_loop_rounds 3 ?_
    iterate 3 (rw [rounds_succ]; go_wp2_with fail)
    refine wp_loop_rounds 4 ?_
    iterate 3 (rw [rounds_succ]; go_wp2_with fail)
    rw [rounds_succ]; go_wp2_with (with_reducible refine wp_string_bytes 77 9 5 _ rfl rfl Try.underlying77 Try.underlying5 Try.underlying9 _ _ _ [n / 65536 % 256, n / 256 % 256, n % 256] rfl rfl ?c1 ?c2 ?_)
    case c1 => intro h; cases h
    case c2 => rintro b ⟨⟩; exact cells_new1 _ _ _
    go_wp2_with fail
    go_ret2
    exact ⟨rfl, ((Ext.refl _).al _)⟩

set_option maxRecDepth 100000 in
set_option maxHeartbeats 1000000 in
theorem put_4 (n : Int) (w : World) (h0 : -2147483648 ≤ n) (h1 : n < 2147483648) (h2 : n < -8388608 ∨ 8388608 ≤ n) :
    Calls Try.prog 28 #[.int .i64 n] w fun e w' => e = .returned (.tuple #[.string (bytesOf [n / 16777216 % 256, n / 65536 % 256, n / 256 % 256, n % 256]), .int .i64 0]) ∧ Ext w w' := by
  have hmk : ∀ w, (Instr.makeSlice 77 (.int .i64 4) (.int .i64 4)).run Try.prog w = .ok (.slice (some ⟨w.heap.size, 0, none⟩) 4 4) (w.alloc (.cells #[.int .u8 0, .int .u8 0, .int .u8 0, .int .u8 0] 5)) := fun _ => by kernel_rfl
  have ha : (n / 128 != 0) = true ∧ (n / 128 != -1) = true ∧ (n / 32768 != 0) = true ∧ (n / 32768 != -1) = true ∧ (n / 8388608 != 0) = true ∧ (n / 8388608 != -1) = true := by
    simp only [bne_iff_ne]; omega
  obtain ⟨a0, b0, a1, b1, a2, b2⟩ := ha
  have hn : (n / 2147483648 != 0) = false ∨ (n / 2147483648 != 0) = true ∧ (n / 2147483648 != -1) = false := by
    simp only [bne_eq_false_iff_eq, bne_iff_ne]; omega
  rcases hn with hn | ⟨hn, hn'⟩
  all_goals
    go_enter Try.func28, Try.ntmps28
    go_wp2_with fail
    refine wp_loop_rounds 4 ?_
    iterate 4 (rw [rounds_succ]; go_wp2_with fail)
    refine wp_loop_rounds 5 ?_
    iterate 4 (rw [rounds_succ]; go_wp2_with fail)
    rw [rounds_succ]; go_wp2_with (with_reducible refine wp_string_bytes 77 9 5 _ rfl rfl Try.underlying77 Try.underlying5 Try.underlying9 _ _ _ [n / 16777216 % 256, n / 65536 % 256, n / 256 % 256, n % 256] rfl rfl ?c1 ?c2 ?_)
    case c1 => intro h; cases h
    case c2 => rintro b ⟨⟩; exact cells_new1 _ _ _
    go_wp2_with fail
    go_ret2
    exact ⟨rfl, ((Ext.refl _).al _)⟩

theorem put_ok (n : Int) (w : World) (h0 : -2147483648 ≤ n) (h1 : n ≤ 2147483647) :
    Calls Try.prog 28 #[.int .i64 n] w fun e w' => e = .returned (.tuple #[.string (bytesOf (putB n)), .int .i64 0]) ∧ Ext w w' := by
  unfold putB manyF
  split
  · rename_i h; exact put_1 n w h.1 h.2
  · split
    · rename_i h; exact put_2 n w h.1 h.2 (by omega)
    · split
      · rename_i h; exact put_3 n w h.1 h.2 (by omega)
      · exact put_4 n w (by omega) (by omega) (by omega)

theorem put_no (n : Int) (w : World) (h : n < -2147483648 ∨ 2147483647 < n) :
    Calls Try.prog 28 #[.int .i64 n] w fun e w' => e = .returned (.tuple #[.string ByteArray.empty, .int .i64 2]) ∧ Ext w w' := by
  rcases h with h | h
  · go_enter Try.func28, Try.ntmps28
    go_wp2_with fail
    go_ret2
    exact ⟨rfl, Ext.refl _⟩
  · have hd : decide (n < -2147483648) = false := by simp; omega
    go_enter Try.func28, Try.ntmps28
    go_wp2_with fail
    go_ret2
    exact ⟨rfl, Ext.refl _⟩

theorem info_u8 : (Try.prog.info? 5).map (fun i => (i.zero, i.size, i.bytes)) = some (some (.int .u8 0), 1, 1) := by kernel_rfl

theorem manyB_snoc (n : Int) (m : Nat) (hm : m ≤ 4) (k : Nat) (hk : k < m) : (manyB n m).take (k + 1) = (manyB n m).take k ++ [(n / 256 ^ (m - 1 - k)) % 256] := by
  have : m = 0 ∨ m = 1 ∨ m = 2 ∨ m = 3 ∨ m = 4 := by omega
  rcases this with rfl | rfl | rfl | rfl | rfl
  · omega
  · have : k = 0 := by omega
    subst this; simp [manyB]
  · have : k = 0 ∨ k = 1 := by omega
    rcases this with rfl | rfl <;> simp [manyB]
  · have : k = 0 ∨ k = 1 ∨ k = 2 := by omega
    rcases this with rfl | rfl | rfl <;> simp [manyB]
  · have : k = 0 ∨ k = 1 ∨ k = 2 ∨ k = 3 := by omega
    rcases this with rfl | rfl | rfl | rfl <;> simp [manyB]
theorem manyB_len (n : Int) (m : Nat) (hm : m ≤ 4) : (manyB n m).length = m := by
  have : m = 0 ∨ m = 1 ∨ m = 2 ∨ m = 3 ∨ m = 4 := by omega
  rcases this with rfl | rfl | rfl | rfl | rfl <;> rfl



theorem wrapB (n : Int) : IntKind.u64.wrap n / 16777216 % 256 = n / 16777216 % 256 ∧ IntKind.u64.wrap n / 65536 % 256 = n / 65536 % 256 ∧ IntKind.u64.wrap n / 256 % 256 = n / 256 % 256 ∧ IntKind.u64.wrap n % 256 = n % 256 := by
  rw [IntKind.wrap_u64]; omega

/-- A slice of bytes that the call owns. -/
def BOwn (w : World) (base : Nat) (v : Value) (l : List Int) : Prop := w.ownsRow base 5 1 v l.length (l.map (Value.int .u8))

theorem BOwn.cells {w : World} {base : Nat} {v : Value} {l : List Int} (h : BOwn w base v l) : ∃ a c, v = .slice a l.length c ∧ (a = none → l.length = 0) ∧ ∀ b, a = some b → ∀ j u, (l.map (Value.int .u8))[j]? = some u → w.cell? (b.add j) = some u := by
  rcases h.2 with ⟨rfl, hn⟩ | ⟨g, cap, cur, rfl, hb, hg, hc, hm, hs, ht⟩
  · exact ⟨none, 0, by rw [hn], (fun _ => hn), (fun b hb => by cases hb)⟩
  · refine ⟨_, cap, rfl, (fun h => by cases h), fun b hb j u hu => ?_⟩
    cases hb
    exact World.ownsRow.cells h (g := g) rfl j u hu

set_option maxRecDepth 100000 in
set_option maxHeartbeats 1000000 in
theorem bytesR_1 (n : Int) (w : World) :
    Calls Try.prog 47 #[.int .i64 n, .int .i64 1] w fun e w' => e = .returned (.string (bytesOf (manyB n 1))) ∧ Ext w w' := by
  obtain ⟨i0, hi, hz0, hz1, hz2⟩ := info_parts info_u8
  have HM : Hid (manyB n 1 = [IntKind.u64.wrap n % 256]) := by
    obtain ⟨x3, x2, x1, x0⟩ := wrapB n
    simp [Hid, manyB, x0]
  have hO0 : BOwn w w.heap.size (.slice none 0 0) [] := World.ownsRow_nil _ _ _ _
  have E0 := Ext.refl w
  go_enter Try.func47, Try.ntmps47
  go_wp2_with fail
  refine wp_loop_rounds 2 ?_
  rw [rounds_succ]
  go_wp2_with (at_builtin; refine wp_own_append _ rfl _ _ 77 rfl w.heap.size 5 i0 (.int .u8 0) 1 1 Try.underlying77 hi hz0 hz1 hz2 rfl (by decide) _ 0 ([].map (Value.int .u8)) rfl (hO0.alloc _) ⟨_, 0, none⟩ 1 1 [.int .u8 (IntKind.u64.wrap n % 256)] rfl rfl (cells_new1 _ #[_] _) ?c2 (by decide) (by decide) ?c5 ?_)
  case c2 => simp [Value.oneCell']
  case c5 => have := E0.size; simp only [World.size_alloc]; omega
  intro v1 w1 hO1 hG
  have E1 := hG.ext (E0.al _) (hO0.alloc _)
  have hO1 : BOwn w1 w.heap.size v1 [IntKind.u64.wrap n % 256] := hO1
  clear hG hO0 E0
  go_wp2_with fail
  rw [rounds_succ]
  obtain ⟨a, c, rfl, q0, q1⟩ := hO1.cells
  clear hO1
  go_wp2_with (with_reducible refine wp_string_bytes 77 9 5 _ rfl rfl Try.underlying77 Try.underlying5 Try.underlying9 _ _ _ [IntKind.u64.wrap n % 256] rfl rfl q0 q1 ?_)
  go_wp2_with fail
  go_ret
  exact ⟨by rw [HM.out]; rfl, E1⟩

set_option maxRecDepth 100000 in
set_option maxHeartbeats 1000000 in
theorem bytesR_2 (n : Int) (w : World) :
    Calls Try.prog 47 #[.int .i64 n, .int .i64 2] w fun e w' => e = .returned (.string (bytesOf (manyB n 2))) ∧ Ext w w' := by
  obtain ⟨i0, hi, hz0, hz1, hz2⟩ := info_parts info_u8
  have HM : Hid (manyB n 2 = [IntKind.u64.wrap n / 256 % 256, IntKind.u64.wrap n % 256]) := by
    obtain ⟨x3, x2, x1, x0⟩ := wrapB n
    simp [Hid, manyB, x0, x1]
  have hO0 : BOwn w w.heap.size (.slice none 0 0) [] := World.ownsRow_nil _ _ _ _
  have E0 := Ext.refl w
  go_enter Try.func47, Try.ntmps47
  go_wp2_with fail
  refine wp_loop_rounds 3 ?_
  rw [rounds_succ]
  go_wp2_with (at_builtin; refine wp_own_append _ rfl _ _ 77 rfl w.heap.size 5 i0 (.int .u8 0) 1 1 Try.underlying77 hi hz0 hz1 hz2 rfl (by decide) _ 0 ([].map (Value.int .u8)) rfl (hO0.alloc _) ⟨_, 0, none⟩ 1 1 [.int .u8 (IntKind.u64.wrap n / 256 % 256)] rfl rfl (cells_new1 _ #[_] _) ?c2 (by decide) (by decide) ?c5 ?_)
  case c2 => simp [Value.oneCell']
  case c5 => have := E0.size; simp only [World.size_alloc]; omega
  intro v1 w1 hO1 hG
  have E1 := hG.ext (E0.al _) (hO0.alloc _)
  have hO1 : BOwn w1 w.heap.size v1 [IntKind.u64.wrap n / 256 % 256] := hO1
  clear hG hO0 E0
  go_wp2_with fail
  rw [rounds_succ]
  go_wp2_with (at_builtin; refine wp_own_append _ rfl _ _ 77 rfl w.heap.size 5 i0 (.int .u8 0) 1 1 Try.underlying77 hi hz0 hz1 hz2 rfl (by decide) _ 1 ([IntKind.u64.wrap n / 256 % 256].map (Value.int .u8)) rfl (hO1.alloc _) ⟨_, 0, none⟩ 1 1 [.int .u8 (IntKind.u64.wrap n % 256)] rfl rfl (cells_new1 _ #[_] _) ?c2 (by decide) (by decide) ?c5 ?_)
  case c2 => simp [Value.oneCell']
  case c5 => have := E1.size; simp only [World.size_alloc]; omega
  intro v2 w2 hO2 hG
  have E2 := hG.ext (E1.al _) (hO1.alloc _)
  have hO2 : BOwn w2 w.heap.size v2 [IntKind.u64.wrap n / 256 % 256, IntKind.u64.wrap n % 256] := hO2
  clear hG hO1 E1
  go_wp2_with fail
  rw [rounds_succ]
  obtain ⟨a, c, rfl, q0, q1⟩ := hO2.cells
  clear hO2
  go_wp2_with (with_reducible refine wp_string_bytes 77 9 5 _ rfl rfl Try.underlying77 Try.underlying5 Try.underlying9 _ _ _ [IntKind.u64.wrap n / 256 % 256, IntKind.u64.wrap n % 256] rfl rfl q0 q1 ?_)
  go_wp2_with fail
  go_ret
  exact ⟨by rw [HM.out]; rfl, E2⟩

set_option maxRecDepth 100000 in
set_option maxHeartbeats 1000000 in
theorem bytesR_3 (n : Int) (w : World) :
    Calls Try.prog 47 #[.int .i64 n, .int .i64 3] w fun e w' => e = .returned (.string (bytesOf (manyB n 3))) ∧ Ext w w' := by
  obtain ⟨i0, hi, hz0, hz1, hz2⟩ := info_parts info_u8
  have HM : Hid (manyB n 3 = [IntKind.u64.wrap n / 65536 % 256, IntKind.u64.wrap n / 256 % 256, IntKind.u64.wrap n % 256]) := by
    obtain ⟨x3, x2, x1, x0⟩ := wrapB n
    simp [Hid, manyB, x0, x1, x2]
  have hO0 : BOwn w w.heap.size (.slice none 0 0) [] := World.ownsRow_nil _ _ _ _
  have E0 := Ext.refl w
  go_enter Try.func47, Try.ntmps47
  go_wp2_with fail
  refine wp_loop_rounds 4 ?_
  rw [rounds_succ]
  go_wp2_with (at_builtin; refine wp_own_append _ rfl _ _ 77 rfl w.heap.size 5 i0 (.int .u8 0) 1 1 Try.underlying77 hi hz0 hz1 hz2 rfl (by decide) _ 0 ([].map (Value.int .u8)) rfl (hO0.alloc _) ⟨_, 0, none⟩ 1 1 [.int .u8 (IntKind.u64.wrap n / 65536 % 256)] rfl rfl (cells_new1 _ #[_] _) ?c2 (by decide) (by decide) ?c5 ?_)
  case c2 => simp [Value.oneCell']
  case c5 => have := E0.size; simp only [World.size_alloc]; omega
  intro v1 w1 hO1 hG
  have E1 := hG.ext (E0.al _) (hO0.alloc _)
  have hO1 : BOwn w1 w.heap.size v1 [IntKind.u64.wrap n / 65536 % 256] := hO1
  clear hG hO0 E0
  go_wp2_with fail
  rw [rounds_succ]
  go_wp2_with (at_builtin; refine wp_own_append _ rfl _ _ 77 rfl w.heap.size 5 i0 (.int .u8 0) 1 1 Try.underlying77 hi hz0 hz1 hz2 rfl (by decide) _ 1 ([IntKind.u64.wrap n / 65536 % 256].map (Value.int .u8)) rfl (hO1.alloc _) ⟨_, 0, none⟩ 1 1 [.int .u8 (IntKind.u64.wrap n / 256 % 256)] rfl rfl (cells_new1 _ #[_] _) ?c2 (by decide) (by decide) ?c5 ?_)
  case c2 => simp [Value.oneCell']
  case c5 => have := E1.size; simp only [World.size_alloc]; omega
  intro v2 w2 hO2 hG
  have E2 := hG.ext (E1.al _) (hO1.alloc _)
  have hO2 : BOwn w2 w.heap.size v2 [IntKind.u64.wrap n / 65536 % 256, IntKind.u64.wrap n / 256 % 256] := hO2
  clear hG hO1 E1
  go_wp2_with fail
  rw [rounds_succ]
  go_wp2_with (at_builtin; refine wp_own_append _ rfl _ _ 77 rfl w.heap.size 5 i0 (.int .u8 0) 1 1 Try.underlying77 hi hz0 hz1 hz2 rfl (by decide) _ 2 ([IntKind.u64.wrap n / 65536 % 256, IntKind.u64.wrap n / 256 % 256].map (Value.int .u8)) rfl (hO2.alloc _) ⟨_, 0, none⟩ 1 1 [.int .u8 (IntKind.u64.wrap n % 256)] rfl rfl (cells_new1 _ #[_] _) ?c2 (by decide) (by decide) ?c5 ?_)
  case c2 => simp [Value.oneCell']
  case c5 => have := E2.size; simp only [World.size_alloc]; omega
  intro v3 w3 hO3 hG
  have E3 := hG.ext (E2.al _) (hO2.alloc _)
  have hO3 : BOwn w3 w.heap.size v3 [IntKind.u64.wrap n / 65536 % 256, IntKind.u64.wrap n / 256 % 256, IntKind.u64.wrap n % 256] := hO3
  clear hG hO2 E2
  go_wp2_with fail
  rw [rounds_succ]
  obtain ⟨a, c, rfl, q0, q1⟩ := hO3.cells
  clear hO3
  go_wp2_with (with_reducible refine wp_string_bytes 77 9 5 _ rfl rfl Try.underlying77 Try.underlying5 Try.underlying9 _ _ _ [IntKind.u64.wrap n / 65536 % 256, IntKind.u64.wrap n / 256 % 256, IntKind.u64.wrap n % 256] rfl rfl q0 q1 ?_)
  go_wp2_with fail
  go_ret
  exact ⟨by rw [HM.out]; rfl, E3⟩

set_option maxRecDepth 100000 in
set_option maxHeartbeats 1000000 in
theorem bytesR_4 (n : Int) (w : World) :
    Calls Try.prog 47 #[.int .i64 n, .int .i64 4] w fun e w' => e = .returned (.string (bytesOf (manyB n 4))) ∧ Ext w w' := by
  obtain ⟨i0, hi, hz0, hz1, hz2⟩ := info_parts info_u8
  have HM : Hid (manyB n 4 = [IntKind.u64.wrap n / 16777216 % 256, IntKind.u64.wrap n / 65536 % 256, IntKind.u64.wrap n / 256 % 256, IntKind.u64.wrap n % 256]) := by
    obtain ⟨x3, x2, x1, x0⟩ := wrapB n
    simp [Hid, manyB, x0, x1, x2, x3]
  have hO0 : BOwn w w.heap.size (.slice none 0 0) [] := World.ownsRow_nil _ _ _ _
  have E0 := Ext.refl w
  go_enter Try.func47, Try.ntmps47
  go_wp2_with fail
  refine wp_loop_rounds 5 ?_
  rw [rounds_succ]
  go_wp2_with (at_builtin; refine wp_own_append _ rfl _ _ 77 rfl w.heap.size 5 i0 (.int .u8 0) 1 1 Try.underlying77 hi hz0 hz1 hz2 rfl (by decide) _ 0 ([].map (Value.int .u8)) rfl (hO0.alloc _) ⟨_, 0, none⟩ 1 1 [.int .u8 (IntKind.u64.wrap n / 16777216 % 256)] rfl rfl (cells_new1 _ #[_] _) ?c2 (by decide) (by decide) ?c5 ?_)
  case c2 => simp [Value.oneCell']
  case c5 => have := E0.size; simp only [World.size_alloc]; omega
  intro v1 w1 hO1 hG
  have E1 := hG.ext (E0.al _) (hO0.alloc _)
  have hO1 : BOwn w1 w.heap.size v1 [IntKind.u64.wrap n / 16777216 % 256] := hO1
  clear hG hO0 E0
  go_wp2_with fail
  rw [rounds_succ]
  go_wp2_with (at_builtin; refine wp_own_append _ rfl _ _ 77 rfl w.heap.size 5 i0 (.int .u8 0) 1 1 Try.underlying77 hi hz0 hz1 hz2 rfl (by decide) _ 1 ([IntKind.u64.wrap n / 16777216 % 256].map (Value.int .u8)) rfl (hO1.alloc _) ⟨_, 0, none⟩ 1 1 [.int .u8 (IntKind.u64.wrap n / 65536 % 256)] rfl rfl (cells_new1 _ #[_] _) ?c2 (by decide) (by decide) ?c5 ?_)
  case c2 => simp [Value.oneCell']
  case c5 => have := E1.size; simp only [World.size_alloc]; omega
  intro v2 w2 hO2 hG
  have E2 := hG.ext (E1.al _) (hO1.alloc _)
  have hO2 : BOwn w2 w.heap.size v2 [IntKind.u64.wrap n / 16777216 % 256, IntKind.u64.wrap n / 65536 % 256] := hO2
  clear hG hO1 E1
  go_wp2_with fail
  rw [rounds_succ]
  go_wp2_with (at_builtin; refine wp_own_append _ rfl _ _ 77 rfl w.heap.size 5 i0 (.int .u8 0) 1 1 Try.underlying77 hi hz0 hz1 hz2 rfl (by decide) _ 2 ([IntKind.u64.wrap n / 16777216 % 256, IntKind.u64.wrap n / 65536 % 256].map (Value.int .u8)) rfl (hO2.alloc _) ⟨_, 0, none⟩ 1 1 [.int .u8 (IntKind.u64.wrap n / 256 % 256)] rfl rfl (cells_new1 _ #[_] _) ?c2 (by decide) (by decide) ?c5 ?_)
  case c2 => simp [Value.oneCell']
  case c5 => have := E2.size; simp only [World.size_alloc]; omega
  intro v3 w3 hO3 hG
  have E3 := hG.ext (E2.al _) (hO2.alloc _)
  have hO3 : BOwn w3 w.heap.size v3 [IntKind.u64.wrap n / 16777216 % 256, IntKind.u64.wrap n / 65536 % 256, IntKind.u64.wrap n / 256 % 256] := hO3
  clear hG hO2 E2
  go_wp2_with fail
  rw [rounds_succ]
  go_wp2_with (at_builtin; refine wp_own_append _ rfl _ _ 77 rfl w.heap.size 5 i0 (.int .u8 0) 1 1 Try.underlying77 hi hz0 hz1 hz2 rfl (by decide) _ 3 ([IntKind.u64.wrap n / 16777216 % 256, IntKind.u64.wrap n / 65536 % 256, IntKind.u64.wrap n / 256 % 256].map (Value.int .u8)) rfl (hO3.alloc _) ⟨_, 0, none⟩ 1 1 [.int .u8 (IntKind.u64.wrap n % 256)] rfl rfl (cells_new1 _ #[_] _) ?c2 (by decide) (by decide) ?c5 ?_)
  case c2 => simp [Value.oneCell']
  case c5 => have := E3.size; simp only [World.size_alloc]; omega
  intro v4 w4 hO4 hG
  have E4 := hG.ext (E3.al _) (hO3.alloc _)
  have hO4 : BOwn w4 w.heap.size v4 [IntKind.u64.wrap n / 16777216 % 256, IntKind.u64.wrap n / 65536 % 256, IntKind.u64.wrap n / 256 % 256, IntKind.u64.wrap n % 256] := hO4
  clear hG hO3 E3
  go_wp2_with fail
  rw [rounds_succ]
  obtain ⟨a, c, rfl, q0, q1⟩ := hO4.cells
  clear hO4
  go_wp2_with (with_reducible refine wp_string_bytes 77 9 5 _ rfl rfl Try.underlying77 Try.underlying5 Try.underlying9 _ _ _ [IntKind.u64.wrap n / 16777216 % 256, IntKind.u64.wrap n / 65536 % 256, IntKind.u64.wrap n / 256 % 256, IntKind.u64.wrap n % 256] rfl rfl q0 q1 ?_)
  go_wp2_with fail
  go_ret
  exact ⟨by rw [HM.out]; rfl, E4⟩

theorem bytesR_any (n : Int) (m : Nat) (w : World) (h1 : 1 ≤ m) (h4 : m ≤ 4) :
    Calls Try.prog 47 #[.int .i64 n, .int .i64 m] w fun e w' => e = .returned (.string (bytesOf (manyB n m))) ∧ Ext w w' := by
  have : m = 1 ∨ m = 2 ∨ m = 3 ∨ m = 4 := by omega
  rcases this with rfl | rfl | rfl | rfl
  · exact bytesR_1 n w
  · exact bytesR_2 n w
  · exact bytesR_3 n w
  · exact bytesR_4 n w


end Go.Proofs.Ytecfcamlnfmebaa
