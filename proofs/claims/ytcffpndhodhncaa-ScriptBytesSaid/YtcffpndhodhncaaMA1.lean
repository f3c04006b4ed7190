/- MA1: Num, NumR, NumRd, NumRr, NumPlain, NumC, Ber1, Ber2, BerH, Ber3, BerP, Tr1, Tr2, Texts, Join, Tr3, Tr4, Tr5, TrP. -/
import Derived.Test.YtcffpndhodhncaaRows
import Derived.Test.YtcffpndhodhncaaLA1
import Derived.Handy
import Derived.Test.YtcffpndhodhncaaLA3
import Derived.Test.YtcffpndhodhncaaIc
import Derived.KernelRfl
import Derived.Test.YtcffpndhodhncaaSh
import Derived.Lib.Join
section
/- num.Put and bothyref02.Put: both give the bytes putB, or ErrRange. -/
namespace Go.Proofs.Ytcffpndhodhncaa.Num
open Go.RowKit Go.Bo

/-- The bytes of a number, so many. -/
def manyB (n : Int) : Nat → List Int
  | 0 => []
  | 1 => [n % 256]
  | 2 => [n / 256 % 256, n % 256]
  | 3 => [n / 65536 % 256, n / 256 % 256, n % 256]
  | _ => [n / 16777216 % 256, n / 65536 % 256, n / 256 % 256, n % 256]
def manyF (n : Int) : Nat := if -128 ≤ n ∧ n < 128 then 1 else if -32768 ≤ n ∧ n < 32768 then 2 else if -8388608 ≤ n ∧ n < 8388608 then 3 else 4
def putB (n : Int) : List Int := manyB n (manyF n)

set_option maxRecDepth 100000 in
set_option maxHeartbeats 1000000 in
theorem put_1 (n : Int) (w : World) (h0 : -128 ≤ n) (h1 : n < 128) :
    Calls Try.prog 69 #[.int .i64 n] w fun e w' => e = .returned (.tuple #[.string (bytesOf [n % 256]), .int .i64 0]) ∧ Ext w w' := by
  have hmk : ∀ w, (Instr.makeSlice 115 (.int .i64 1) (.int .i64 1)).run Try.prog w = .ok (.slice (some ⟨w.heap.size, 0, none⟩) 1 1) (w.alloc (.cells #[.int .u8 0] 5)) := fun _ => by kernel_rfl
  have hn : (n / 128 != 0) = false ∨ (n / 128 != 0) = true ∧ (n / 128 != -1) = false := by
    simp only [bne_eq_false_iff_eq, bne_iff_ne]; omega
  rcases hn with hn | ⟨hn, hn'⟩
  all_goals
    go_enter Try.func69, Try.ntmps69
    go_wp2_with fail
    refine wp_loop_rounds 1 ?_
    iterate 1 (rw [rounds_succ]; go_wp2_with fail)
    refine wp_loop_rounds 2 ?_
    iterate 1 (rw [rounds_succ]; go_wp2_with fail)
    rw [rounds_succ]; go_wp2_with (with_reducible refine wp_string_bytes 115 9 5 _ rfl rfl Try.underlying115 Try.underlying5 Try.underlying9 _ _ _ [n % 256] rfl rfl ?c1 ?c2 ?_)
    case c1 => intro h; cases h
    case c2 => rintro b ⟨⟩; exact cells_new1 _ _ _
    go_wp2_with fail
    go_ret2
    exact ⟨rfl, ((Ext.refl _).al _)⟩

set_option maxRecDepth 100000 in
set_option maxHeartbeats 1000000 in
theorem put_2 (n : Int) (w : World) (h0 : -32768 ≤ n) (h1 : n < 32768) (h2 : n < -128 ∨ 128 ≤ n) :
    Calls Try.prog 69 #[.int .i64 n] w fun e w' => e = .returned (.tuple #[.string (bytesOf [n / 256 % 256, n % 256]), .int .i64 0]) ∧ Ext w w' := by
  have hmk : ∀ w, (Instr.makeSlice 115 (.int .i64 2) (.int .i64 2)).run Try.prog w = .ok (.slice (some ⟨w.heap.size, 0, none⟩) 2 2) (w.alloc (.cells #[.int .u8 0, .int .u8 0] 5)) := fun _ => by kernel_rfl
  have ha : (n / 128 != 0) = true ∧ (n / 128 != -1) = true := by
    simp only [bne_iff_ne]; omega
  obtain ⟨a0, b0⟩ := ha
  have hn : (n / 32768 != 0) = false ∨ (n / 32768 != 0) = true ∧ (n / 32768 != -1) = false := by
    simp only [bne_eq_false_iff_eq, bne_iff_ne]; omega
  rcases hn with hn | ⟨hn, hn'⟩
  all_goals
    go_enter Try.func69, Try.ntmps69
    go_wp2_with fail
    refine wp_loop_rounds 2 ?_
    iterate 2 (rw [rounds_succ]; go_wp2_with fail)
    refine wp_loop_rounds 3 ?_
    iterate 2 (rw [rounds_succ]; go_wp2_with fail)
    rw [rounds_succ]; go_wp2_with (with_reducible refine wp_string_bytes 115 9 5 _ rfl rfl Try.underlying115 Try.underlying5 Try.underlying9 _ _ _ [n / 256 % 256, n % 256] rfl rfl ?c1 ?c2 ?_)
    case c1 => intro h; cases h
    case c2 => rintro b ⟨⟩; exact cells_new1 _ _ _
    go_wp2_with fail
    go_ret2
    exact ⟨rfl, ((Ext.refl _).al _)⟩

set_option maxRecDepth 100000 in
set_option maxHeartbeats 1000000 in
theorem put_3 (n : Int) (w : World) (h0 : -8388608 ≤ n) (h1 : n < 8388608) (h2 : n < -32768 ∨ 32768 ≤ n) :
    Calls Try.prog 69 #[.int .i64 n] w fun e w' => e = .returned (.tuple #[.string (bytesOf [n / 65536 % 256, n / 256 % 256, n % 256]), .int .i64 0]) ∧ Ext w w' := by
  have hmk : ∀ w, (Instr.makeSlice 115 (.int .i64 3) (.int .i64 3)).run Try.prog w = .ok (.slice (some ⟨w.heap.size, 0, none⟩) 3 3) (w.alloc (.cells #[.int .u8 0, .int .u8 0, .int .u8 0] 5)) := fun _ => by kernel_rfl
  have ha : (n / 128 != 0) = true ∧ (n / 128 != -1) = true ∧ (n / 32768 != 0) = true ∧ (n / 32768 != -1) = true := by
    simp only [bne_iff_ne]; omega
  obtain ⟨a0, b0, a1, b1⟩ := ha
  have hn : (n / 8388608 != 0) = false ∨ (n / 8388608 != 0) = true ∧ (n / 8388608 != -1) = false := by
    simp only [bne_eq_false_iff_eq, bne_iff_ne]; omega
  rcases hn with hn | ⟨hn, hn'⟩
  all_goals
    go_enter Try.func69, Try.ntmps69
    go_wp2_with fail
    refine wp_loop_rounds 3 ?_
    iterate 3 (rw [rounds_succ]; go_wp2_with fail)
    refine wp_loop_rounds 4 ?_
    iterate 3 (rw [rounds_succ]; go_wp2_with fail)
    rw [rounds_succ]; go_wp2_with (with_reducible refine wp_string_bytes 115 9 5 _ rfl rfl Try.underlying115 Try.underlying5 Try.underlying9 _ _ _ [n / 65536 % 256, n / 256 % 256, n % 256] rfl rfl ?c1 ?c2 ?_)
    case c1 => intro h; cases h
    case c2 => rintro b ⟨⟩; exact cells_new1 _ _ _
    go_wp2_with fail
    go_ret2
    exact ⟨rfl, ((Ext.refl _).al _)⟩

set_option maxRecDepth 100000 in
set_option maxHeartbeats 1000000 in
theorem put_4 (n : Int) (w : World) (h0 : -2147483648 ≤ n) (h1 : n < 2147483648) (h2 : n < -8388608 ∨ 8388608 ≤ n) :
    Calls Try.prog 69 #[.int .i64 n] w fun e w' => e = .returned (.tuple #[.string (bytesOf [n / 16777216 % 256, n / 65536 % 256, n / 256 % 256, n % 256]), .int .i64 0]) ∧ Ext w w' := by
  have hmk : ∀ w, (Instr.makeSlice 115 (.int .i64 4) (.int .i64 4)).run Try.prog w = .ok (.slice (some ⟨w.heap.size, 0, none⟩) 4 4) (w.alloc (.cells #[.int .u8 0, .int .u8 0, .int .u8 0, .int .u8 0] 5)) := fun _ => by kernel_rfl
  have ha : (n / 128 != 0) = true ∧ (n / 128 != -1) = true ∧ (n / 32768 != 0) = true ∧ (n / 32768 != -1) = true ∧ (n / 8388608 != 0) = true ∧ (n / 8388608 != -1) = true := by
    simp only [bne_iff_ne]; omega
  obtain ⟨a0, b0, a1, b1, a2, b2⟩ := ha
  have hn : (n / 2147483648 != 0) = false ∨ (n / 2147483648 != 0) = true ∧ (n / 2147483648 != -1) = false := by
    simp only [bne_eq_false_iff_eq, bne_iff_ne]; omega
  rcases hn with hn | ⟨hn, hn'⟩
  all_goals
    go_enter Try.func69, Try.ntmps69
    go_wp2_with fail
    refine wp_loop_rounds 4 ?_
    iterate 4 (rw [rounds_succ]; go_wp2_with fail)
    refine wp_loop_rounds 5 ?_
    iterate 4 (rw [rounds_succ]; go_wp2_with fail)
    rw [rounds_succ]; go_wp2_with (with_reducible refine wp_string_bytes 115 9 5 _ rfl rfl Try.underlying115 Try.underlying5 Try.underlying9 _ _ _ [n / 16777216 % 256, n / 65536 % 256, n / 256 % 256, n % 256] rfl rfl ?c1 ?c2 ?_)
    case c1 => intro h; cases h
    case c2 => rintro b ⟨⟩; exact cells_new1 _ _ _
    go_wp2_with fail
    go_ret2
    exact ⟨rfl, ((Ext.refl _).al _)⟩

theorem put_ok (n : Int) (w : World) (h0 : -2147483648 ≤ n) (h1 : n ≤ 2147483647) :
    Calls Try.prog 69 #[.int .i64 n] w fun e w' => e = .returned (.tuple #[.string (bytesOf (putB n)), .int .i64 0]) ∧ Ext w w' := by
  unfold putB manyF
  split
  · rename_i h; exact put_1 n w h.1 h.2
  · split
    · rename_i h; exact put_2 n w h.1 h.2 (by omega)
    · split
      · rename_i h; exact put_3 n w h.1 h.2 (by omega)
      · exact put_4 n w (by omega) (by omega) (by omega)

theorem put_no (n : Int) (w : World) (h : n < -2147483648 ∨ 2147483647 < n) :
    Calls Try.prog 69 #[.int .i64 n] w fun e w' => e = .returned (.tuple #[.string ByteArray.empty, .int .i64 2]) ∧ Ext w w' := by
  rcases h with h | h
  · go_enter Try.func69, Try.ntmps69
    go_wp2_with fail
    go_ret2
    exact ⟨rfl, Ext.refl _⟩
  · have hd : decide (n < -2147483648) = false := by simp; omega
    go_enter Try.func69, Try.ntmps69
    go_wp2_with fail
    go_ret2
    exact ⟨rfl, Ext.refl _⟩

theorem info_u8 : (Try.prog.info? 5).map (fun i => (i.zero, i.size, i.bytes)) = some (some (.int .u8 0), 1, 1) := by kernel_rfl

theorem manyB_snoc (n : Int) (m : Nat) (hm : m ≤ 4) (k : Nat) (hk : k < m) : (manyB n m).take (k + 1) = (manyB n m).take k ++ [(n / 256 ^ (m - 1 - k)) % 256] := by
  have : m = 0 ∨ m = 1 ∨ m = 2 ∨ m = 3 ∨ m = 4 := by omega
  rcases this with rfl | rfl | rfl | rfl | rfl
  · omega
  · have : k = 0 := by omega
    subst this; simp [manyB]
  · have : k = 0 ∨ k = 1 := by omega
    rcases this with rfl | rfl <;> simp [manyB]
  · have : k = 0 ∨ k = 1 ∨ k = 2 := by omega
    rcases this with rfl | rfl | rfl <;> simp [manyB]
  · have : k = 0 ∨ k = 1 ∨ k = 2 ∨ k = 3 := by omega
    rcases this with rfl | rfl | rfl | rfl <;> simp [manyB]
theorem manyB_len (n : Int) (m : Nat) (hm : m ≤ 4) : (manyB n m).length = m := by
  have : m = 0 ∨ m = 1 ∨ m = 2 ∨ m = 3 ∨ m = 4 := by omega
  rcases this with rfl | rfl | rfl | rfl | rfl <;> rfl



theorem wrapB (n : Int) : IntKind.u64.wrap n / 16777216 % 256 = n / 16777216 % 256 ∧ IntKind.u64.wrap n / 65536 % 256 = n / 65536 % 256 ∧ IntKind.u64.wrap n / 256 % 256 = n / 256 % 256 ∧ IntKind.u64.wrap n % 256 = n % 256 := by
  rw [IntKind.wrap_u64]; omega

/-- A slice of bytes that the call owns. -/
def BOwn (w : World) (base : Nat) (v : Value) (l : List Int) : Prop := w.ownsRow base 5 1 v l.length (l.map (Value.int .u8))

theorem BOwn.cells {w : World} {base : Nat} {v : Value} {l : List Int} (h : BOwn w base v l) : ∃ a c, v = .slice a l.length c ∧ (a = none → l.length = 0) ∧ ∀ b, a = some b → ∀ j u, (l.map (Value.int .u8))[j]? = some u → w.cell? (b.add j) = some u := by
  rcases h.2 with ⟨rfl, hn⟩ | ⟨g, cap, cur, rfl, hb, hg, hc, hm, hs, ht⟩
  · exact ⟨none, 0, by rw [hn], (fun _ => hn), (fun b hb => by cases hb)⟩
  · refine ⟨_, cap, rfl, (fun h => by cases h), fun b hb j u hu => ?_⟩
    cases hb
    exact World.ownsRow.cells h (g := g) rfl j u hu

set_option maxRecDepth 100000 in
set_option maxHeartbeats 1000000 in
theorem bytesR_1 (n : Int) (w : World) :
    Calls Try.prog 87 #[.int .i64 n, .int .i64 1] w fun e w' => e = .returned (.string (bytesOf (manyB n 1))) ∧ Ext w w' := by
  obtain ⟨i0, hi, hz0, hz1, hz2⟩ := info_parts info_u8
  have HM : Hid (manyB n 1 = [IntKind.u64.wrap n % 256]) := by
    obtain ⟨x3, x2, x1, x0⟩ := wrapB n
    simp [Hid, manyB, x0]
  have hO0 : BOwn w w.heap.size (.slice none 0 0) [] := World.ownsRow_nil _ _ _ _
  have E0 := Ext.refl w
  go_enter Try.func87, Try.ntmps87
  go_wp2_with fail
  refine wp_loop_rounds 2 ?_
  rw [rounds_succ]
  go_wp2_with (at_builtin; refine wp_own_append _ rfl _ _ 115 rfl w.heap.size 5 i0 (.int .u8 0) 1 1 Try.underlying115 hi hz0 hz1 hz2 rfl (by decide) _ 0 ([].map (Value.int .u8)) rfl (hO0.alloc _) ⟨_, 0, none⟩ 1 1 [.int .u8 (IntKind.u64.wrap n % 256)] rfl rfl (cells_new1 _ #[_] _) ?c2 (by decide) (by decide) ?c5 ?_)
  case c2 => simp [Value.oneCell']
  case c5 => have := E0.size; simp only [World.size_alloc]; omega
  intro v1 w1 hO1 hG
  have E1 := hG.ext (E0.al _) (hO0.alloc _)
  have hO1 : BOwn w1 w.heap.size v1 [IntKind.u64.wrap n % 256] := hO1
  clear hG hO0 E0
  go_wp2_with fail
  rw [rounds_succ]
  obtain ⟨a, c, rfl, q0, q1⟩ := hO1.cells
  clear hO1
  go_wp2_with (with_reducible refine wp_string_bytes 115 9 5 _ rfl rfl Try.underlying115 Try.underlying5 Try.underlying9 _ _ _ [IntKind.u64.wrap n % 256] rfl rfl q0 q1 ?_)
  go_wp2_with fail
  go_ret
  exact ⟨by rw [HM.out]; rfl, E1⟩

set_option maxRecDepth 100000 in
set_option maxHeartbeats 1000000 in
theorem bytesR_2 (n : Int) (w : World) :
    Calls Try.prog 87 #[.int .i64 n, .int .i64 2] w fun e w' => e = .returned (.string (bytesOf (manyB n 2))) ∧ Ext w w' := by
  obtain ⟨i0, hi, hz0, hz1, hz2⟩ := info_parts info_u8
  have HM : Hid (manyB n 2 = [IntKind.u64.wrap n / 256 % 256, IntKind.u64.wrap n % 256]) := by
    obtain ⟨x3, x2, x1, x0⟩ := wrapB n
    simp [Hid, manyB, x0, x1]
  have hO0 : BOwn w w.heap.size (.slice none 0 0) [] := World.ownsRow_nil _ _ _ _
  have E0 := Ext.refl w
  go_enter Try.func87, Try.ntmps87
  go_wp2_with fail
  refine wp_loop_rounds 3 ?_
  rw [rounds_succ]
  go_wp2_with (at_builtin; refine wp_own_append _ rfl _ _ 115 rfl w.heap.size 5 i0 (.int .u8 0) 1 1 Try.underlying115 hi hz0 hz1 hz2 rfl (by decide) _ 0 ([].map (Value.int .u8)) rfl (hO0.alloc _) ⟨_, 0, none⟩ 1 1 [.int .u8 (IntKind.u64.wrap n / 256 % 256)] rfl rfl (cells_new1 _ #[_] _) ?c2 (by decide) (by decide) ?c5 ?_)
  case c2 => simp [Value.oneCell']
  case c5 => have := E0.size; simp only [World.size_alloc]; omega
  intro v1 w1 hO1 hG
  have E1 := hG.ext (E0.al _) (hO0.alloc _)
  have hO1 : BOwn w1 w.heap.size v1 [IntKind.u64.wrap n / 256 % 256] := hO1
  clear hG hO0 E0
  go_wp2_with fail
  rw [rounds_succ]
  go_wp2_with (at_builtin; refine wp_own_append _ rfl _ _ 115 rfl w.heap.size 5 i0 (.int .u8 0) 1 1 Try.underlying115 hi hz0 hz1 hz2 rfl (by decide) _ 1 ([IntKind.u64.wrap n / 256 % 256].map (Value.int .u8)) rfl (hO1.alloc _) ⟨_, 0, none⟩ 1 1 [.int .u8 (IntKind.u64.wrap n % 256)] rfl rfl (cells_new1 _ #[_] _) ?c2 (by decide) (by decide) ?c5 ?_)
  case c2 => simp [Value.oneCell']
  case c5 => have := E1.size; simp only [World.size_alloc]; omega
  intro v2 w2 hO2 hG
  have E2 := hG.ext (E1.al _) (hO1.alloc _)
  have hO2 : BOwn w2 w.heap.size v2 [IntKind.u64.wrap n / 256 % 256, IntKind.u64.wrap n % 256] := hO2
  clear hG hO1 E1
  go_wp2_with fail
  rw [rounds_succ]
  obtain ⟨a, c, rfl, q0, q1⟩ := hO2.cells
  clear hO2
  go_wp2_with (with_reducible refine wp_string_bytes 115 9 5 _ rfl rfl Try.underlying115 Try.underlying5 Try.underlying9 _ _ _ [IntKind.u64.wrap n / 256 % 256, IntKind.u64.wrap n % 256] rfl rfl q0 q1 ?_)
  go_wp2_with fail
  go_ret
  exact ⟨by rw [HM.out]; rfl, E2⟩

set_option maxRecDepth 100000 in
set_option maxHeartbeats 1000000 in
theorem bytesR_3 (n : Int) (w : World) :
    Calls Try.prog 87 #[.int .i64 n, .int .i64 3] w fun e w' => e = .returned (.string (bytesOf (manyB n 3))) ∧ Ext w w' := by
  obtain ⟨i0, hi, hz0, hz1, hz2⟩ := info_parts info_u8
  have HM : Hid (manyB n 3 = [IntKind.u64.wrap n / 65536 % 256, IntKind.u64.wrap n / 256 % 256, IntKind.u64.wrap n % 256]) := by
    obtain ⟨x3, x2, x1, x0⟩ := wrapB n
    simp [Hid, manyB, x0, x1, x2]
  have hO0 : BOwn w w.heap.size (.slice none 0 0) [] := World.ownsRow_nil _ _ _ _
  have E0 := Ext.refl w
  go_enter Try.func87, Try.ntmps87
  go_wp2_with fail
  refine wp_loop_rounds 4 ?_
  rw [rounds_succ]
  go_wp2_with (at_builtin; refine wp_own_append _ rfl _ _ 115 rfl w.heap.size 5 i0 (.int .u8 0) 1 1 Try.underlying115 hi hz0 hz1 hz2 rfl (by decide) _ 0 ([].map (Value.int .u8)) rfl (hO0.alloc _) ⟨_, 0, none⟩ 1 1 [.int .u8 (IntKind.u64.wrap n / 65536 % 256)] rfl rfl (cells_new1 _ #[_] _) ?c2 (by decide) (by decide) ?c5 ?_)
  case c2 => simp [Value.oneCell']
  case c5 => have := E0.size; simp only [World.size_alloc]; omega
  intro v1 w1 hO1 hG
  have E1 := hG.ext (E0.al _) (hO0.alloc _)
  have hO1 : BOwn w1 w.heap.size v1 [IntKind.u64.wrap n / 65536 % 256] := hO1
  clear hG hO0 E0
  go_wp2_with fail
  rw [rounds_succ]
  go_wp2_with (at_builtin; refine wp_own_append _ rfl _ _ 115 rfl w.heap.size 5 i0 (.int .u8 0) 1 1 Try.underlying115 hi hz0 hz1 hz2 rfl (by decide) _ 1 ([IntKind.u64.wrap n / 65536 % 256].map (Value.int .u8)) rfl (hO1.alloc _) ⟨_, 0, none⟩ 1 1 [.int .u8 (IntKind.u64.wrap n / 256 % 256)] rfl rfl (cells_new1 _ #[_] _) ?c2 (by decide) (by decide) ?c5 ?_)
  case c2 => simp [Value.oneCell']
  case c5 => have := E1.size; simp only [World.size_alloc]; omega
  intro v2 w2 hO2 hG
  have E2 := hG.ext (E1.al _) (hO1.alloc _)
  have hO2 : BOwn w2 w.heap.size v2 [IntKind.u64.wrap n / 65536 % 256, IntKind.u64.wrap n / 256 % 256] := hO2
  clear hG hO1 E1
  go_wp2_with fail
  rw [rounds_succ]
  go_wp2_with (at_builtin; refine wp_own_append _ rfl _ _ 115 rfl w.heap.size 5 i0 (.int .u8 0) 1 1 Try.underlying115 hi hz0 hz1 hz2 rfl (by decide) _ 2 ([IntKind.u64.wrap n / 65536 % 256, IntKind.u64.wrap n / 256 % 256].map (Value.int .u8)) rfl (hO2.alloc _) ⟨_, 0, none⟩ 1 1 [.int .u8 (IntKind.u64.wrap n % 256)] rfl rfl (cells_new1 _ #[_] _) ?c2 (by decide) (by decide) ?c5 ?_)
  case c2 => simp [Value.oneCell']
  case c5 => have := E2.size; simp only [World.size_alloc]; omega
  intro v3 w3 hO3 hG
  have E3 := hG.ext (E2.al _) (hO2.alloc _)
  have hO3 : BOwn w3 w.heap.size v3 [IntKind.u64.wrap n / 65536 % 256, IntKind.u64.wrap n / 256 % 256, IntKind.u64.wrap n % 256] := hO3
  clear hG hO2 E2
  go_wp2_with fail
  rw [rounds_succ]
  obtain ⟨a, c, rfl, q0, q1⟩ := hO3.cells
  clear hO3
  go_wp2_with (with_reducible refine wp_string_bytes 115 9 5 _ rfl rfl Try.underlying115 Try.underlying5 Try.underlying9 _ _ _ [IntKind.u64.wrap n / 65536 % 256, IntKind.u64.wrap n / 256 % 256, IntKind.u64.wrap n % 256] rfl rfl q0 q1 ?_)
  go_wp2_with fail
  go_ret
  exact ⟨by rw [HM.out]; rfl, E3⟩

set_option maxRecDepth 100000 in
set_option maxHeartbeats 1000000 in
theorem bytesR_4 (n : Int) (w : World) :
    Calls Try.prog 87 #[.int .i64 n, .int .i64 4] w fun e w' => e = .returned (.string (bytesOf (manyB n 4))) ∧ Ext w w' := by
  obtain ⟨i0, hi, hz0, hz1, hz2⟩ := info_parts info_u8
  have HM : Hid (manyB n 4 = [IntKind.u64.wrap n / 16777216 % 256, IntKind.u64.wrap n / 65536 % 256, IntKind.u64.wrap n / 256 % 256, IntKind.u64.wrap n % 256]) := by
    obtain ⟨x3, x2, x1, x0⟩ := wrapB n
    simp [Hid, manyB, x0, x1, x2, x3]
  have hO0 : BOwn w w.heap.size (.slice none 0 0) [] := World.ownsRow_nil _ _ _ _
  have E0 := Ext.refl w
  go_enter Try.func87, Try.ntmps87
  go_wp2_with fail
  refine wp_loop_rounds 5 ?_
  rw [rounds_succ]
  go_wp2_with (at_builtin; refine wp_own_append _ rfl _ _ 115 rfl w.heap.size 5 i0 (.int .u8 0) 1 1 Try.underlying115 hi hz0 hz1 hz2 rfl (by decide) _ 0 ([].map (Value.int .u8)) rfl (hO0.alloc _) ⟨_, 0, none⟩ 1 1 [.int .u8 (IntKind.u64.wrap n / 16777216 % 256)] rfl rfl (cells_new1 _ #[_] _) ?c2 (by decide) (by decide) ?c5 ?_)
  case c2 => simp [Value.oneCell']
  case c5 => have := E0.size; simp only [World.size_alloc]; omega
  intro v1 w1 hO1 hG
  have E1 := hG.ext (E0.al _) (hO0.alloc _)
  have hO1 : BOwn w1 w.heap.size v1 [IntKind.u64.wrap n / 16777216 % 256] := hO1
  clear hG hO0 E0
  go_wp2_with fail
  rw [rounds_succ]
  go_wp2_with (at_builtin; refine wp_own_append _ rfl _ _ 115 rfl w.heap.size 5 i0 (.int .u8 0) 1 1 Try.underlying115 hi hz0 hz1 hz2 rfl (by decide) _ 1 ([IntKind.u64.wrap n / 16777216 % 256].map (Value.int .u8)) rfl (hO1.alloc _) ⟨_, 0, none⟩ 1 1 [.int .u8 (IntKind.u64.wrap n / 65536 % 256)] rfl rfl (cells_new1 _ #[_] _) ?c2 (by decide) (by decide) ?c5 ?_)
  case c2 => simp [Value.oneCell']
  case c5 => have := E1.size; simp only [World.size_alloc]; omega
  intro v2 w2 hO2 hG
  have E2 := hG.ext (E1.al _) (hO1.alloc _)
  have hO2 : BOwn w2 w.heap.size v2 [IntKind.u64.wrap n / 16777216 % 256, IntKind.u64.wrap n / 65536 % 256] := hO2
  clear hG hO1 E1
  go_wp2_with fail
  rw [rounds_succ]
  go_wp2_with (at_builtin; refine wp_own_append _ rfl _ _ 115 rfl w.heap.size 5 i0 (.int .u8 0) 1 1 Try.underlying115 hi hz0 hz1 hz2 rfl (by decide) _ 2 ([IntKind.u64.wrap n / 16777216 % 256, IntKind.u64.wrap n / 65536 % 256].map (Value.int .u8)) rfl (hO2.alloc _) ⟨_, 0, none⟩ 1 1 [.int .u8 (IntKind.u64.wrap n / 256 % 256)] rfl rfl (cells_new1 _ #[_] _) ?c2 (by decide) (by decide) ?c5 ?_)
  case c2 => simp [Value.oneCell']
  case c5 => have := E2.size; simp only [World.size_alloc]; omega
  intro v3 w3 hO3 hG
  have E3 := hG.ext (E2.al _) (hO2.alloc _)
  have hO3 : BOwn w3 w.heap.size v3 [IntKind.u64.wrap n / 16777216 % 256, IntKind.u64.wrap n / 65536 % 256, IntKind.u64.wrap n / 256 % 256] := hO3
  clear hG hO2 E2
  go_wp2_with fail
  rw [rounds_succ]
  go_wp2_with (at_builtin; refine wp_own_append _ rfl _ _ 115 rfl w.heap.size 5 i0 (.int .u8 0) 1 1 Try.underlying115 hi hz0 hz1 hz2 rfl (by decide) _ 3 ([IntKind.u64.wrap n / 16777216 % 256, IntKind.u64.wrap n / 65536 % 256, IntKind.u64.wrap n / 256 % 256].map (Value.int .u8)) rfl (hO3.alloc _) ⟨_, 0, none⟩ 1 1 [.int .u8 (IntKind.u64.wrap n % 256)] rfl rfl (cells_new1 _ #[_] _) ?c2 (by decide) (by decide) ?c5 ?_)
  case c2 => simp [Value.oneCell']
  case c5 => have := E3.size; simp only [World.size_alloc]; omega
  intro v4 w4 hO4 hG
  have E4 := hG.ext (E3.al _) (hO3.alloc _)
  have hO4 : BOwn w4 w.heap.size v4 [IntKind.u64.wrap n / 16777216 % 256, IntKind.u64.wrap n / 65536 % 256, IntKind.u64.wrap n / 256 % 256, IntKind.u64.wrap n % 256] := hO4
  clear hG hO3 E3
  go_wp2_with fail
  rw [rounds_succ]
  obtain ⟨a, c, rfl, q0, q1⟩ := hO4.cells
  clear hO4
  go_wp2_with (with_reducible refine wp_string_bytes 115 9 5 _ rfl rfl Try.underlying115 Try.underlying5 Try.underlying9 _ _ _ [IntKind.u64.wrap n / 16777216 % 256, IntKind.u64.wrap n / 65536 % 256, IntKind.u64.wrap n / 256 % 256, IntKind.u64.wrap n % 256] rfl rfl q0 q1 ?_)
  go_wp2_with fail
  go_ret
  exact ⟨by rw [HM.out]; rfl, E4⟩

theorem bytesR_any (n : Int) (m : Nat) (w : World) (h1 : 1 ≤ m) (h4 : m ≤ 4) :
    Calls Try.prog 87 #[.int .i64 n, .int .i64 m] w fun e w' => e = .returned (.string (bytesOf (manyB n m))) ∧ Ext w w' := by
  have : m = 1 ∨ m = 2 ∨ m = 3 ∨ m = 4 := by omega
  rcases this with rfl | rfl | rfl | rfl
  · exact bytesR_1 n w
  · exact bytesR_2 n w
  · exact bytesR_3 n w
  · exact bytesR_4 n w


end Go.Proofs.Ytcffpndhodhncaa.Num
end
section
/- bothyref02.Put gives the bytes putB, or ErrRange. -/
namespace Go.Proofs.Ytcffpndhodhncaa.Num
open Go.RowKit Go.Bo

/-- 2, so often doubled: what the reference's inner loop reckons. -/
def pw (k : Nat) : Int := 2 ^ (k - 1)
theorem pw_succ (k : Nat) (h : 1 ≤ k) : pw (k + 1) = pw k * 2 := by
  obtain ⟨j, rfl⟩ : ∃ j, k = j + 1 := ⟨k - 1, by omega⟩
  simp [pw, Int.pow_succ]
theorem pw_bd (k : Nat) (h : k ≤ 24) : 1 ≤ pw k ∧ pw k ≤ 8388608 := by
  unfold pw
  have h2 : (2 : Int) ^ (k - 1) = ((2 ^ (k - 1) : Nat) : Int) := by simp
  have h3 : 2 ^ (k - 1) ≤ 2 ^ 23 := Nat.pow_le_pow_right (by omega) (by omega)
  have h4 : 0 < 2 ^ (k - 1) := Nat.pow_pos (by omega)
  rw [h2]; omega
theorem pw8 : pw 8 = 128 := by decide
theorem pw16 : pw 16 = 32768 := by decide
theorem pw24 : pw 24 = 8388608 := by decide

set_option maxRecDepth 100000 in
set_option maxHeartbeats 2000000 in
theorem putR_1n (n : Int) (w : World) (h0 : -128 ≤ n) (h1 : n ≤ -1) :
    Calls Try.prog 75 #[.int .i64 n] w fun e w' => e = .returned (.tuple #[.string (bytesOf (manyB n 1)), .int .i64 0]) ∧ Ext w w' := by
    go_enter Try.func75, Try.ntmps75
    go_wp2_with fail
    refine wp_loop_rounds 1 ?_
    rw [rounds_succ]
    go_wp2_with fail
    go_loop [5, 6] (fun h i => ∃ k : Nat, 1 ≤ k ∧ k ≤ 8 ∧ i = .int .i64 k ∧ h = .int .i64 (pw k)) (fun _ i => 8 - (intOf i).toNat)
    case atStart => exact ⟨1, by omega, by omega, rfl, rfl⟩
    case round =>
    obtain ⟨k, hk1, hk2, rfl, rfl⟩ := hrel
    by_cases hk : k < 8
    · have hs := pw_succ k hk1
      have HS := Lib.hid hs
      clear hs
      obtain ⟨p1, p2⟩ := pw_bd k (by omega)
      go_wp2_with fail
      go_round
      case rel => exact ⟨k + 1, by omega, by omega, by go_num, by rw [HS.out]⟩
      case measure => simp [intOf]; omega
    obtain rfl : k = 8 := by omega
    have hpw := pw8
    clear hk hk1 hk2
    go_wp2_with fail
    clear hpw
    refine (bytesR_any n 1 _ (by decide) (by decide)).mono ?_; rintro e w1 ⟨rfl, E⟩
    go_wp2_with fail
    go_ret2
    exact ⟨rfl, E⟩

set_option maxRecDepth 100000 in
set_option maxHeartbeats 2000000 in
theorem putR_1p (n : Int) (w : World) (h0 : 0 ≤ n) (h1 : n ≤ 127) :
    Calls Try.prog 75 #[.int .i64 n] w fun e w' => e = .returned (.tuple #[.string (bytesOf (manyB n 1)), .int .i64 0]) ∧ Ext w w' := by
    go_enter Try.func75, Try.ntmps75
    go_wp2_with fail
    refine wp_loop_rounds 1 ?_
    rw [rounds_succ]
    go_wp2_with fail
    go_loop [5, 6] (fun h i => ∃ k : Nat, 1 ≤ k ∧ k ≤ 8 ∧ i = .int .i64 k ∧ h = .int .i64 (pw k)) (fun _ i => 8 - (intOf i).toNat)
    case atStart => exact ⟨1, by omega, by omega, rfl, rfl⟩
    case round =>
    obtain ⟨k, hk1, hk2, rfl, rfl⟩ := hrel
    by_cases hk : k < 8
    · have hs := pw_succ k hk1
      have HS := Lib.hid hs
      clear hs
      obtain ⟨p1, p2⟩ := pw_bd k (by omega)
      go_wp2_with fail
      go_round
      case rel => exact ⟨k + 1, by omega, by omega, by go_num, by rw [HS.out]⟩
      case measure => simp [intOf]; omega
    obtain rfl : k = 8 := by omega
    have hpw := pw8
    clear hk hk1 hk2
    go_wp2_with fail
    clear hpw
    refine (bytesR_any n 1 _ (by decide) (by decide)).mono ?_; rintro e w1 ⟨rfl, E⟩
    go_wp2_with fail
    go_ret2
    exact ⟨rfl, E⟩

set_option maxRecDepth 100000 in
set_option maxHeartbeats 2000000 in
theorem putR_2n (n : Int) (w : World) (h0 : -32768 ≤ n) (h1 : n ≤ -129) :
    Calls Try.prog 75 #[.int .i64 n] w fun e w' => e = .returned (.tuple #[.string (bytesOf (manyB n 2)), .int .i64 0]) ∧ Ext w w' := by
    go_enter Try.func75, Try.ntmps75
    go_wp2_with fail
    refine wp_loop_rounds 2 ?_
    rw [rounds_succ]
    go_wp2_with fail
    go_loop [5, 6] (fun h i => ∃ k : Nat, 1 ≤ k ∧ k ≤ 8 ∧ i = .int .i64 k ∧ h = .int .i64 (pw k)) (fun _ i => 8 - (intOf i).toNat)
    case atStart => exact ⟨1, by omega, by omega, rfl, rfl⟩
    case round =>
    obtain ⟨k, hk1, hk2, rfl, rfl⟩ := hrel
    by_cases hk : k < 8
    · have hs := pw_succ k hk1
      have HS := Lib.hid hs
      clear hs
      obtain ⟨p1, p2⟩ := pw_bd k (by omega)
      go_wp2_with fail
      go_round
      case rel => exact ⟨k + 1, by omega, by omega, by go_num, by rw [HS.out]⟩
      case measure => simp [intOf]; omega
    obtain rfl : k = 8 := by omega
    have hpw := pw8
    clear hk hk1 hk2
    go_wp2_with fail
    clear hpw
    rw [rounds_succ]
    go_wp2_with fail
    go_loop [5, 6] (fun h i => ∃ k : Nat, 1 ≤ k ∧ k ≤ 16 ∧ i = .int .i64 k ∧ h = .int .i64 (pw k)) (fun _ i => 16 - (intOf i).toNat)
    case atStart => exact ⟨1, by omega, by omega, rfl, rfl⟩
    case round =>
    obtain ⟨k, hk1, hk2, rfl, rfl⟩ := hrel
    by_cases hk : k < 16
    · have hs := pw_succ k hk1
      have HS := Lib.hid hs
      clear hs
      obtain ⟨p1, p2⟩ := pw_bd k (by omega)
      go_wp2_with fail
      go_round
      case rel => exact ⟨k + 1, by omega, by omega, by go_num, by rw [HS.out]⟩
      case measure => simp [intOf]; omega
    obtain rfl : k = 16 := by omega
    have hpw := pw16
    clear hk hk1 hk2
    go_wp2_with fail
    clear hpw
    refine (bytesR_any n 2 _ (by decide) (by decide)).mono ?_; rintro e w1 ⟨rfl, E⟩
    go_wp2_with fail
    go_ret2
    exact ⟨rfl, E⟩

set_option maxRecDepth 100000 in
set_option maxHeartbeats 2000000 in
theorem putR_2p (n : Int) (w : World) (h0 : 128 ≤ n) (h1 : n ≤ 32767) :
    Calls Try.prog 75 #[.int .i64 n] w fun e w' => e = .returned (.tuple #[.string (bytesOf (manyB n 2)), .int .i64 0]) ∧ Ext w w' := by
    go_enter Try.func75, Try.ntmps75
    go_wp2_with fail
    refine wp_loop_rounds 2 ?_
    rw [rounds_succ]
    go_wp2_with fail
    go_loop [5, 6] (fun h i => ∃ k : Nat, 1 ≤ k ∧ k ≤ 8 ∧ i = .int .i64 k ∧ h = .int .i64 (pw k)) (fun _ i => 8 - (intOf i).toNat)
    case atStart => exact ⟨1, by omega, by omega, rfl, rfl⟩
    case round =>
    obtain ⟨k, hk1, hk2, rfl, rfl⟩ := hrel
    by_cases hk : k < 8
    · have hs := pw_succ k hk1
      have HS := Lib.hid hs
      clear hs
      obtain ⟨p1, p2⟩ := pw_bd k (by omega)
      go_wp2_with fail
      go_round
      case rel => exact ⟨k + 1, by omega, by omega, by go_num, by rw [HS.out]⟩
      case measure => simp [intOf]; omega
    obtain rfl : k = 8 := by omega
    have hpw := pw8
    clear hk hk1 hk2
    go_wp2_with fail
    clear hpw
    rw [rounds_succ]
    go_wp2_with fail
    go_loop [5, 6] (fun h i => ∃ k : Nat, 1 ≤ k ∧ k ≤ 16 ∧ i = .int .i64 k ∧ h = .int .i64 (pw k)) (fun _ i => 16 - (intOf i).toNat)
    case atStart => exact ⟨1, by omega, by omega, rfl, rfl⟩
    case round =>
    obtain ⟨k, hk1, hk2, rfl, rfl⟩ := hrel
    by_cases hk : k < 16
    · have hs := pw_succ k hk1
      have HS := Lib.hid hs
      clear hs
      obtain ⟨p1, p2⟩ := pw_bd k (by omega)
      go_wp2_with fail
      go_round
      case rel => exact ⟨k + 1, by omega, by omega, by go_num, by rw [HS.out]⟩
      case measure => simp [intOf]; omega
    obtain rfl : k = 16 := by omega
    have hpw := pw16
    clear hk hk1 hk2
    go_wp2_with fail
    clear hpw
    refine (bytesR_any n 2 _ (by decide) (by decide)).mono ?_; rintro e w1 ⟨rfl, E⟩
    go_wp2_with fail
    go_ret2
    exact ⟨rfl, E⟩

set_option maxRecDepth 100000 in
set_option maxHeartbeats 2000000 in
theorem putR_3n (n : Int) (w : World) (h0 : -8388608 ≤ n) (h1 : n ≤ -32769) :
    Calls Try.prog 75 #[.int .i64 n] w fun e w' => e = .returned (.tuple #[.string (bytesOf (manyB n 3)), .int .i64 0]) ∧ Ext w w' := by
    go_enter Try.func75, Try.ntmps75
    go_wp2_with fail
    refine wp_loop_rounds 3 ?_
    rw [rounds_succ]
    go_wp2_with fail
    go_loop [5, 6] (fun h i => ∃ k : Nat, 1 ≤ k ∧ k ≤ 8 ∧ i = .int .i64 k ∧ h = .int .i64 (pw k)) (fun _ i => 8 - (intOf i).toNat)
    case atStart => exact ⟨1, by omega, by omega, rfl, rfl⟩
    case round =>
    obtain ⟨k, hk1, hk2, rfl, rfl⟩ := hrel
    by_cases hk : k < 8
    · have hs := pw_succ k hk1
      have HS := Lib.hid hs
      clear hs
      obtain ⟨p1, p2⟩ := pw_bd k (by omega)
      go_wp2_with fail
      go_round
      case rel => exact ⟨k + 1, by omega, by omega, by go_num, by rw [HS.out]⟩
      case measure => simp [intOf]; omega
    obtain rfl : k = 8 := by omega
    have hpw := pw8
    clear hk hk1 hk2
    go_wp2_with fail
    clear hpw
    rw [rounds_succ]
    go_wp2_with fail
    go_loop [5, 6] (fun h i => ∃ k : Nat, 1 ≤ k ∧ k ≤ 16 ∧ i = .int .i64 k ∧ h = .int .i64 (pw k)) (fun _ i => 16 - (intOf i).toNat)
    case atStart => exact ⟨1, by omega, by omega, rfl, rfl⟩
    case round =>
    obtain ⟨k, hk1, hk2, rfl, rfl⟩ := hrel
    by_cases hk : k < 16
    · have hs := pw_succ k hk1
      have HS := Lib.hid hs
      clear hs
      obtain ⟨p1, p2⟩ := pw_bd k (by omega)
      go_wp2_with fail
      go_round
      case rel => exact ⟨k + 1, by omega, by omega, by go_num, by rw [HS.out]⟩
      case measure => simp [intOf]; omega
    obtain rfl : k = 16 := by omega
    have hpw := pw16
    clear hk hk1 hk2
    go_wp2_with fail
    clear hpw
    rw [rounds_succ]
    go_wp2_with fail
    go_loop [5, 6] (fun h i => ∃ k : Nat, 1 ≤ k ∧ k ≤ 24 ∧ i = .int .i64 k ∧ h = .int .i64 (pw k)) (fun _ i => 24 - (intOf i).toNat)
    case atStart => exact ⟨1, by omega, by omega, rfl, rfl⟩
    case round =>
    obtain ⟨k, hk1, hk2, rfl, rfl⟩ := hrel
    by_cases hk : k < 24
    · have hs := pw_succ k hk1
      have HS := Lib.hid hs
      clear hs
      obtain ⟨p1, p2⟩ := pw_bd k (by omega)
      go_wp2_with fail
      go_round
      case rel => exact ⟨k + 1, by omega, by omega, by go_num, by rw [HS.out]⟩
      case measure => simp [intOf]; omega
    obtain rfl : k = 24 := by omega
    have hpw := pw24
    clear hk hk1 hk2
    go_wp2_with fail
    clear hpw
    refine (bytesR_any n 3 _ (by decide) (by decide)).mono ?_; rintro e w1 ⟨rfl, E⟩
    go_wp2_with fail
    go_ret2
    exact ⟨rfl, E⟩

set_option maxRecDepth 100000 in
set_option maxHeartbeats 2000000 in
theorem putR_3p (n : Int) (w : World) (h0 : 32768 ≤ n) (h1 : n ≤ 8388607) :
    Calls Try.prog 75 #[.int .i64 n] w fun e w' => e = .returned (.tuple #[.string (bytesOf (manyB n 3)), .int .i64 0]) ∧ Ext w w' := by
    go_enter Try.func75, Try.ntmps75
    go_wp2_with fail
    refine wp_loop_rounds 3 ?_
    rw [rounds_succ]
    go_wp2_with fail
    go_loop [5, 6] (fun h i => ∃ k : Nat, 1 ≤ k ∧ k ≤ 8 ∧ i = .int .i64 k ∧ h = .int .i64 (pw k)) (fun _ i => 8 - (intOf i).toNat)
    case atStart => exact ⟨1, by omega, by omega, rfl, rfl⟩
    case round =>
    obtain ⟨k, hk1, hk2, rfl, rfl⟩ := hrel
    by_cases hk : k < 8
    · have hs := pw_succ k hk1
      have HS := Lib.hid hs
      clear hs
      obtain ⟨p1, p2⟩ := pw_bd k (by omega)
      go_wp2_with fail
      go_round
      case rel => exact ⟨k + 1, by omega, by omega, by go_num, by rw [HS.out]⟩
      case measure => simp [intOf]; omega
    obtain rfl : k = 8 := by omega
    have hpw := pw8
    clear hk hk1 hk2
    go_wp2_with fail
    clear hpw
    rw [rounds_succ]
    go_wp2_with fail
    go_loop [5, 6] (fun h i => ∃ k : Nat, 1 ≤ k ∧ k ≤ 16 ∧ i = .int .i64 k ∧ h = .int .i64 (pw k)) (fun _ i => 16 - (intOf i).toNat)
    case atStart => exact ⟨1, by omega, by omega, rfl, rfl⟩
    case round =>
    obtain ⟨k, hk1, hk2, rfl, rfl⟩ := hrel
    by_cases hk : k < 16
    · have hs := pw_succ k hk1
      have HS := Lib.hid hs
      clear hs
      obtain ⟨p1, p2⟩ := pw_bd k (by omega)
      go_wp2_with fail
      go_round
      case rel => exact ⟨k + 1, by omega, by omega, by go_num, by rw [HS.out]⟩
      case measure => simp [intOf]; omega
    obtain rfl : k = 16 := by omega
    have hpw := pw16
    clear hk hk1 hk2
    go_wp2_with fail
    clear hpw
    rw [rounds_succ]
    go_wp2_with fail
    go_loop [5, 6] (fun h i => ∃ k : Nat, 1 ≤ k ∧ k ≤ 24 ∧ i = .int .i64 k ∧ h = .int .i64 (pw k)) (fun _ i => 24 - (intOf i).toNat)
    case atStart => exact ⟨1, by omega, by omega, rfl, rfl⟩
    case round =>
    obtain ⟨k, hk1, hk2, rfl, rfl⟩ := hrel
    by_cases hk : k < 24
    · have hs := pw_succ k hk1
      have HS := Lib.hid hs
      clear hs
      obtain ⟨p1, p2⟩ := pw_bd k (by omega)
      go_wp2_with fail
      go_round
      case rel => exact ⟨k + 1, by omega, by omega, by go_num, by rw [HS.out]⟩
      case measure => simp [intOf]; omega
    obtain rfl : k = 24 := by omega
    have hpw := pw24
    clear hk hk1 hk2
    go_wp2_with fail
    clear hpw
    refine (bytesR_any n 3 _ (by decide) (by decide)).mono ?_; rintro e w1 ⟨rfl, E⟩
    go_wp2_with fail
    go_ret2
    exact ⟨rfl, E⟩

set_option maxRecDepth 100000 in
set_option maxHeartbeats 2000000 in
theorem putR_4n (n : Int) (w : World) (h0 : -2147483648 ≤ n) (h1 : n ≤ -8388609) :
    Calls Try.prog 75 #[.int .i64 n] w fun e w' => e = .returned (.tuple #[.string (bytesOf (manyB n 4)), .int .i64 0]) ∧ Ext w w' := by
    go_enter Try.func75, Try.ntmps75
    go_wp2_with fail
    refine wp_loop_rounds 4 ?_
    rw [rounds_succ]
    go_wp2_with fail
    go_loop [5, 6] (fun h i => ∃ k : Nat, 1 ≤ k ∧ k ≤ 8 ∧ i = .int .i64 k ∧ h = .int .i64 (pw k)) (fun _ i => 8 - (intOf i).toNat)
    case atStart => exact ⟨1, by omega, by omega, rfl, rfl⟩
    case round =>
    obtain ⟨k, hk1, hk2, rfl, rfl⟩ := hrel
    by_cases hk : k < 8
    · have hs := pw_succ k hk1
      have HS := Lib.hid hs
      clear hs
      obtain ⟨p1, p2⟩ := pw_bd k (by omega)
      go_wp2_with fail
      go_round
      case rel => exact ⟨k + 1, by omega, by omega, by go_num, by rw [HS.out]⟩
      case measure => simp [intOf]; omega
    obtain rfl : k = 8 := by omega
    have hpw := pw8
    clear hk hk1 hk2
    go_wp2_with fail
    clear hpw
    rw [rounds_succ]
    go_wp2_with fail
    go_loop [5, 6] (fun h i => ∃ k : Nat, 1 ≤ k ∧ k ≤ 16 ∧ i = .int .i64 k ∧ h = .int .i64 (pw k)) (fun _ i => 16 - (intOf i).toNat)
    case atStart => exact ⟨1, by omega, by omega, rfl, rfl⟩
    case round =>
    obtain ⟨k, hk1, hk2, rfl, rfl⟩ := hrel
    by_cases hk : k < 16
    · have hs := pw_succ k hk1
      have HS := Lib.hid hs
      clear hs
      obtain ⟨p1, p2⟩ := pw_bd k (by omega)
      go_wp2_with fail
      go_round
      case rel => exact ⟨k + 1, by omega, by omega, by go_num, by rw [HS.out]⟩
      case measure => simp [intOf]; omega
    obtain rfl : k = 16 := by omega
    have hpw := pw16
    clear hk hk1 hk2
    go_wp2_with fail
    clear hpw
    rw [rounds_succ]
    go_wp2_with fail
    go_loop [5, 6] (fun h i => ∃ k : Nat, 1 ≤ k ∧ k ≤ 24 ∧ i = .int .i64 k ∧ h = .int .i64 (pw k)) (fun _ i => 24 - (intOf i).toNat)
    case atStart => exact ⟨1, by omega, by omega, rfl, rfl⟩
    case round =>
    obtain ⟨k, hk1, hk2, rfl, rfl⟩ := hrel
    by_cases hk : k < 24
    · have hs := pw_succ k hk1
      have HS := Lib.hid hs
      clear hs
      obtain ⟨p1, p2⟩ := pw_bd k (by omega)
      go_wp2_with fail
      go_round
      case rel => exact ⟨k + 1, by omega, by omega, by go_num, by rw [HS.out]⟩
      case measure => simp [intOf]; omega
    obtain rfl : k = 24 := by omega
    have hpw := pw24
    clear hk hk1 hk2
    go_wp2_with fail
    clear hpw
    rw [rounds_succ]
    go_wp2_with fail
    refine (bytesR_any n 4 _ (by decide) (by decide)).mono ?_; rintro e w1 ⟨rfl, E⟩
    go_wp2_with fail
    go_ret2
    exact ⟨rfl, E⟩

set_option maxRecDepth 100000 in
set_option maxHeartbeats 2000000 in
theorem putR_4p (n : Int) (w : World) (h0 : 8388608 ≤ n) (h1 : n ≤ 2147483647) :
    Calls Try.prog 75 #[.int .i64 n] w fun e w' => e = .returned (.tuple #[.string (bytesOf (manyB n 4)), .int .i64 0]) ∧ Ext w w' := by
    go_enter Try.func75, Try.ntmps75
    go_wp2_with fail
    refine wp_loop_rounds 4 ?_
    rw [rounds_succ]
    go_wp2_with fail
    go_loop [5, 6] (fun h i => ∃ k : Nat, 1 ≤ k ∧ k ≤ 8 ∧ i = .int .i64 k ∧ h = .int .i64 (pw k)) (fun _ i => 8 - (intOf i).toNat)
    case atStart => exact ⟨1, by omega, by omega, rfl, rfl⟩
    case round =>
    obtain ⟨k, hk1, hk2, rfl, rfl⟩ := hrel
    by_cases hk : k < 8
    · have hs := pw_succ k hk1
      have HS := Lib.hid hs
      clear hs
      obtain ⟨p1, p2⟩ := pw_bd k (by omega)
      go_wp2_with fail
      go_round
      case rel => exact ⟨k + 1, by omega, by omega, by go_num, by rw [HS.out]⟩
      case measure => simp [intOf]; omega
    obtain rfl : k = 8 := by omega
    have hpw := pw8
    clear hk hk1 hk2
    go_wp2_with fail
    clear hpw
    rw [rounds_succ]
    go_wp2_with fail
    go_loop [5, 6] (fun h i => ∃ k : Nat, 1 ≤ k ∧ k ≤ 16 ∧ i = .int .i64 k ∧ h = .int .i64 (pw k)) (fun _ i => 16 - (intOf i).toNat)
    case atStart => exact ⟨1, by omega, by omega, rfl, rfl⟩
    case round =>
    obtain ⟨k, hk1, hk2, rfl, rfl⟩ := hrel
    by_cases hk : k < 16
    · have hs := pw_succ k hk1
      have HS := Lib.hid hs
      clear hs
      obtain ⟨p1, p2⟩ := pw_bd k (by omega)
      go_wp2_with fail
      go_round
      case rel => exact ⟨k + 1, by omega, by omega, by go_num, by rw [HS.out]⟩
      case measure => simp [intOf]; omega
    obtain rfl : k = 16 := by omega
    have hpw := pw16
    clear hk hk1 hk2
    go_wp2_with fail
    clear hpw
    rw [rounds_succ]
    go_wp2_with fail
    go_loop [5, 6] (fun h i => ∃ k : Nat, 1 ≤ k ∧ k ≤ 24 ∧ i = .int .i64 k ∧ h = .int .i64 (pw k)) (fun _ i => 24 - (intOf i).toNat)
    case atStart => exact ⟨1, by omega, by omega, rfl, rfl⟩
    case round =>
    obtain ⟨k, hk1, hk2, rfl, rfl⟩ := hrel
    by_cases hk : k < 24
    · have hs := pw_succ k hk1
      have HS := Lib.hid hs
      clear hs
      obtain ⟨p1, p2⟩ := pw_bd k (by omega)
      go_wp2_with fail
      go_round
      case rel => exact ⟨k + 1, by omega, by omega, by go_num, by rw [HS.out]⟩
      case measure => simp [intOf]; omega
    obtain rfl : k = 24 := by omega
    have hpw := pw24
    clear hk hk1 hk2
    go_wp2_with fail
    clear hpw
    rw [rounds_succ]
    go_wp2_with fail
    refine (bytesR_any n 4 _ (by decide) (by decide)).mono ?_; rintro e w1 ⟨rfl, E⟩
    go_wp2_with fail
    go_ret2
    exact ⟨rfl, E⟩

theorem putR_ok (n : Int) (w : World) (h0 : -2147483648 ≤ n) (h1 : n ≤ 2147483647) :
    Calls Try.prog 75 #[.int .i64 n] w fun e w' => e = .returned (.tuple #[.string (bytesOf (putB n)), .int .i64 0]) ∧ Ext w w' := by
  unfold putB manyF
  by_cases hs : n < 0
  · split
    · exact putR_1n n w (by omega) (by omega)
    · split
      · exact putR_2n n w (by omega) (by omega)
      · split
        · exact putR_3n n w (by omega) (by omega)
        · exact putR_4n n w (by omega) (by omega)
  · split
    · exact putR_1p n w (by omega) (by omega)
    · split
      · exact putR_2p n w (by omega) (by omega)
      · split
        · exact putR_3p n w (by omega) (by omega)
        · exact putR_4p n w (by omega) (by omega)

theorem putR_no (n : Int) (w : World) (h : n < -2147483648 ∨ 2147483647 < n) :
    Calls Try.prog 75 #[.int .i64 n] w fun e w' => e = .returned (.tuple #[.string ByteArray.empty, .int .i64 2]) ∧ Ext w w' := by
  rcases h with h | h
  · go_enter Try.func75, Try.ntmps75
    go_wp2_with fail
    go_ret2
    exact ⟨rfl, Ext.refl _⟩
  · have hd : decide (n < -2147483648) = false := by simp; omega
    go_enter Try.func75, Try.ntmps75
    go_wp2_with fail
    go_ret2
    exact ⟨rfl, Ext.refl _⟩

end Go.Proofs.Ytcffpndhodhncaa.Num
end
section
/- num.Read and bothyref02.Read: both give the number rdF of a text's bytes, or the errors. -/
namespace Go.Proofs.Ytcffpndhodhncaa.Num
open Go.RowKit Go.Bo

theorem w64b (s : ByteArray) (k : Nat) : wrap64 (bt s k) = bt s k := by
  have := bt_bd s k
  exact IntWalk.wrap64_in _ (by omega)
/-- A byte's sign. -/
def sgB (s : ByteArray) (k : Nat) : Int := if bt s k < 128 then 0 else -1
theorem sgB_eq (s : ByteArray) (k : Nat) : wrap64 (IntKind.i8.wrap (bt s k)) / 128 = sgB s k := by
  have := bt_bd s k
  have h : IntKind.i8.wrap (bt s k) = if bt s k < 128 then bt s k else bt s k - 256 := by
    split
    · exact IntWalk.i8_in _ (by omega)
    · simp [IntKind.wrap, IntKind.bits, IntKind.signed]; omega
  rw [h]
  unfold sgB
  split
  · rw [IntWalk.wrap64_in _ (by omega)]; omega
  · rw [IntWalk.wrap64_in _ (by omega)]; omega

theorem or8 (x b : Int) (h0 : -1099511627776 ≤ x) (h1 : x ≤ 1099511627776) (h2 : 0 ≤ b) (h3 : b ≤ 255) : bits BinOp.or IntKind.i64 (x * 256) b = x * 256 + b := by
  show IntKind.i64.wrap ((BitVec.ofInt 64 (x * 256) ||| BitVec.ofInt 64 b).toNat : Int) = _
  rw [BitVec.toNat_or, BitVec.toNat_ofInt, BitVec.toNat_ofInt, nat_join 8 _ _ (by omega) (by omega), IntKind.wrap_i64]
  omega

def sg0 (s : ByteArray) : Int := sgB s 0
/-- The number of so many bytes. -/
def rdN (s : ByteArray) : Nat → Int
  | 0 => sg0 s
  | k + 1 => rdN s k * 256 + bt s k
theorem rdN_bd (s : ByteArray) : ∀ k, -(256 ^ k : Nat) ≤ rdN s k ∧ rdN s k < (256 ^ k : Nat) := by
  intro k
  induction k with
  | zero => simp [rdN, sg0, sgB]; split <;> omega
  | succ k ih =>
    have := bt_bd s k
    simp only [rdN, Nat.pow_succ]
    omega
theorem rdN_bd' (s : ByteArray) (k : Nat) (h : k ≤ 4) : -4294967296 ≤ rdN s k ∧ rdN s k < 4294967296 := by
  have h1 := rdN_bd s k
  have h2 : 256 ^ k ≤ 256 ^ 4 := Nat.pow_le_pow_right (by omega) h
  have h3 : 256 ^ 4 = 4294967296 := by decide
  omega

/-- Whether a text's first byte says what the second says already. -/
def formB (s : ByteArray) : Bool := (bt s 0 == 0 && bt s 1 < 128) || (bt s 0 == 255 && 128 ≤ bt s 1)
/-- What a text is read as. -/
def rdE (s : ByteArray) : Int := if s.size = 0 then 4 else if 1 < s.size ∧ formB s then 5 else if 4 < s.size then 3 else 0
def rdF (s : ByteArray) : Int := if rdE s = 0 then rdN s s.size else 0

theorem emptyB {s : ByteArray} (h : s.size ≠ 0) : s.toList.isEmpty = false := by
  rw [Go.ByteArray.toList_eq]
  have h2 : s.data.toList.length = s.size := by simp
  cases hl : s.data.toList with
  | nil => rw [hl] at h2; simp at h2; omega
  | cons => rfl
theorem empty0 {s : ByteArray} (h : s.size = 0) : s = ByteArray.empty := by
  apply ByteArray.ext
  exact Array.eq_empty_of_size_eq_zero h

/-- The ways of the two first bytes. -/
def WayB (s : ByteArray) (g : Int) (d : Int) (x : Bool) (g1 : Int) (f : Bool) : Prop := sgB s 0 = g ∧ (bt s 0 == d) = x ∧ sgB s 1 = g1 ∧ formB s = f
theorem read_cases (s : ByteArray) : WayB s 0 0 true 0 true ∨ WayB s 0 0 true (-1) false ∨ WayB s 0 0 false 0 false ∨ WayB s 0 0 false (-1) false ∨
    WayB s (-1) 255 true 0 false ∨ WayB s (-1) 255 true (-1) true ∨ WayB s (-1) 255 false 0 false ∨ WayB s (-1) 255 false (-1) false := by
  have h0 := bt_bd s 0
  have h1 := bt_bd s 1
  unfold WayB sgB formB
  grind

theorem rdE_long {s : ByteArray} {f : Bool} (_h1 : (1 : Int) < (s.size : Int)) (h4 : (4 : Int) < (s.size : Int)) (hf : formB s = f) : rdE s = if f then 5 else 3 := by
  unfold rdE
  rw [if_neg (by omega), hf]
  cases f
  · rw [if_neg (by simp), if_pos (by omega)]; rfl
  · rw [if_pos ⟨by omega, rfl⟩]; rfl
theorem rdE_mid {s : ByteArray} {f : Bool} (h1 : (1 : Int) < (s.size : Int)) (h4 : (s.size : Int) ≤ 4) (hf : formB s = f) : rdE s = if f then 5 else 0 := by
  unfold rdE
  rw [if_neg (by omega), hf]
  cases f
  · rw [if_neg (by simp), if_neg (by omega)]; rfl
  · rw [if_pos ⟨by omega, rfl⟩]; rfl
theorem rdE_one {s : ByteArray} (h1 : s.size = 1) : rdE s = 0 := by
  unfold rdE
  rw [if_neg (by omega), if_neg (by omega), if_neg (by omega)]
theorem rdF_no {s : ByteArray} {e : Int} (h : rdE s = e) (he : e ≠ 0) : rdF s = 0 := by
  unfold rdF; rw [h, if_neg he]
theorem rdF_yes {s : ByteArray} (h : rdE s = 0) : rdF s = rdN s s.size := by
  unfold rdF; rw [h, if_pos rfl]

set_option maxRecDepth 100000 in
set_option maxHeartbeats 4000000 in
theorem read_any (s : ByteArray) (w : World) (h' : s.size ≤ 9223372036854775807) :
    Calls Try.prog 66 #[.string s] w fun e w' => e = .returned (.tuple #[.int .i64 (rdF s), .int .i64 (rdE s)]) ∧ w = w' := by
  by_cases hz : s.size = 0
  · obtain rfl := empty0 hz
    go_enter Try.func66, Try.ntmps66
    go_wp2_with fail
    go_ret2
    exact ⟨rfl, rfl⟩
  have he := emptyB hz
  have b0 := w64b s 0
  have q0 := sgB_eq s 0
  have q1 := sgB_eq s 1
  have a0 : bits BinOp.and IntKind.i64 0 255 = 0 := by decide
  have a1 : bits BinOp.and IntKind.i64 (-1) 255 = 255 := by decide
  by_cases h1 : (1 : Int) < (s.size : Int)
  · by_cases h4 : (4 : Int) < (s.size : Int)
    · rcases read_cases s with ⟨g0, hx, g1, hf⟩ | ⟨g0, hx, g1, hf⟩ | ⟨g0, hx, g1, hf⟩ | ⟨g0, hx, g1, hf⟩ | ⟨g0, hx, g1, hf⟩ | ⟨g0, hx, g1, hf⟩ | ⟨g0, hx, g1, hf⟩ | ⟨g0, hx, g1, hf⟩
      all_goals
        rw [g0] at q0
        rw [g1] at q1
        have he1 := rdE_long h1 h4 hf
        have hf1 := rdF_no he1 (by decide)
        rw [he1, hf1]
        clear g0 g1 hf he1 hf1
        go_enter Try.func66, Try.ntmps66
        go_wp2_with ((first | (with_reducible refine wp_index_str 0 9 _ _ rfl rfl Try.underlying9 _ _ rfl rfl ?_ ?_) | (with_reducible refine wp_index_str 1 9 _ _ rfl rfl Try.underlying9 _ _ rfl rfl ?_ ?_)); focus omega)
        go_ret2
        exact ⟨rfl, rfl⟩
    · rcases read_cases s with ⟨g0, hx, g1, hf⟩ | ⟨g0, hx, g1, hf⟩ | ⟨g0, hx, g1, hf⟩ | ⟨g0, hx, g1, hf⟩ | ⟨g0, hx, g1, hf⟩ | ⟨g0, hx, g1, hf⟩ | ⟨g0, hx, g1, hf⟩ | ⟨g0, hx, g1, hf⟩
      all_goals
        rw [g0] at q0
        rw [g1] at q1
        have he1 := rdE_mid h1 (by omega) hf
        have G0 := Lib.hid g0
        clear g0 g1 hf
      all_goals first
      | (have hf1 := rdF_no he1 (by decide)
         rw [he1, hf1]
         clear he1 hf1
         go_enter Try.func66, Try.ntmps66
         go_wp2_with ((first | (with_reducible refine wp_index_str 0 9 _ _ rfl rfl Try.underlying9 _ _ rfl rfl ?_ ?_) | (with_reducible refine wp_index_str 1 9 _ _ rfl rfl Try.underlying9 _ _ rfl rfl ?_ ?_)); focus omega)
         go_ret2
         exact ⟨rfl, rfl⟩)
      | (have hf1 := rdF_yes he1
         rw [he1, hf1]
         clear he1 hf1
         go_enter Try.func66, Try.ntmps66
         go_wp2_with ((first | (with_reducible refine wp_index_str 0 9 _ _ rfl rfl Try.underlying9 _ _ rfl rfl ?_ ?_) | (with_reducible refine wp_index_str 1 9 _ _ rfl rfl Try.underlying9 _ _ rfl rfl ?_ ?_)); focus omega)
         go_loop [5, 42] (fun n i => ∃ k : Nat, k ≤ s.size ∧ i = .int .i64 k ∧ n = .int .i64 (rdN s k)) (fun _ i => s.size - (intOf i).toNat)
         case atStart => exact ⟨0, by omega, rfl, by rw [rdN, sg0, G0.out]⟩
         case round =>
         obtain ⟨k, hk, rfl, rfl⟩ := hrel
         by_cases hlt : k < s.size
         · obtain ⟨c1, c2⟩ := rdN_bd' s k (by omega)
           have c3 := bt_bd s k
           have hor := or8 (rdN s k) (bt s k) (by omega) (by omega) (by omega) (by omega)
           have bk := w64b s k
           clear c3
           go_wp2_with (((with_reducible refine wp_index_str _ 9 _ _ rfl rfl Try.underlying9 _ _ rfl rfl ?_ ?_)); focus omega)
           go_round
           case rel => exact ⟨k + 1, by omega, by go_num, rfl⟩
           case measure => simp [intOf]; omega
         · obtain rfl : k = s.size := by omega
           go_wp2_with fail
           go_ret2
           exact ⟨rfl, rfl⟩)
  · have hs1 : s.size = 1 := by omega
    have he1 := rdE_one hs1
    have hf1 := rdF_yes he1
    rw [he1, hf1]
    clear he1 hf1 hs1
    rcases read_cases s with ⟨g0, hx, g1, hf⟩ | ⟨g0, hx, g1, hf⟩ | ⟨g0, hx, g1, hf⟩ | ⟨g0, hx, g1, hf⟩ | ⟨g0, hx, g1, hf⟩ | ⟨g0, hx, g1, hf⟩ | ⟨g0, hx, g1, hf⟩ | ⟨g0, hx, g1, hf⟩
    all_goals
        rw [g0] at q0
        rw [g1] at q1
        have G0 := Lib.hid g0
        clear g0 g1 hf
        go_enter Try.func66, Try.ntmps66
        go_wp2_with ((first | (with_reducible refine wp_index_str 0 9 _ _ rfl rfl Try.underlying9 _ _ rfl rfl ?_ ?_) | (with_reducible refine wp_index_str 1 9 _ _ rfl rfl Try.underlying9 _ _ rfl rfl ?_ ?_)); focus omega)
        go_loop [5, 42] (fun n i => ∃ k : Nat, k ≤ s.size ∧ i = .int .i64 k ∧ n = .int .i64 (rdN s k)) (fun _ i => s.size - (intOf i).toNat)
        case atStart => exact ⟨0, by omega, rfl, by rw [rdN, sg0, G0.out]⟩
        case round =>
        obtain ⟨k, hk, rfl, rfl⟩ := hrel
        by_cases hlt : k < s.size
        · obtain ⟨c1, c2⟩ := rdN_bd' s k (by omega)
          have c3 := bt_bd s k
          have hor := or8 (rdN s k) (bt s k) (by omega) (by omega) (by omega) (by omega)
          have bk := w64b s k
          clear c3
          go_wp2_with (((with_reducible refine wp_index_str _ 9 _ _ rfl rfl Try.underlying9 _ _ rfl rfl ?_ ?_)); focus omega)
          go_round
          case rel => exact ⟨k + 1, by omega, by go_num, rfl⟩
          case measure => simp [intOf]; omega
        · obtain rfl : k = s.size := by omega
          go_wp2_with fail
          go_ret2
          exact ⟨rfl, rfl⟩
end Go.Proofs.Ytcffpndhodhncaa.Num
end
section
/- bothyref02.Read gives the number rdF of a text's bytes, or the errors; truths as bytes, both ways. -/
namespace Go.Proofs.Ytcffpndhodhncaa.Num
open Go.RowKit Go.Bo

def WayR (s : ByteArray) (x0 x1 x2 x3 x4 : Bool) (g : Int) (f : Bool) : Prop := (bt s 0 == 0) = x0 ∧ decide (bt s 1 < 128) = x1 ∧ (bt s 0 == 255) = x2 ∧ decide (128 ≤ bt s 1) = x3 ∧ decide (128 ≤ bt s 0) = x4 ∧ sgB s 0 = g ∧ formB s = f
theorem readR_cases (s : ByteArray) : WayR s true true false false false 0 true ∨ WayR s true false false true false 0 false ∨ WayR s false true true false true (-1) false ∨ WayR s false false true true true (-1) true ∨
    WayR s false true false false false 0 false ∨ WayR s false true false false true (-1) false ∨ WayR s false false false true false 0 false ∨ WayR s false false false true true (-1) false := by
  have h0 := bt_bd s 0
  have h1 := bt_bd s 1
  unfold WayR sgB formB
  generalize bt s 0 = x at *
  generalize bt s 1 = y at *
  by_cases c : y < 128 <;> by_cases a : x = 0 <;> by_cases b : x = 255 <;> by_cases d : 128 ≤ x
  all_goals first
    | (exfalso; omega)
    | (have c' : decide (128 ≤ y) = true := by simp; omega
       have d' : ¬ x < 128 := by omega
       simp [a, b, c, c', d, d']; done)
    | (have c' : decide (128 ≤ y) = true := by simp; omega
       have d' : x < 128 := by omega
       simp [a, b, c, c', d, d']; done)
    | (have c' : decide (128 ≤ y) = false := by simp; omega
       have d' : ¬ x < 128 := by omega
       simp [a, b, c, c', d, d']; done)
    | (have c' : decide (128 ≤ y) = false := by simp; omega
       have d' : x < 128 := by omega
       simp [a, b, c, c', d, d']; done)
    | skip

set_option maxRecDepth 100000 in
set_option maxHeartbeats 4000000 in
theorem readR_any (s : ByteArray) (w : World) (h' : s.size ≤ 9223372036854775807) :
    Calls Try.prog 50 #[.string s] w fun e w' => e = .returned (.tuple #[.int .i64 (rdF s), .int .i64 (rdE s)]) ∧ w = w' := by
  by_cases hz : s.size = 0
  · obtain rfl := empty0 hz
    go_enter Try.func50, Try.ntmps50
    go_wp2_with fail
    go_ret2
    exact ⟨rfl, rfl⟩
  have he := emptyB hz
  by_cases h1 : (1 : Int) < (s.size : Int)
  · by_cases h4 : (4 : Int) < (s.size : Int)
    · rcases readR_cases s with ⟨x0, x1, x2, x3, x4, g0, hf⟩ | ⟨x0, x1, x2, x3, x4, g0, hf⟩ | ⟨x0, x1, x2, x3, x4, g0, hf⟩ | ⟨x0, x1, x2, x3, x4, g0, hf⟩ | ⟨x0, x1, x2, x3, x4, g0, hf⟩ | ⟨x0, x1, x2, x3, x4, g0, hf⟩ | ⟨x0, x1, x2, x3, x4, g0, hf⟩ | ⟨x0, x1, x2, x3, x4, g0, hf⟩
      all_goals
        have he1 := rdE_long h1 h4 hf
        have hf1 := rdF_no he1 (by decide)
        rw [he1, hf1]
        clear g0 hf he1 hf1
        go_enter Try.func50, Try.ntmps50
        go_wp2_with ((first | (with_reducible refine wp_index_str 0 9 _ _ rfl rfl Try.underlying9 _ _ rfl rfl ?_ ?_) | (with_reducible refine wp_index_str 1 9 _ _ rfl rfl Try.underlying9 _ _ rfl rfl ?_ ?_)); focus omega)
        go_ret2
        exact ⟨rfl, rfl⟩
    · rcases readR_cases s with ⟨x0, x1, x2, x3, x4, g0, hf⟩ | ⟨x0, x1, x2, x3, x4, g0, hf⟩ | ⟨x0, x1, x2, x3, x4, g0, hf⟩ | ⟨x0, x1, x2, x3, x4, g0, hf⟩ | ⟨x0, x1, x2, x3, x4, g0, hf⟩ | ⟨x0, x1, x2, x3, x4, g0, hf⟩ | ⟨x0, x1, x2, x3, x4, g0, hf⟩ | ⟨x0, x1, x2, x3, x4, g0, hf⟩
      all_goals
        have he1 := rdE_mid h1 (by omega) hf
        have G0 := Lib.hid g0
        clear g0 hf
      all_goals first
      | (have hf1 := rdF_no he1 (by decide)
         rw [he1, hf1]
         clear he1 hf1
         go_enter Try.func50, Try.ntmps50
         go_wp2_with ((first | (with_reducible refine wp_index_str 0 9 _ _ rfl rfl Try.underlying9 _ _ rfl rfl ?_ ?_) | (with_reducible refine wp_index_str 1 9 _ _ rfl rfl Try.underlying9 _ _ rfl rfl ?_ ?_)); focus omega)
         go_ret2
         exact ⟨rfl, rfl⟩)
      | (have hf1 := rdF_yes he1
         rw [he1, hf1]
         clear he1 hf1
         go_enter Try.func50, Try.ntmps50
         go_wp2_with ((first | (with_reducible refine wp_index_str 0 9 _ _ rfl rfl Try.underlying9 _ _ rfl rfl ?_ ?_) | (with_reducible refine wp_index_str 1 9 _ _ rfl rfl Try.underlying9 _ _ rfl rfl ?_ ?_)); focus omega)
         go_loop [4, 5] (fun n i => ∃ k : Nat, k ≤ s.size ∧ i = .int .i64 k ∧ n = .int .i64 (rdN s k)) (fun _ i => s.size - (intOf i).toNat)
         case atStart => exact ⟨0, by omega, rfl, by rw [rdN, sg0, G0.out]⟩
         case round =>
         obtain ⟨k, hk, rfl, rfl⟩ := hrel
         by_cases hlt : k < s.size
         · obtain ⟨c1, c2⟩ := rdN_bd' s k (by omega)
           have c3 := bt_bd s k
           have bk := w64b s k
           go_wp2_with (((with_reducible refine wp_index_str _ 9 _ _ rfl rfl Try.underlying9 _ _ rfl rfl ?_ ?_)); focus omega)
           go_round
           case rel => exact ⟨k + 1, by omega, by go_num, rfl⟩
           case measure => simp [intOf]; omega
         · obtain rfl : k = s.size := by omega
           go_wp2_with fail
           go_ret2
           exact ⟨rfl, rfl⟩)
  · have hs1 : s.size = 1 := by omega
    have he1 := rdE_one hs1
    have hf1 := rdF_yes he1
    rw [he1, hf1]
    clear he1 hf1 hs1
    rcases readR_cases s with ⟨x0, x1, x2, x3, x4, g0, hf⟩ | ⟨x0, x1, x2, x3, x4, g0, hf⟩ | ⟨x0, x1, x2, x3, x4, g0, hf⟩ | ⟨x0, x1, x2, x3, x4, g0, hf⟩ | ⟨x0, x1, x2, x3, x4, g0, hf⟩ | ⟨x0, x1, x2, x3, x4, g0, hf⟩ | ⟨x0, x1, x2, x3, x4, g0, hf⟩ | ⟨x0, x1, x2, x3, x4, g0, hf⟩
    all_goals
        have G0 := Lib.hid g0
        clear g0 hf
        go_enter Try.func50, Try.ntmps50
        go_wp2_with ((first | (with_reducible refine wp_index_str 0 9 _ _ rfl rfl Try.underlying9 _ _ rfl rfl ?_ ?_) | (with_reducible refine wp_index_str 1 9 _ _ rfl rfl Try.underlying9 _ _ rfl rfl ?_ ?_)); focus omega)
        go_loop [4, 5] (fun n i => ∃ k : Nat, k ≤ s.size ∧ i = .int .i64 k ∧ n = .int .i64 (rdN s k)) (fun _ i => s.size - (intOf i).toNat)
        case atStart => exact ⟨0, by omega, rfl, by rw [rdN, sg0, G0.out]⟩
        case round =>
        obtain ⟨k, hk, rfl, rfl⟩ := hrel
        by_cases hlt : k < s.size
        · obtain ⟨c1, c2⟩ := rdN_bd' s k (by omega)
          have c3 := bt_bd s k
          have bk := w64b s k
          go_wp2_with (((with_reducible refine wp_index_str _ 9 _ _ rfl rfl Try.underlying9 _ _ rfl rfl ?_ ?_)); focus omega)
          go_round
          case rel => exact ⟨k + 1, by omega, by go_num, rfl⟩
          case measure => simp [intOf]; omega
        · obtain rfl : k = s.size := by omega
          go_wp2_with fail
          go_ret2
          exact ⟨rfl, rfl⟩

def boolB (b : Bool) : ByteArray := if b then ⟨#[255]⟩ else ⟨#[0]⟩

theorem bool_any (b : Bool) (w : World) : Calls Try.prog 61 #[.bool b] w fun e w' => e = .returned (.string (boolB b)) ∧ w = w' := by
  cases b
  all_goals
    go_enter Try.func61, Try.ntmps61
    go_wp2_with fail
    go_ret
    exact ⟨rfl, rfl⟩
theorem boolR_any (b : Bool) (w : World) : Calls Try.prog 81 #[.bool b] w fun e w' => e = .returned (.string (boolB b)) ∧ w = w' := by
  cases b
  all_goals
    go_enter Try.func81, Try.ntmps81
    go_wp2_with fail
    go_ret
    exact ⟨rfl, rfl⟩

def rbF (s : ByteArray) : Bool := s.toList == [255]
def rbE (s : ByteArray) : Int := if s.toList.isEmpty then 4 else if s.toList == [255] then 0 else if s.toList == [0] then 0 else 5
def WayT (s : ByteArray) (x y z : Bool) : Prop := s.toList.isEmpty = x ∧ (s.toList == [255]) = y ∧ (s.toList == [0]) = z
theorem rb_cases (s : ByteArray) : WayT s true false false ∨ WayT s false true false ∨ WayT s false false true ∨ WayT s false false false := by
  unfold WayT
  cases s.toList with
  | nil => simp
  | cons a l =>
    cases l with
    | cons => simp
    | nil =>
      by_cases h1 : a = 255
      · subst h1; simp
      · by_cases h0 : a = 0
        · subst h0; simp
        · simp [h1, h0]
theorem ret_bi {b b' : Bool} {x x' : Int} (h : b = b') (h2 : x = x') : Ending.returned (.tuple #[.bool b, .int .i64 x]) = .returned (.tuple #[.bool b', .int .i64 x']) := by rw [h, h2]

theorem readBool_any (s : ByteArray) (w : World) : Calls Try.prog 67 #[.string s] w fun e w' => e = .returned (.tuple #[.bool (rbF s), .int .i64 (rbE s)]) ∧ w = w' := by
  rcases rb_cases s with ⟨h1, h2, h3⟩ | ⟨h1, h2, h3⟩ | ⟨h1, h2, h3⟩ | ⟨h1, h2, h3⟩
  all_goals
    go_enter Try.func67, Try.ntmps67
    go_wp2_with fail
    go_ret2
    exact ⟨ret_bi (by unfold rbF; first | rfl | exact h2.symm) (by unfold rbE; grind), rfl⟩

end Go.Proofs.Ytcffpndhodhncaa.Num
end
section
/- Plain laws of numbers as bytes: a number comes back from its bytes, and bytes from their number. -/
namespace Go.Proofs.Ytcffpndhodhncaa.Num
open Go.RowKit Go.Bo

theorem size_bytesOf (ns : List Int) : (bytesOf ns).size = ns.length := by
  show (bytesOf ns).data.size = _
  simp [bytesOf]
theorem bt_bytesOf (ns : List Int) (k : Nat) (h : ∀ n ∈ ns, 0 ≤ n ∧ n ≤ 255) : bt (bytesOf ns) k = ns.getD k 0 := by
  unfold bt bytesOf
  simp only [List.getD, List.getElem?_map]
  cases hk : ns[k]? with
  | none => simp
  | some x =>
    have := h x (List.mem_of_getElem? hk)
    simp [UInt8.toNat_ofNat']
    omega
theorem bytes_eq (s : ByteArray) : s = bytesOf ((List.range s.size).map (bt s)) := by
  apply ByteArray.ext
  apply Array.ext'
  have hl : s.data.toList.length = s.size := by simp
  apply List.ext_getElem
  · simp [bytesOf]
  · intro i h1 h2
    have h3 : i < s.data.size := by simpa using h1
    simp only [bytesOf, List.map_map, List.getElem_map, List.getElem_range, Function.comp, bt]
    simp only [List.getD, Array.getElem?_toList, Array.getElem?_eq_getElem h3, Option.getD_some, Int.toNat_natCast, Array.getElem_toList]
    simp

theorem manyF_bd (n : Int) : 1 ≤ manyF n ∧ manyF n ≤ 4 := by unfold manyF; split <;> (try split) <;> (try split) <;> omega
theorem manyB_bd (n : Int) (m : Nat) : ∀ x ∈ manyB n m, 0 ≤ x ∧ x ≤ 255 := by
  intro x hx
  unfold manyB at hx
  split at hx <;> simp at hx <;> omega
theorem put_size (n : Int) : (bytesOf (putB n)).size = manyF n := by
  rw [size_bytesOf, putB, manyB_len _ _ (manyF_bd n).2]

theorem form_put (n : Int) (h0 : -2147483648 ≤ n) (h1 : n ≤ 2147483647) : (1 < manyF n → formB (bytesOf (putB n)) = false) ∧ rdN (bytesOf (putB n)) (manyF n) = n := by
  have hb := fun k => bt_bytesOf (putB n) k (manyB_bd n _)
  unfold formB
  simp only [hb]
  have hr0 : rdN (bytesOf (putB n)) 0 = if (putB n).getD 0 0 < 128 then 0 else -1 := by simp only [rdN, sg0, sgB, hb]
  have hrs : ∀ k, rdN (bytesOf (putB n)) (k + 1) = rdN (bytesOf (putB n)) k * 256 + (putB n).getD k 0 := fun k => by simp only [rdN, hb]
  unfold putB
  unfold putB at hr0 hrs
  have hm : manyF n = 1 ∧ -128 ≤ n ∧ n < 128 ∨ manyF n = 2 ∧ (n < -128 ∨ 128 ≤ n) ∧ -32768 ≤ n ∧ n < 32768 ∨ manyF n = 3 ∧ (n < -32768 ∨ 32768 ≤ n) ∧ -8388608 ≤ n ∧ n < 8388608 ∨ manyF n = 4 ∧ (n < -8388608 ∨ 8388608 ≤ n) := by
    unfold manyF; split <;> (try split) <;> (try split) <;> omega
  rcases hm with ⟨e, hm⟩ | ⟨e, hm⟩ | ⟨e, hm⟩ | ⟨e, hm⟩
  all_goals
    rw [e] at hr0 hrs ⊢
    refine ⟨fun _ => ?_, ?_⟩
  · omega
  · rw [hrs, hr0]; simp only [manyB, List.getD_cons_zero]; split <;> omega
  · simp only [manyB, List.getD_cons_zero, List.getD_cons_succ, Bool.or_eq_false_iff, Bool.and_eq_false_iff, beq_eq_false_iff_ne, decide_eq_false_iff_not]; omega
  · rw [hrs, hrs, hr0]; simp only [manyB, List.getD_cons_zero, List.getD_cons_succ]; split <;> omega
  · simp only [manyB, List.getD_cons_zero, List.getD_cons_succ, Bool.or_eq_false_iff, Bool.and_eq_false_iff, beq_eq_false_iff_ne, decide_eq_false_iff_not]; omega
  · rw [hrs, hrs, hrs, hr0]; simp only [manyB, List.getD_cons_zero, List.getD_cons_succ]; split <;> omega
  · simp only [manyB, List.getD_cons_zero, List.getD_cons_succ, Bool.or_eq_false_iff, Bool.and_eq_false_iff, beq_eq_false_iff_ne, decide_eq_false_iff_not]; omega
  · rw [hrs, hrs, hrs, hrs, hr0]; simp only [manyB, List.getD_cons_zero, List.getD_cons_succ]; split <;> omega

theorem rdE_put (n : Int) (h0 : -2147483648 ≤ n) (h1 : n ≤ 2147483647) : rdE (bytesOf (putB n)) = 0 := by
  unfold rdE
  rw [put_size]
  have hm := manyF_bd n
  rw [if_neg (by omega), if_neg (by
    rintro ⟨ha, hb⟩
    rw [(form_put n h0 h1).1 ha] at hb
    cases hb), if_neg (by omega)]
theorem rdF_put (n : Int) (h0 : -2147483648 ≤ n) (h1 : n ≤ 2147483647) : rdF (bytesOf (putB n)) = n := by
  rw [rdF_yes (rdE_put n h0 h1), put_size]
  exact (form_put n h0 h1).2

theorem put_rd (s : ByteArray) (h : rdE s = 0) : bytesOf (putB (rdF s)) = s ∧ -2147483648 ≤ rdF s ∧ rdF s ≤ 2147483647 := by
  rw [rdF_yes h]
  have hs : 1 ≤ s.size ∧ s.size ≤ 4 ∧ (1 < s.size → formB s = false) := by
    unfold rdE at h
    split at h
    · cases h
    · split at h
      · cases h
      · rename_i hz hf
        split at h
        · cases h
        · refine ⟨by omega, by omega, fun hl => ?_⟩
          cases hb : formB s with
          | false => rfl
          | true => exact absurd ⟨hl, hb⟩ hf
  obtain ⟨hs1, hs2, hf⟩ := hs
  have hb : ∀ k, 0 ≤ bt s k ∧ bt s k ≤ 255 := bt_bd s
  have h0 := hb 0; have h1 := hb 1; have h2 := hb 2; have h3 := hb 3
  unfold formB at hf
  simp only [Bool.or_eq_false_iff, Bool.and_eq_false_iff, beq_eq_false_iff_ne, decide_eq_false_iff_not] at hf
  have hsz : s.size = 1 ∨ s.size = 2 ∨ s.size = 3 ∨ s.size = 4 := by omega
  have he : bytesOf (putB (rdN s s.size)) = bytesOf ((List.range s.size).map (bt s)) ∧ -2147483648 ≤ rdN s s.size ∧ rdN s s.size ≤ 2147483647 := by
    rcases hsz with e | e | e | e
    all_goals
      rw [e] at hf ⊢
      simp only [rdN, sg0, sgB]
    · have hm : manyF ((if bt s 0 < 128 then 0 else -1) * 256 + bt s 0) = 1 := by unfold manyF; rw [if_pos (by split <;> omega)]
      refine ⟨?_, by split <;> omega, by split <;> omega⟩
      rw [putB, hm]
      simp only [manyB, List.range, List.range.loop, List.map]
      refine congrArg bytesOf ?_
      simp only [List.cons.injEq, and_true]
      (repeat' apply And.intro) <;> split <;> omega
    · have hm : manyF (((if bt s 0 < 128 then 0 else -1) * 256 + bt s 0) * 256 + bt s 1) = 2 := by
        unfold manyF
        rw [if_neg (by split <;> omega), if_pos (by split <;> omega)]
      refine ⟨?_, by split <;> omega, by split <;> omega⟩
      rw [putB, hm]
      simp only [manyB, List.range, List.range.loop, List.map]
      refine congrArg bytesOf ?_
      simp only [List.cons.injEq, and_true]
      (repeat' apply And.intro) <;> split <;> omega
    · have hm : manyF ((((if bt s 0 < 128 then 0 else -1) * 256 + bt s 0) * 256 + bt s 1) * 256 + bt s 2) = 3 := by
        unfold manyF
        rw [if_neg (by split <;> omega), if_neg (by split <;> omega), if_pos (by split <;> omega)]
      refine ⟨?_, by split <;> omega, by split <;> omega⟩
      rw [putB, hm]
      simp only [manyB, List.range, List.range.loop, List.map]
      refine congrArg bytesOf ?_
      simp only [List.cons.injEq, and_true]
      (repeat' apply And.intro) <;> split <;> omega
    · have hm : manyF (((((if bt s 0 < 128 then 0 else -1) * 256 + bt s 0) * 256 + bt s 1) * 256 + bt s 2) * 256 + bt s 3) = 4 := by
        unfold manyF
        rw [if_neg (by split <;> omega), if_neg (by split <;> omega), if_neg (by split <;> omega)]
      refine ⟨?_, by split <;> omega, by split <;> omega⟩
      rw [putB, hm]
      simp only [manyB, List.range, List.range.loop, List.map]
      refine congrArg bytesOf ?_
      simp only [List.cons.injEq, and_true]
      (repeat' apply And.intro) <;> split <;> omega
  rw [← bytes_eq s] at he
  exact he

theorem put_inj (a b : Int) (ha0 : -2147483648 ≤ a) (ha1 : a ≤ 2147483647) (hb0 : -2147483648 ≤ b) (hb1 : b ≤ 2147483647) : ((bytesOf (putB a)).toList == (bytesOf (putB b)).toList) = (a == b) := by
  by_cases h : a = b
  · subst h; simp
  · rw [beq_eq_false_iff_ne.2 h, beq_eq_false_iff_ne]
    intro he
    apply h
    have : bytesOf (putB a) = bytesOf (putB b) := by
      apply ByteArray.ext
      apply Array.ext'
      rwa [Go.ByteArray.toList_eq, Go.ByteArray.toList_eq] at he
    rw [← rdF_put a ha0 ha1, this, rdF_put b hb0 hb1]
theorem manyF_mono (a b : Int) (h : 0 ≤ a ∧ a ≤ b ∨ a < 0 ∧ b ≤ a) : manyF a ≤ manyF b := by
  unfold manyF
  split <;> (try split) <;> (try split) <;> (try split) <;> (try split) <;> (try split) <;> omega

end Go.Proofs.Ytcffpndhodhncaa.Num
end
section
/- num and bothyref02 as contracts of the abstract road. -/
set_option linter.unusedSimpArgs false
set_option linter.unusedVariables false
namespace Go.Proofs.Ytcffpndhodhncaa
open Go.RowKit Go.Bo Go.Ab Num

theorem V.tup2 {E : Env} {os : List Ob} {x y : X} {u v : Value} (h : VX E.w E.st x u) (h' : VX E.w E.st y v) : V E os (.tup [.x x, .x y]) (.tuple #[u, v]) := by
  refine .tup _ rfl (fun j d w hd hw => ?_)
  match j with
  | 0 => simp at hd hw; subst hd hw; exact .x h
  | 1 => simp at hd hw; subst hd hw; exact .x h'
  | j + 2 => simp at hd
theorem PCalls.of1 {f : FuncId} {d : D} {v u : Value} {r : D} (hv : ∀ E os x, V E os d x → x = v) (h : ∀ w, Calls Try.prog f #[v] w fun e w' => e = .returned u ∧ Ext w w') (hr : ∀ E os, V E os r u) : PCalls Try.prog f [d] r := by
  intro w st vs hst hvl
  obtain ⟨hsz, hvv⟩ := hvl
  obtain ⟨x, rfl⟩ : ∃ x, vs = #[x] := by
    obtain ⟨vl⟩ := vs
    match vl, hsz with
    | [a], _ => exact ⟨a, rfl⟩
  obtain rfl := hv _ _ _ (hvv 0 _ x rfl rfl)
  refine (h w).mono ?_
  rintro e w' ⟨rfl, hb⟩
  exact ⟨_, st, rfl, Kept.of_none (Ext.grown hb none), fun _ _ h => h, fun _ _ h => .inl h, hr _ _⟩
theorem v_int {E : Env} {os : List Ob} {n : Int} {x : Value} (h : V E os (.x (.int .i64 n)) x) : x = .int .i64 n := by
  cases h with
  | x h => cases h; rfl
theorem v_str {E : Env} {os : List Ob} {s : List UInt8} {x : Value} (h : V E os (.x (.str s)) x) : x = .string (bstr s) := by
  cases h with
  | x h => cases h; rfl
theorem v_bool {E : Env} {os : List Ob} {s : Bool} {x : Value} (h : V E os (.x (.bool s)) x) : x = .bool s := by
  cases h with
  | x h => cases h; rfl
def inN (n : Int) : Prop := -2147483648 ≤ n ∧ n ≤ 2147483647
instance (n : Int) : Decidable (inN n) := inferInstanceAs (Decidable (_ ∧ _))
def nput (n : Int) : List UInt8 × Int := if inN n then ((bytesOf (putB n)).toList, 0) else ([], 2)
def nread (s : List UInt8) : Int × Int := (rdF (bstr s), rdE (bstr s))
def nbool (b : Bool) : List UInt8 := if b then [255] else [0]
def nrb (s : List UInt8) : Bool × Int := (s == [255], if s.isEmpty then 4 else if s == [255] then 0 else if s == [0] then 0 else 5)
theorem nput_any {f : FuncId} (h1 : ∀ n w, -2147483648 ≤ n → n ≤ 2147483647 → Calls Try.prog f #[.int .i64 n] w fun e w' => e = .returned (.tuple #[.string (bytesOf (putB n)), .int .i64 0]) ∧ Ext w w')
    (h2 : ∀ n w, n < -2147483648 ∨ 2147483647 < n → Calls Try.prog f #[.int .i64 n] w fun e w' => e = .returned (.tuple #[.string ByteArray.empty, .int .i64 2]) ∧ Ext w w') (n : Int) :
    PCalls Try.prog f [.x (.int .i64 n)] (.tup [.x (.str (nput n).1), .x (.int .i64 (nput n).2)]) := by
  by_cases h : inN n
  · refine PCalls.of1 (fun E os x => v_int) (fun w => h1 n w h.1 h.2) (fun E os => ?_)
    unfold nput
    rw [if_pos h]
    have := bstr_of (bytesOf (putB n))
    have h3 : VX E.w E.st (.str (bytesOf (putB n)).toList) (.string (bytesOf (putB n))) := by
      have h4 := VX.str (w := E.w) (st := E.st) (bytesOf (putB n)).toList
      rwa [this] at h4
    exact V.tup2 h3 (.int _ _)
  · refine PCalls.of1 (fun E os x => v_int) (fun w => h2 n w (by unfold inN at h; omega)) (fun E os => ?_)
    unfold nput
    rw [if_neg h]
    exact V.tup2 (.str []) (.int _ _)
theorem nput_c (n : Int) : PCalls Try.prog 69 [.x (.int .i64 n)] (.tup [.x (.str (nput n).1), .x (.int .i64 (nput n).2)]) := nput_any put_ok put_no n
theorem nputR_c (n : Int) : PCalls Try.prog 75 [.x (.int .i64 n)] (.tup [.x (.str (nput n).1), .x (.int .i64 (nput n).2)]) := nput_any putR_ok putR_no n
theorem nread_c (s : List UInt8) (h : s.length ≤ 9223372036854775807) : PCalls Try.prog 66 [.x (.str s)] (.tup [.x (.int .i64 (nread s).1), .x (.int .i64 (nread s).2)]) :=
  PCalls.of1 (fun E os x => v_str) (fun w => (read_any (bstr s) w (by rw [bstr_size]; exact h)).mono fun e w' ⟨h1, h2⟩ => ⟨h1, h2 ▸ Ext.refl _⟩) (fun E os => V.tup2 (.int _ _) (.int _ _))
theorem nreadR_c (s : List UInt8) (h : s.length ≤ 9223372036854775807) : PCalls Try.prog 50 [.x (.str s)] (.tup [.x (.int .i64 (nread s).1), .x (.int .i64 (nread s).2)]) :=
  PCalls.of1 (fun E os x => v_str) (fun w => (readR_any (bstr s) w (by rw [bstr_size]; exact h)).mono fun e w' ⟨h1, h2⟩ => ⟨h1, h2 ▸ Ext.refl _⟩) (fun E os => V.tup2 (.int _ _) (.int _ _))
def nputG : List D → Option (Bool × D)
  | [.x (.int .i64 n)] => some (true, .tup [.x (.str (nput n).1), .x (.int .i64 (nput n).2)])
  | _ => none
theorem nputG_ok : ∀ args r, nputG args = some (true, r) → PCalls Try.prog 69 args r := by
  intro args r h
  unfold nputG at h
  split at h
  · rename_i n
    simp only [Option.some.injEq, Prod.mk.injEq, Bool.and_eq_true, decide_eq_true_eq, true_and] at h
    obtain rfl := h
    exact nput_c n
  · cases h
def nputRG : List D → Option (Bool × D)
  | [.x (.int .i64 n)] => some (true, .tup [.x (.str (nput n).1), .x (.int .i64 (nput n).2)])
  | _ => none
theorem nputRG_ok : ∀ args r, nputRG args = some (true, r) → PCalls Try.prog 75 args r := by
  intro args r h
  unfold nputRG at h
  split at h
  · rename_i n
    simp only [Option.some.injEq, Prod.mk.injEq, Bool.and_eq_true, decide_eq_true_eq, true_and] at h
    obtain rfl := h
    exact nputR_c n
  · cases h
def nreadG : List D → Option (Bool × D)
  | [.x (.str s)] => some (decide (s.length ≤ 9223372036854775807), .tup [.x (.int .i64 (nread s).1), .x (.int .i64 (nread s).2)])
  | _ => none
theorem nreadG_ok : ∀ args r, nreadG args = some (true, r) → PCalls Try.prog 66 args r := by
  intro args r h
  unfold nreadG at h
  split at h
  · rename_i s
    simp only [Option.some.injEq, Prod.mk.injEq, Bool.and_eq_true, decide_eq_true_eq, true_and] at h
    obtain ⟨h1, rfl⟩ := h
    exact nread_c s h1
  · cases h
def nreadRG : List D → Option (Bool × D)
  | [.x (.str s)] => some (decide (s.length ≤ 9223372036854775807), .tup [.x (.int .i64 (nread s).1), .x (.int .i64 (nread s).2)])
  | _ => none
theorem nreadRG_ok : ∀ args r, nreadRG args = some (true, r) → PCalls Try.prog 50 args r := by
  intro args r h
  unfold nreadRG at h
  split at h
  · rename_i s
    simp only [Option.some.injEq, Prod.mk.injEq, Bool.and_eq_true, decide_eq_true_eq, true_and] at h
    obtain ⟨h1, rfl⟩ := h
    exact nreadR_c s h1
  · cases h
theorem nread_put (n : Int) (h : inN n) : nread (nput n).1 = (n, 0) := by
  unfold nput
  rw [if_pos h]
  unfold nread
  simp only
  rw [bstr_of, rdF_put n h.1 h.2, rdE_put n h.1 h.2]
theorem nput_read (s : List UInt8) (h : (nread s).2 = 0) : inN (nread s).1 ∧ nput (nread s).1 = (s, 0) := by
  obtain ⟨h1, h2, h3⟩ := put_rd (bstr s) h
  have h4 : inN (nread s).1 := ⟨h2, h3⟩
  refine ⟨h4, ?_⟩
  unfold nput
  rw [if_pos h4]
  show ((bytesOf (putB (rdF (bstr s)))).toList, (0 : Int)) = _
  rw [h1, bstr_toList]
theorem nput_len (n : Int) : (nput n).1.length ≤ 4 := by
  unfold nput
  split
  · have h1 := put_size n
    have h2 := (manyF_bd n).2
    have h3 := bstr_size (bytesOf (putB n)).toList
    rw [bstr_of] at h3
    simp only
    omega
  · simp
theorem nput_err (n : Int) : (nput n).2 = 0 ↔ inN n := by
  unfold nput
  split
  · rename_i h; simp [h]
  · rename_i h; simp [h]
end Go.Proofs.Ytcffpndhodhncaa
end
section
/- Ber: tags, lengths. -/
set_option linter.unusedSimpArgs false
set_option linter.unusedVariables false
namespace Go.Proofs.Ytcffpndhodhncaa
open Go.RowKit Go.Bo Go.Ab

theorem and31 (a : Int) : IntKind.i64.wrap ((BitVec.ofInt IntKind.i64.bits a &&& BitVec.ofInt IntKind.i64.bits 31).toNat : Int) = a % 32 := by
  have h1 : (BitVec.ofInt IntKind.i64.bits 31).toNat = 31 := rfl
  have h2 : (BitVec.ofInt IntKind.i64.bits a).toNat = (a % 18446744073709551616).toNat := by
    rw [BitVec.toNat_ofInt]; rfl
  rw [BitVec.toNat_and, h1, h2, show (31 : Nat) = 2 ^ 5 - 1 from rfl, Nat.and_two_pow_sub_one_eq_mod, IntWalk.i64_in _ (by omega)]
  omega
/-- Whether a number may be a tag. -/
def tagB (t : Int) : Bool := decide (0 ≤ t ∧ t ≤ 254) && !decide (t % 32 = 31)
theorem bad_c (t : Int) : PCalls Try.prog 82 [.x (.int .i64 t)] (.x (.bool (!tagB t))) := by
  refine FCalls.pure (fcallsG (fz := true) G_ok (p := i82) rfl _ (Nat.le_of_ble_eq_true rfl) _ (fun C0 E0 => ?_)) rfl
  dsimp only [i82, argsφ]
  have uu := @and31
  refine WI.seq ?_
  refine WI.regB noTabs_ok [0] ?_
  refine oS ?_
  refine oN ?_
  refine thenQ_normal ?_
  refine WI.seq ?_
  refine WI.regB noTabs_ok [2] ?_
  refine oS ?_
  refine oG ?_
  refine oS ?_
  iterate 3 refine oG ?_
  refine oS ?_
  iterate 4 refine oG ?_
  refine oS ?_
  refine oN ?_
  refine thenQ_normal ?_
  refine WI.ret ?_
  first | refine lfR ?_ | refine lfR2 ?_
  congr 2; unfold tagB; rw [Bool.eq_iff_iff]; simp <;> omega -- leaf 0
theorem tagged_c (t : Int) : PCalls Try.prog 73 [.x (.int .i64 t)] (.x (.bool (tagB t))) := by
  refine FCalls.pure (fcallsG (fz := true) G_ok (p := i73) rfl _ (Nat.le_of_ble_eq_true rfl) _ (fun C0 E0 => ?_)) rfl
  dsimp only [i73, argsφ]
  have uu := trivial
  refine WI.seq ?_
  refine WI.regB noTabs_ok [0] ?_
  refine oS ?_
  refine oN ?_
  refine thenQ_normal ?_
  refine WI.seq ?_
  refine WI.regB noTabs_ok [2] ?_
  refine oS ?_
  refine oG ?_
  refine oS ?_
  iterate 3 refine oG ?_
  refine oS ?_
  iterate 4 refine oG ?_
  refine oS ?_
  refine oN ?_
  refine thenQ_normal ?_
  refine WI.ret ?_
  first | refine lfR ?_ | refine lfR2 ?_
  congr 2; unfold tagB
  by_cases h : 0 ≤ t
  · rw [Int.tmod_eq_emod_of_nonneg h, Bool.eq_iff_iff]; simp <;> omega
  · rw [decide_eq_false (show ¬ t ≥ 0 from h), decide_eq_false (show ¬ (0 ≤ t ∧ t ≤ 254) from fun h' => h h'.1)]; simp -- leaf 0

/-- A number's bytes. -/
def be (n : Nat) : List UInt8 := if h : n = 0 then [] else be (n / 256) ++ [UInt8.ofNat n]
termination_by n
decreasing_by omega
theorem be_pos (n : Nat) (h : 0 < n) : be n = be (n / 256) ++ [UInt8.ofNat n] := by rw [be, dif_neg (by omega)]
theorem be_zero : be 0 = [] := by rw [be, dif_pos rfl]
theorem be_len (k : Nat) : ∀ n, n < 256 ^ k → (be n).length ≤ k := by
  induction k with
  | zero => intro n h; simp at h; subst h; simp [be_zero]
  | succ k ih =>
    intro n h
    by_cases h0 : n = 0
    · subst h0; simp [be_zero]
    · rw [be_pos n (by omega)]
      have := ih (n / 256) (by rw [Nat.div_lt_iff_lt_mul (by omega)]; rwa [Nat.pow_succ] at h)
      simp; omega
def lenB (n : Nat) : List UInt8 := if n < 128 then [UInt8.ofNat n] else UInt8.ofNat (128 + (be n).length) :: be n
theorem lenB_le (n : Nat) (h : n < 4294967296) : (lenB n).length ≤ 5 := by
  have := be_len 4 n h
  unfold lenB
  split <;> simp <;> omega
set_option maxHeartbeats 1000000 in
theorem length_c (n : Nat) (hn : n < 4294967296) : PCalls Try.prog 83 [.x (.int .i64 n)] (.x (.str (lenB n))) := by
  refine FCalls.pure (fcallsG (fz := true) G_ok (p := i83) rfl _ (Nat.le_of_ble_eq_true rfl) _ (fun C0 E0 => ?_)) rfl
  dsimp only [i83, argsφ]
  have uu := And.intro @br_wrap (And.intro @br_wrap128 (And.intro @br_len (And.intro @br_is (And.intro @br_of (And.intro @shr8 (And.intro @bytes_len (And.intro @bytes_row (And.intro @bytes_all (And.intro @List.map_cons.{0, 0} (And.intro @List.all_cons.{0} (And.intro @bytes_take (And.intro @all_bytes (And.intro @add1_comm (And.intro @tdiv256 (And.intro @tmod256 (@u8_mod))))))))))))))))
  refine WI.seq ?_
  refine WI.regB noTabs_ok [0] ?_
  refine oS ?_
  refine oN ?_
  refine thenQ_normal ?_
  refine WI.scope 0 rfl (fun φ os => ∃ (m : Nat) (acc : List UInt8), φ = [(0, .x (.int .i64 m)), (3, .ref 0 acc.length 0 acc.length)] ∧ os = [.rows false 5 1 (acc.map byteRow)] ∧ m ≤ n ∧ be n = be m ++ acc ∧ 128 ≤ n) (fun φ _ => ((intOf? (get φ 0).val).getD 0).toNat) ?_ (fun φ os hI => ?_)
  · refine WI.seq ?_
    refine WI.seq ?_
    refine WI.regB noTabs_ok [0, 5] ?_
    refine oS ?_
    refine oG ?_
    refine oN ?_
    refine thenQ_normal ?_
    refine WI.cond (b := _) rfl rfl (fun h0 => ?_) (fun h0 => ?_)
    · try simp only [zB] at h0
      refine WI.seq ?_
      refine WI.regB noTabs_ok [2] ?_
      refine oS ?_
      iterate 3 refine oG ?_
      refine oS ?_
      refine oN ?_
      refine thenQ_normal ?_
      refine WI.ret ?_
      refine thenQ_ret ?_
      refine jumpQ_ret ?_
      first | refine lfR ?_ | refine lfR2 ?_
      rw [lenB, if_pos (by omega)] -- leaf 0
    · try simp only [zB] at h0
      refine WI.skip ?_
      refine thenQ_normal ?_
      refine WI.seq ?_
      refine WI.regB noTabs_ok [0, 3] ?_
      refine oS ?_
      refine oN ?_
      refine thenQ_normal ?_
      refine WI.seq ?_
      refine WI.own 3 5 1 rfl ?_
      simp only [put, Nat.reduceEqDiff, ↓reduceIte, List.length_nil, List.nil_append]
      refine WI.label ?_
      refine thenQ_normal ?_
      refine WI.seq ?_
      refine WI.seq ?_
      refine WI.regB noTabs_ok [0, 3, 11] ?_
      refine oS ?_
      refine oG ?_
      refine oN ?_
      refine thenQ_normal ?_
      refine WI.cond (b := _) rfl rfl (fun h1 => ?_) (fun h1 => ?_)
      · try simp only [zB] at h1
        refine WI.seq ?_
        refine WI.regB noTabs_ok [0, 3] ?_
        refine oS ?_
        iterate 2 refine oG ?_
        refine oS ?_
        refine oG ?_
        refine oS ?_
        refine oN ?_
        refine thenQ_normal ?_
        refine WI.seq ?_
        refine WI.pick [1] rfl ?_
        simp (disch := decide) only [zV, frzL, nrmφ, nrmO, onF, D.vw, vwL, D.on, D.inP, inL, memB, D.ren, renL, inv, fpO, Ob.mp, Ob.ren, D.nn, nnφ, Nat.reduceBEq, Nat.reduceEqDiff, Nat.reduceAdd, ↓reduceIte]
        refine WI.regB noTabs_ok [0, 3] ?_
        refine oS ?_
        refine oG ?_
        refine oS ?_
        refine oN ?_
        refine thenQ_normal ?_
        refine WI.goto ?_
        refine thenQ_goto ?_
        refine ⟨rfl, ?_⟩
        exact ⟨n / 256, [UInt8.ofNat n], rfl, rfl, by omega, be_pos n (by omega), by omega⟩
      · try simp only [zB] at h1
        refine WI.skip ?_
        refine thenQ_normal ?_
        refine WI.seq ?_
        refine WI.regB noTabs_ok [2] ?_
        refine oS ?_
        iterate 4 refine oG ?_
        refine oS ?_
        iterate 2 refine oG ?_
        refine oS ?_
        refine oN ?_
        refine thenQ_normal ?_
        refine WI.ret ?_
        refine jumpQ_ret ?_
        first | refine lfR ?_ | refine lfR2 ?_
        exfalso; omega -- leaf 1
  · obtain ⟨m, acc, rfl, rfl, hm, hb, hN⟩ := hI
    have hacc : acc.length ≤ 4 := by have h1 := be_len 4 n hn; rw [hb, List.length_append] at h1; omega
    refine WI.seq ?_
    refine WI.skip ?_
    refine thenQ_normal ?_
    refine WI.seq ?_
    refine WI.seq ?_
    refine WI.regB noTabs_ok [0, 3, 11] ?_
    refine oS ?_
    refine oG ?_
    refine oN ?_
    refine thenQ_normal ?_
    refine WI.cond (b := _) rfl rfl (fun h1 => ?_) (fun h1 => ?_)
    · try simp only [zB] at h1
      refine WI.seq ?_
      refine WI.regB noTabs_ok [0, 3] ?_
      refine oS ?_
      iterate 2 refine oG ?_
      refine oS ?_
      refine oG ?_
      refine oS ?_
      refine oN ?_
      refine thenQ_normal ?_
      refine WI.seq ?_
      refine WI.pick [1] rfl ?_
      simp (disch := decide) only [zV, frzL, nrmφ, nrmO, onF, D.vw, vwL, D.on, D.inP, inL, memB, D.ren, renL, inv, fpO, Ob.mp, Ob.ren, D.nn, nnφ, Nat.reduceBEq, Nat.reduceEqDiff, Nat.reduceAdd, ↓reduceIte]
      refine WI.regB noTabs_ok [0, 3] ?_
      refine oS ?_
      refine oG ?_
      refine oS ?_
      refine oN ?_
      refine thenQ_normal ?_
      refine WI.goto ?_
      refine thenQ_goto ?_
      refine ⟨rfl, ?_⟩
      exact ⟨⟨m / 256, UInt8.ofNat m :: acc, by simp [Nat.add_comm], rfl, by omega, by rw [hb, be_pos m (by omega)]; simp, hN⟩, by show ((m / 256 : Nat) : Int).toNat < (m : Int).toNat; omega⟩
    · try simp only [zB] at h1
      refine WI.skip ?_
      refine thenQ_normal ?_
      refine WI.seq ?_
      refine WI.regB noTabs_ok [2] ?_
      refine oS ?_
      iterate 4 refine oG ?_
      refine oS ?_
      iterate 2 refine oG ?_
      refine oS ?_
      refine oN ?_
      refine thenQ_normal ?_
      refine WI.ret ?_
      refine jumpQ_ret ?_
      first | refine lfR ?_ | refine lfR2 ?_
      obtain rfl : m = 0 := by omega
      rw [be_zero, List.nil_append] at hb
      rw [lenB, if_neg (by omega), hb] -- leaf 2
set_option maxHeartbeats 1000000 in
theorem lengthR_c (n : Nat) (hn : n < 4294967296) : PCalls Try.prog 74 [.x (.int .i64 n)] (.x (.str (lenB n))) := by
  refine FCalls.pure (fcallsG (fz := true) G_ok (p := i74) rfl _ (Nat.le_of_ble_eq_true rfl) _ (fun C0 E0 => ?_)) rfl
  dsimp only [i74, argsφ]
  have uu := And.intro @br_wrap (And.intro @br_wrap128 (And.intro @br_len (And.intro @br_is (And.intro @br_of (And.intro @bytes_len (And.intro @bytes_row (And.intro @bytes_all (And.intro @List.map_cons.{0, 0} (And.intro @List.all_cons.{0} (And.intro @bytes_take (And.intro @all_bytes (And.intro @add1_comm (And.intro @tdiv256 (And.intro @tmod256 (@u8_mod)))))))))))))))
  refine WI.seq ?_
  refine WI.regB noTabs_ok [0] ?_
  refine oS ?_
  refine oN ?_
  refine thenQ_normal ?_
  refine WI.seq ?_
  refine WI.seq ?_
  refine WI.regB noTabs_ok [0, 6] ?_
  refine oS ?_
  refine oG ?_
  refine oN ?_
  refine thenQ_normal ?_
  refine WI.cond (b := _) rfl rfl (fun h0 => ?_) (fun h0 => ?_)
  · try simp only [zB] at h0
    refine WI.seq ?_
    refine WI.regB noTabs_ok [2] ?_
    refine oS ?_
    iterate 3 refine oG ?_
    refine oS ?_
    refine oN ?_
    refine thenQ_normal ?_
    refine WI.ret ?_
    refine thenQ_ret ?_
    first | refine lfR ?_ | refine lfR2 ?_
    rw [lenB, if_pos (by omega)] -- leaf 0
  · try simp only [zB] at h0
    refine WI.skip ?_
    refine thenQ_normal ?_
    refine WI.seq ?_
    refine WI.regB noTabs_ok [0, 3] ?_
    refine oS ?_
    refine oN ?_
    refine thenQ_normal ?_
    refine WI.seq ?_
    refine WI.regB noTabs_ok [0, 3, 4] ?_
    refine oS ?_
    refine oN ?_
    refine thenQ_normal ?_
    refine WI.seq ?_
    refine WI.block ?_
    refine WI.loop (fun φ os => ∃ (m : Nat) (acc : List UInt8), φ = [(0, .x (.int .i64 m)), (3, .x (.str acc)), (4, .x (.int .i64 acc.length))] ∧ os = [] ∧ m ≤ n ∧ be n = be m ++ acc) (fun φ _ => ((intOf? (get φ 0).val).getD 0).toNat) ?_ (fun φ os hI => ?_)
    · exact ⟨n, [], rfl, rfl, by omega, by simp⟩
    · obtain ⟨m, acc, rfl, rfl, hm, hb⟩ := hI
      have hacc : acc.length ≤ 4 := by have h1 := be_len 4 n hn; rw [hb, List.length_append] at h1; omega
      refine WI.seq ?_
      refine WI.seq ?_
      refine WI.regB noTabs_ok [0, 3, 4, 12] ?_
      refine oS ?_
      refine oG ?_
      refine oN ?_
      refine thenQ_normal ?_
      refine WI.cond (b := _) rfl rfl (fun h1 => ?_) (fun h1 => ?_)
      · try simp only [zB] at h1
        refine WI.skip ?_
        refine thenQ_normal ?_
        refine WI.block ?_
        refine WI.seq ?_
        refine WI.regB noTabs_ok [0, 3, 4] ?_
        refine oS ?_
        iterate 4 refine oG ?_
        refine oS ?_
        refine oG ?_
        refine oS ?_
        refine oN ?_
        refine thenQ_normal ?_
        refine WI.seq ?_
        refine WI.regB noTabs_ok [0, 3, 4] ?_
        refine oS ?_
        refine oG ?_
        refine oS ?_
        refine oN ?_
        refine thenQ_normal ?_
        refine WI.pick [] rfl ?_
        simp (disch := decide) only [zV, frzL, nrmφ, nrmO, onF, D.vw, vwL, D.on, D.inP, inL, memB, D.ren, renL, inv, fpO, Ob.mp, Ob.ren, D.nn, nnφ, Nat.reduceBEq, Nat.reduceEqDiff, Nat.reduceAdd, ↓reduceIte]
        refine WI.regB noTabs_ok [0, 3, 4] ?_
        refine oS ?_
        refine oG ?_
        refine oS ?_
        refine oN ?_
        refine blockQ_normal ?_
        refine thenQ_normal ?_
        exact ⟨⟨m / 256, UInt8.ofNat m :: acc, by simp, rfl, by omega, by rw [hb, be_pos m (by omega)]; simp⟩, by show ((m / 256 : Nat) : Int).toNat < (m : Int).toNat; omega⟩
      · try simp only [zB] at h1
        refine WI.exit ?_
        refine thenQ_exit ?_
        refine thenQ_exit ?_
        refine blockQ_hit ?_
        refine thenQ_normal ?_
        refine WI.seq ?_
        refine WI.regB noTabs_ok [2] ?_
        refine oS ?_
        iterate 4 refine oG ?_
        refine oS ?_
        refine oG ?_
        refine oS ?_
        refine oN ?_
        refine thenQ_normal ?_
        refine WI.ret ?_
        first | refine lfR ?_ | refine lfR2 ?_
        obtain rfl : m = 0 := by omega
        rw [be_zero, List.nil_append] at hb
        rw [lenB, if_neg (by omega), hb] -- leaf 1
def badG : List D → Option (Bool × D)
  | [.x (.int .i64 t)] => some (true, .x (.bool (!tagB t)))
  | _ => none
theorem badG_ok : ∀ args r, badG args = some (true, r) → PCalls Try.prog 82 args r := by
  intro args r h
  unfold badG at h
  split at h
  · rename_i t
    simp only [Option.some.injEq, Prod.mk.injEq, Bool.and_eq_true, decide_eq_true_eq, true_and] at h
    obtain rfl := h
    exact bad_c t
  · cases h
def taggedG : List D → Option (Bool × D)
  | [.x (.int .i64 t)] => some (true, .x (.bool (tagB t)))
  | _ => none
theorem taggedG_ok : ∀ args r, taggedG args = some (true, r) → PCalls Try.prog 73 args r := by
  intro args r h
  unfold taggedG at h
  split at h
  · rename_i t
    simp only [Option.some.injEq, Prod.mk.injEq, Bool.and_eq_true, decide_eq_true_eq, true_and] at h
    obtain rfl := h
    exact tagged_c t
  · cases h
def lengthG : List D → Option (Bool × D)
  | [.x (.int .i64 n)] => some (decide (0 ≤ n) && (decide (n < 4294967296)), .x (.str (lenB n.toNat)))
  | _ => none
theorem lengthG_ok : ∀ args r, lengthG args = some (true, r) → PCalls Try.prog 83 args r := by
  intro args r h
  unfold lengthG at h
  split at h
  · rename_i n
    simp only [Option.some.injEq, Prod.mk.injEq, Bool.and_eq_true, decide_eq_true_eq, true_and] at h
    obtain ⟨⟨h1, h2⟩, rfl⟩ := h
    exact by have h3 := length_c n.toNat (by omega); rwa [Int.toNat_of_nonneg h1] at h3
  · cases h
def lengthRG : List D → Option (Bool × D)
  | [.x (.int .i64 n)] => some (decide (0 ≤ n) && (decide (n < 4294967296)), .x (.str (lenB n.toNat)))
  | _ => none
theorem lengthRG_ok : ∀ args r, lengthRG args = some (true, r) → PCalls Try.prog 74 args r := by
  intro args r h
  unfold lengthRG at h
  split at h
  · rename_i n
    simp only [Option.some.injEq, Prod.mk.injEq, Bool.and_eq_true, decide_eq_true_eq, true_and] at h
    obtain ⟨⟨h1, h2⟩, rfl⟩ := h
    exact by have h3 := lengthR_c n.toNat (by omega); rwa [Int.toNat_of_nonneg h1] at h3
  · cases h
end Go.Proofs.Ytcffpndhodhncaa
end
section
/- Ber: Put, long, Head. -/
set_option linter.unusedSimpArgs false
set_option linter.unusedVariables false
namespace Go.Proofs.Ytcffpndhodhncaa
open Go.RowKit Go.Bo Go.Ab

def tabBer1 : Tabs := addQ (addQ (noTabs) 82 badG) 83 lengthG
theorem tabBer1_ok : SsOk Try.prog tabBer1 := addQ_ok (addQ_ok (noTabs_ok) (G_enters G_ok (p := i82) rfl) badG_ok) (G_enters G_ok (p := i83) rfl) lengthG_ok
theorem tabBer1_q82 (a : List D) : tabBer1.q 82 a = badG a := rfl
theorem tabBer1_q83 (a : List D) : tabBer1.q 83 a = lengthG a := rfl
theorem tabBer1_r (f : FuncId) (a : List D) (o : List Ob) : tabBer1.r f a o = none := rfl
theorem tabBer1_k (f : FuncId) (a : List D) (o : List Ob) : tabBer1.k f a o = none := rfl
def tabBer1R : Tabs := addQ (addQ (noTabs) 73 taggedG) 74 lengthRG
theorem tabBer1R_ok : SsOk Try.prog tabBer1R := addQ_ok (addQ_ok (noTabs_ok) (G_enters G_ok (p := i73) rfl) taggedG_ok) (G_enters G_ok (p := i74) rfl) lengthRG_ok
theorem tabBer1R_q73 (a : List D) : tabBer1R.q 73 a = taggedG a := rfl
theorem tabBer1R_q74 (a : List D) : tabBer1R.q 74 a = lengthRG a := rfl
theorem tabBer1R_r (f : FuncId) (a : List D) (o : List Ob) : tabBer1R.r f a o = none := rfl
theorem tabBer1R_k (f : FuncId) (a : List D) (o : List Ob) : tabBer1R.k f a o = none := rfl

def putB (t : Int) (s : List UInt8) : List UInt8 × Int :=
  if tagB t = true then if s.length ≤ 65536 then (UInt8.ofNat t.toNat :: (lenB s.length ++ s), 0) else ([], 3) else ([], 6)
theorem tagB_nat {t : Int} (h : tagB t = true) : ∃ n : Nat, t = n ∧ n < 255 := by
  simp [tagB] at h
  exact ⟨t.toNat, by omega, by omega⟩
theorem put_c (t : Int) (s : List UInt8) : PCalls Try.prog 71 [.x (.int .i64 t), .x (.str s)] (.tup [.x (.str (putB t s).1), .x (.int .i64 (putB t s).2)]) := by
  have e : ∀ n : Nat, tagB n = true → putB n s = if s.length ≤ 65536 then (UInt8.ofNat n :: (lenB s.length ++ s), 0) else ([], 3) := by
    intro n h; rw [putB, if_pos h]; rfl
  by_cases hb : tagB t = true
  · obtain ⟨n, rfl, hn⟩ := tagB_nat hb
    rw [e n hb]
    refine FCalls.pure (fcallsG (fz := true) G_ok (p := i71) rfl _ (Nat.le_of_ble_eq_true rfl) _ (fun C0 E0 => ?_)) rfl
    dsimp only [i71, argsφ]
    have uu := And.intro @badG.eq_1 (And.intro @badG.eq_2 (And.intro @lengthG.eq_1 (And.intro @lengthG.eq_2 (And.intro hb (And.intro @br_wrap (And.intro @bytes_row (And.intro @bytes_all (And.intro @br_len (And.intro @br_is (And.intro @br_of (And.intro @br_rev (And.intro @tabBer1_r (And.intro @tabBer1_k (And.intro @tabBer1_q82 (@tabBer1_q83)))))))))))))))
    refine WI.seq ?_
    refine WI.regB tabBer1_ok [0, 1] ?_
    iterate 2 refine oS ?_
    refine oN ?_
    refine thenQ_normal ?_
    refine WI.seq ?_
    refine WI.block ?_
    refine WI.seq ?_
    refine WI.regB tabBer1_ok [0, 1, 6] ?_
    refine oS ?_
    refine oC ?_
    refine oS ?_
    refine oN ?_
    refine thenQ_normal ?_
    refine WI.cond (b := _) rfl rfl (fun h0 => ?_) (fun h0 => ?_)
    · exfalso
      simp at h0
    · try simp only [zB] at h0
      refine WI.seq ?_
      refine WI.regB tabBer1_ok [0, 1, 9] ?_
      refine oS ?_
      iterate 2 refine oG ?_
      refine oS ?_
      refine oN ?_
      refine thenQ_normal ?_
      refine WI.cond (b := _) rfl rfl (fun h1 => ?_) (fun h1 => ?_)
      · try simp only [zB] at h1
        refine WI.seq ?_
        refine WI.regB tabBer1_ok [4, 5] ?_
        iterate 2 refine oS ?_
        refine oN ?_
        refine thenQ_normal ?_
        refine WI.ret ?_
        refine blockQ_ret ?_
        refine thenQ_ret ?_
        first | refine lfR ?_ | refine lfR2 ?_
        rw [if_neg (by omega)] -- leaf 0
      · try simp only [zB] at h1
        refine WI.skip ?_
        refine blockQ_normal ?_
        refine thenQ_normal ?_
        refine WI.seq ?_
        have hL := lenB_le s.length (by omega)
        refine WI.dregB tabBer1_ok [4, 5] ?_
        refine dFS ?_
        refine dFG ?_
        refine dKG ?_
        refine dMG ?_
        refine dFS ?_
        refine dFG ?_
        refine dQC ?_
        refine dFG ?_
        refine dFS ?_
        refine dFG ?_
        iterate 2 refine dFS ?_
        refine dN ?_
        refine thenQ_normal ?_
        refine WI.ret ?_
        first | refine lfR ?_ | refine lfR2 ?_
        rw [if_pos (by omega)] -- leaf 1
  · rw [putB, if_neg hb]
    simp only [Bool.not_eq_true] at hb
    refine FCalls.pure (fcallsG (fz := true) G_ok (p := i71) rfl _ (Nat.le_of_ble_eq_true rfl) _ (fun C0 E0 => ?_)) rfl
    dsimp only [i71, argsφ]
    have uu := And.intro @badG.eq_1 (And.intro @badG.eq_2 (And.intro @lengthG.eq_1 (And.intro @lengthG.eq_2 (And.intro hb (And.intro @br_wrap (And.intro @bytes_row (And.intro @bytes_all (And.intro @br_len (And.intro @br_is (And.intro @br_of (And.intro @br_rev (And.intro @tabBer1_r (And.intro @tabBer1_k (And.intro @tabBer1_q82 (@tabBer1_q83)))))))))))))))
    refine WI.seq ?_
    refine WI.regB tabBer1_ok [0, 1] ?_
    iterate 2 refine oS ?_
    refine oN ?_
    refine thenQ_normal ?_
    refine WI.seq ?_
    refine WI.block ?_
    refine WI.seq ?_
    refine WI.regB tabBer1_ok [0, 1, 6] ?_
    refine oS ?_
    refine oC ?_
    refine oS ?_
    refine oN ?_
    refine thenQ_normal ?_
    refine WI.cond (b := _) rfl rfl (fun h0 => ?_) (fun h0 => ?_)
    · try simp only [zB] at h0
      refine WI.seq ?_
      refine WI.regB tabBer1_ok [4, 5] ?_
      iterate 2 refine oS ?_
      refine oN ?_
      refine thenQ_normal ?_
      refine WI.ret ?_
      refine blockQ_ret ?_
      refine thenQ_ret ?_
      first | refine lfR ?_ | refine lfR2 ?_
      first | rfl | exact ⟨rfl, rfl⟩ | trivial -- leaf 0
    · exfalso
      simp at h0
theorem putR_c (t : Int) (s : List UInt8) : PCalls Try.prog 43 [.x (.int .i64 t), .x (.str s)] (.tup [.x (.str (putB t s).1), .x (.int .i64 (putB t s).2)]) := by
  have e : ∀ n : Nat, tagB n = true → putB n s = if s.length ≤ 65536 then (UInt8.ofNat n :: (lenB s.length ++ s), 0) else ([], 3) := by
    intro n h; rw [putB, if_pos h]; rfl
  by_cases hb : tagB t = true
  · obtain ⟨n, rfl, hn⟩ := tagB_nat hb
    rw [e n hb]
    refine FCalls.pure (fcallsG (fz := true) G_ok (p := i43) rfl _ (Nat.le_of_ble_eq_true rfl) _ (fun C0 E0 => ?_)) rfl
    dsimp only [i43, argsφ]
    have uu := And.intro @taggedG.eq_1 (And.intro @taggedG.eq_2 (And.intro @lengthRG.eq_1 (And.intro @lengthRG.eq_2 (And.intro hb (And.intro @br_wrap (And.intro @bytes_row (And.intro @bytes_all (And.intro @br_len (And.intro @br_is (And.intro @br_of (And.intro @br_rev (And.intro @tabBer1R_r (And.intro @tabBer1R_k (And.intro @tabBer1R_q73 (@tabBer1R_q74)))))))))))))))
    refine WI.seq ?_
    refine WI.regB tabBer1R_ok [0, 1] ?_
    iterate 2 refine oS ?_
    refine oN ?_
    refine thenQ_normal ?_
    refine WI.seq ?_
    refine WI.block ?_
    refine WI.seq ?_
    refine WI.regB tabBer1R_ok [0, 1, 6] ?_
    refine oS ?_
    refine oC ?_
    refine oG ?_
    refine oS ?_
    refine oN ?_
    refine thenQ_normal ?_
    refine WI.cond (b := _) rfl rfl (fun h0 => ?_) (fun h0 => ?_)
    · exfalso
      simp at h0
    · try simp only [zB] at h0
      refine WI.seq ?_
      refine WI.regB tabBer1R_ok [0, 1, 10] ?_
      refine oS ?_
      iterate 2 refine oG ?_
      refine oS ?_
      refine oN ?_
      refine thenQ_normal ?_
      refine WI.cond (b := _) rfl rfl (fun h1 => ?_) (fun h1 => ?_)
      · try simp only [zB] at h1
        refine WI.seq ?_
        refine WI.regB tabBer1R_ok [4, 5] ?_
        iterate 2 refine oS ?_
        refine oN ?_
        refine thenQ_normal ?_
        refine WI.ret ?_
        refine blockQ_ret ?_
        refine thenQ_ret ?_
        first | refine lfR ?_ | refine lfR2 ?_
        rw [if_neg (by omega)] -- leaf 0
      · try simp only [zB] at h1
        refine WI.skip ?_
        refine blockQ_normal ?_
        refine thenQ_normal ?_
        refine WI.seq ?_
        have hL := lenB_le s.length (by omega)
        refine WI.dregB tabBer1R_ok [4, 5] ?_
        refine dFS ?_
        refine dFG ?_
        refine dKG ?_
        refine dMG ?_
        refine dFS ?_
        refine dFG ?_
        refine dQC ?_
        refine dFG ?_
        refine dFS ?_
        refine dFG ?_
        iterate 2 refine dFS ?_
        refine dN ?_
        refine thenQ_normal ?_
        refine WI.ret ?_
        first | refine lfR ?_ | refine lfR2 ?_
        rw [if_pos (by omega)] -- leaf 1
  · rw [putB, if_neg hb]
    simp only [Bool.not_eq_true] at hb
    refine FCalls.pure (fcallsG (fz := true) G_ok (p := i43) rfl _ (Nat.le_of_ble_eq_true rfl) _ (fun C0 E0 => ?_)) rfl
    dsimp only [i43, argsφ]
    have uu := And.intro @taggedG.eq_1 (And.intro @taggedG.eq_2 (And.intro @lengthRG.eq_1 (And.intro @lengthRG.eq_2 (And.intro hb (And.intro @br_wrap (And.intro @bytes_row (And.intro @bytes_all (And.intro @br_len (And.intro @br_is (And.intro @br_of (And.intro @br_rev (And.intro @tabBer1R_r (And.intro @tabBer1R_k (And.intro @tabBer1R_q73 (@tabBer1R_q74)))))))))))))))
    refine WI.seq ?_
    refine WI.regB tabBer1R_ok [0, 1] ?_
    iterate 2 refine oS ?_
    refine oN ?_
    refine thenQ_normal ?_
    refine WI.seq ?_
    refine WI.block ?_
    refine WI.seq ?_
    refine WI.regB tabBer1R_ok [0, 1, 6] ?_
    refine oS ?_
    refine oC ?_
    refine oG ?_
    refine oS ?_
    refine oN ?_
    refine thenQ_normal ?_
    refine WI.cond (b := _) rfl rfl (fun h0 => ?_) (fun h0 => ?_)
    · try simp only [zB] at h0
      refine WI.seq ?_
      refine WI.regB tabBer1R_ok [4, 5] ?_
      iterate 2 refine oS ?_
      refine oN ?_
      refine thenQ_normal ?_
      refine WI.ret ?_
      refine blockQ_ret ?_
      refine thenQ_ret ?_
      first | refine lfR ?_ | refine lfR2 ?_
      first | rfl | exact ⟨rfl, rfl⟩ | trivial -- leaf 0
    · exfalso
      simp at h0
def putG : List D → Option (Bool × D)
  | [.x (.int .i64 t), .x (.str s)] => some (true, .tup [.x (.str (putB t s).1), .x (.int .i64 (putB t s).2)])
  | _ => none
theorem putG_ok : ∀ args r, putG args = some (true, r) → PCalls Try.prog 71 args r := by
  intro args r h
  unfold putG at h
  split at h
  · rename_i t s
    simp only [Option.some.injEq, Prod.mk.injEq, Bool.and_eq_true, decide_eq_true_eq, true_and] at h
    obtain rfl := h
    exact put_c t s
  · cases h
def putRG : List D → Option (Bool × D)
  | [.x (.int .i64 t), .x (.str s)] => some (true, .tup [.x (.str (putB t s).1), .x (.int .i64 (putB t s).2)])
  | _ => none
theorem putRG_ok : ∀ args r, putRG args = some (true, r) → PCalls Try.prog 43 args r := by
  intro args r h
  unfold putRG at h
  split at h
  · rename_i t s
    simp only [Option.some.injEq, Prod.mk.injEq, Bool.and_eq_true, decide_eq_true_eq, true_and] at h
    obtain rfl := h
    exact putR_c t s
  · cases h

/-- The number of big-endian bytes. -/
def valB (l : List UInt8) : Nat := l.foldl (fun n c => n * 256 + c.toNat) 0
theorem valB_snoc (l : List UInt8) (c : UInt8) : valB (l ++ [c]) = valB l * 256 + c.toNat := by simp [valB]
theorem valF (l : List UInt8) : ∀ a, l.foldl (fun n c => n * 256 + c.toNat) a + 1 ≤ (a + 1) * 256 ^ l.length := by
  induction l with
  | nil => intro a; simp
  | cons c l ih =>
    intro a
    have h1 := ih (a * 256 + c.toNat)
    have h2 := c.toNat_lt
    have h3 : (a * 256 + c.toNat + 1) * 256 ^ l.length ≤ ((a + 1) * 256) * 256 ^ l.length := Nat.mul_le_mul_right _ (by omega)
    rw [List.foldl_cons, List.length_cons, Nat.pow_succ, Nat.mul_comm (256 ^ l.length) 256, ← Nat.mul_assoc]
    omega
theorem valB_lt (l : List UInt8) (k : Nat) (h : l.length ≤ k) : valB l < 256 ^ k := by
  have h1 := valF l 0
  have h2 : 256 ^ l.length ≤ 256 ^ k := Nat.pow_le_pow_right (by decide) h
  unfold valB; omega
theorem or8 (n : Nat) (c : UInt8) (hn : n < 16777216) : IntKind.i64.wrap ((BitVec.ofInt IntKind.i64.bits (IntKind.i64.wrap ((n : Int) * 2 ^ min 8 IntKind.i64.bits)) ||| BitVec.ofInt IntKind.i64.bits (c.toNat : Int)).toNat : Int) = ((n * 256 + c.toNat : Nat) : Int) := by
  have hc := c.toNat_lt
  have e1 : (n : Int) * 2 ^ min 8 IntKind.i64.bits = ((n * 256 : Nat) : Int) := by show (n : Int) * 256 = _; omega
  rw [e1, show IntKind.i64.wrap ((n * 256 : Nat) : Int) = ((n * 256 : Nat) : Int) from IntWalk.i64_in _ (by omega)]
  have h1 : (BitVec.ofInt IntKind.i64.bits ((n * 256 : Nat) : Int)).toNat = n * 256 := by
    rw [BitVec.toNat_ofInt]; show ((((n * 256 : Nat) : Int)) % 18446744073709551616).toNat = _; omega
  have h2 : (BitVec.ofInt IntKind.i64.bits (c.toNat : Int)).toNat = c.toNat := by
    rw [BitVec.toNat_ofInt]; show (((c.toNat : Int)) % 18446744073709551616).toNat = _; omega
  rw [BitVec.toNat_or, h1, h2, show n * 256 = n <<< 8 by rw [Nat.shiftLeft_eq], ← Nat.shiftLeft_add_eq_or_of_lt hc, Nat.shiftLeft_eq, IntWalk.i64_in _ (by omega)]
theorem one_toNat (m : Nat) : (1 + (m : Int)).toNat = m + 1 := by omega
theorem two_toNat (m : Nat) : (2 + (m : Int)).toNat = m + 2 := by omega
/-- A length of several bytes. -/
def longB (c : UInt8) (r : List UInt8) : Nat × Nat × Int :=
  let m := c.toNat - 128
  if m = 0 ∨ 4 < m then (0, 0, 5) else if r.length < m then (0, 0, 4) else
    let n := valB (r.take m)
    if lenB n ≠ c :: r.take m then (0, 0, 5) else if 65536 < n then (0, 0, 3) else (n, 1 + m, 0)
def headB : List UInt8 → Nat × Nat × Nat × Int
  | [] => (0, 0, 0, 4)
  | t :: s => if tagB t.toNat = true then match s with
    | [] => (0, 0, 0, 4)
    | c :: r => if c.toNat < 128 then (t.toNat, c.toNat, 2, 0) else
      if (longB c r).2.2 = 0 then (t.toNat, (longB c r).1, 1 + (longB c r).2.1, 0) else (0, 0, 0, (longB c r).2.2)
    else (0, 0, 0, 6)
set_option maxHeartbeats 1000000 in
theorem long_c (c : UInt8) (r : List UInt8) (h : 128 ≤ c.toNat) : PCalls Try.prog 88 [.x (.str (c :: r))] (.tup [.x (.int .i64 (longB c r).1), .x (.int .i64 (longB c r).2.1), .x (.int .i64 (longB c r).2.2)]) := by
  have hc := c.toNat_lt
  have hm : (c.toNat : Int) - 128 = ((c.toNat - 128 : Nat) : Int) := by omega
  have hm4 : c.toNat - 128 < 128 := by omega
  have eL : longB c r = if c.toNat - 128 = 0 ∨ 4 < c.toNat - 128 then (0, 0, 5) else if r.length < c.toNat - 128 then (0, 0, 4) else
      if lenB (valB (r.take (c.toNat - 128))) ≠ c :: r.take (c.toNat - 128) then (0, 0, 5) else if 65536 < valB (r.take (c.toNat - 128)) then (0, 0, 3) else (valB (r.take (c.toNat - 128)), 1 + (c.toNat - 128), 0) := rfl
  generalize hmm : c.toNat - 128 = m at *
  refine FCalls.pure (fcallsG (fz := true) G_ok (p := i88) rfl _ (Nat.le_of_ble_eq_true rfl) _ (fun C0 E0 => ?_)) rfl
  dsimp only [i88, argsφ]
  have uu := And.intro @lengthG.eq_1 (And.intro @lengthG.eq_2 (And.intro hm (And.intro @List.getD_cons_zero.{0} (And.intro @one_toNat (And.intro @bytes_get (And.intro @or8 (And.intro @tabBer1_r (And.intro @tabBer1_k (And.intro @tabBer1_q82 (And.intro @tabBer1_q83 (And.intro @badG.eq_1 (@badG.eq_2))))))))))))
  refine WI.seq ?_
  refine WI.regB tabBer1_ok [0] ?_
  iterate 3 refine oS ?_
  refine oN ?_
  refine thenQ_normal ?_
  refine WI.seq ?_
  refine WI.regB tabBer1_ok [0, 5] ?_
  refine oS ?_
  iterate 3 refine oG ?_
  refine oS ?_
  refine oN ?_
  refine thenQ_normal ?_
  refine WI.seq ?_
  refine WI.block ?_
  refine WI.seq ?_
  refine WI.regB tabBer1_ok [0, 5, 13] ?_
  refine oS ?_
  refine oG ?_
  refine oS ?_
  iterate 3 refine oG ?_
  refine oS ?_
  refine oN ?_
  refine thenQ_normal ?_
  refine WI.cond (b := _) rfl rfl (fun h0 => ?_) (fun h0 => ?_)
  · try simp only [zB] at h0
    refine WI.seq ?_
    refine WI.regB tabBer1_ok [2, 3, 4] ?_
    iterate 3 refine oS ?_
    refine oN ?_
    refine thenQ_normal ?_
    refine WI.ret ?_
    refine blockQ_ret ?_
    refine thenQ_ret ?_
    first | refine lfR ?_ | refine lfR2 ?_
    rw [eL, if_pos (by omega)]; rfl -- leaf 0
  · try simp only [zB] at h0
    refine WI.seq ?_
    refine WI.regB tabBer1_ok [0, 5, 20] ?_
    refine oS ?_
    refine oG ?_
    refine oS ?_
    iterate 2 refine oG ?_
    refine oS ?_
    refine oN ?_
    refine thenQ_normal ?_
    refine WI.cond (b := _) rfl rfl (fun h1 => ?_) (fun h1 => ?_)
    · try simp only [zB] at h1
      refine WI.seq ?_
      refine WI.regB tabBer1_ok [2, 3, 4] ?_
      iterate 3 refine oS ?_
      refine oN ?_
      refine thenQ_normal ?_
      refine WI.ret ?_
      refine blockQ_ret ?_
      refine thenQ_ret ?_
      first | refine lfR ?_ | refine lfR2 ?_
      rw [eL, if_neg (by omega), if_pos (by omega)]; rfl -- leaf 1
    · try simp only [zB] at h1
      refine WI.skip ?_
      refine blockQ_normal ?_
      refine thenQ_normal ?_
      refine WI.seq ?_
      have hq : (r.take m).length = m := by simp; omega
      refine WI.regB tabBer1_ok [0, 5, 6] ?_
      refine oS ?_
      refine oN ?_
      refine thenQ_normal ?_
      refine WI.seq ?_
      refine WI.seq ?_
      refine WI.regB tabBer1_ok [0, 5, 6, 30, 31, 32] ?_
      iterate 2 refine oS ?_
      iterate 3 refine oG ?_
      generalize hqe : r.take m = q at *
      refine oG ?_
      refine oS ?_
      refine oN ?_
      refine thenQ_normal ?_
      refine WI.block ?_
      refine WI.loop (fun φ os => ∃ j : Nat, φ = [(0, .x (.str (c :: r))), (5, .x (.int .i64 m)), (6, .x (.int .i64 (valB (q.take j)))), (30, .ref 0 q.length 0 q.length), (31, .x (.int .i64 q.length)), (32, .x (.int .i64 j))] ∧ os = [.rows true 5 1 (q.map byteRow)] ∧ j ≤ m) (down m 32) ?_ (fun φ os hI => ?_)
      · exact ⟨0, rfl, rfl, by omega⟩
      · obtain ⟨j, rfl, rfl, hj⟩ := hI
        refine WI.seq ?_
        refine WI.regB tabBer1_ok [0, 5, 6, 30, 31, 32, 33] ?_
        refine oG ?_
        refine oN ?_
        refine thenQ_normal ?_
        refine WI.seq ?_
        refine WI.cond (b := _) rfl rfl (fun h2 => ?_) (fun h2 => ?_)
        · try simp only [zB] at h2
          refine WI.skip ?_
          refine thenQ_normal ?_
          refine WI.seq ?_
          refine WI.block ?_
          refine WI.seq ?_
          refine WI.regB tabBer1_ok [0, 5, 6, 8, 30, 31, 32] ?_
          iterate 2 refine oG ?_
          refine oS ?_
          refine oN ?_
          refine thenQ_normal ?_
          have hv := valB_lt (q.take j) 3 (by simp; omega)
          have hcj := (q[j]'(by omega)).toNat_lt
          have ht : q.take (j + 1) = q.take j ++ [q[j]'(by omega)] := (List.take_append_getElem (by omega)).symm
          refine WI.regB tabBer1_ok [0, 5, 6, 30, 31, 32] ?_
          refine oS ?_
          refine oG ?_
          refine oS ?_
          iterate 2 refine oG ?_
          refine oS ?_
          refine oN ?_
          refine blockQ_normal ?_
          refine thenQ_normal ?_
          refine WI.regB tabBer1_ok [0, 5, 6, 30, 31, 32] ?_
          refine oG ?_
          refine oS ?_
          refine oN ?_
          refine thenQ_normal ?_
          exact ⟨⟨j + 1, by simp only [ht, valB_snoc]; rfl, rfl, by omega⟩, by simp [down, Ab.get, D.val, intOf?]; omega⟩
        · try simp only [zB] at h2
          refine WI.exit ?_
          refine thenQ_exit ?_
          refine thenQ_exit ?_
          refine blockQ_hit ?_
          refine thenQ_normal ?_
          refine WI.seq ?_
          refine WI.block ?_
          refine WI.seq ?_
          obtain rfl : j = m := by omega
          rw [List.take_of_length_le (by omega)]
          have hv4 := valB_lt q 4 (by omega)
          refine WI.dregB tabBer1_ok [5, 6, 42] ?_
          refine dFS ?_
          refine dQC ?_
          iterate 2 refine dFS ?_
          refine dFG ?_
          refine dQG ?_
          refine dFG ?_
          refine dFS ?_
          refine dN ?_
          refine thenQ_normal ?_
          refine WI.cond (b := _) rfl rfl (fun h3 => ?_) (fun h3 => ?_)
          · try simp only [zB] at h3
            refine WI.seq ?_
            refine WI.regB tabBer1_ok [2, 3, 4] ?_
            iterate 3 refine oS ?_
            refine oN ?_
            refine thenQ_normal ?_
            refine WI.ret ?_
            refine blockQ_ret ?_
            refine thenQ_ret ?_
            first | refine lfR ?_ | refine lfR2 ?_
            rw [hqe] at h3; rw [eL, if_neg (by omega), if_neg (by omega), if_pos h3]; rfl -- leaf 2
          · try simp only [zB] at h3
            refine WI.seq ?_
            refine WI.regB tabBer1_ok [5, 6, 50] ?_
            refine oS ?_
            refine oG ?_
            refine oS ?_
            refine oN ?_
            refine thenQ_normal ?_
            refine WI.cond (b := _) rfl rfl (fun h4 => ?_) (fun h4 => ?_)
            · try simp only [zB] at h4
              refine WI.seq ?_
              refine WI.regB tabBer1_ok [2, 3, 4] ?_
              iterate 3 refine oS ?_
              refine oN ?_
              refine thenQ_normal ?_
              refine WI.ret ?_
              refine blockQ_ret ?_
              refine thenQ_ret ?_
              first | refine lfR ?_ | refine lfR2 ?_
              rw [hqe] at h3; rw [eL, if_neg (by omega), if_neg (by omega), if_neg (not_not_intro h3), if_pos (by omega)]; rfl -- leaf 3
            · try simp only [zB] at h4
              refine WI.skip ?_
              refine blockQ_normal ?_
              refine thenQ_normal ?_
              refine WI.seq ?_
              refine WI.regB tabBer1_ok [2, 3, 4] ?_
              iterate 2 refine oS ?_
              refine oG ?_
              iterate 3 refine oS ?_
              refine oN ?_
              refine thenQ_normal ?_
              refine WI.ret ?_
              first | refine lfR ?_ | refine lfR2 ?_
              rw [hqe] at h3; rw [eL, if_neg (by omega), if_neg (by omega), if_neg (not_not_intro h3), if_neg (by omega)]; rfl -- leaf 4
def longG : List D → Option (Bool × D)
  | [.x (.str (c :: r))] => some (decide (128 ≤ c.toNat), .tup [.x (.int .i64 (longB c r).1), .x (.int .i64 (longB c r).2.1), .x (.int .i64 (longB c r).2.2)])
  | _ => none
theorem longG_ok : ∀ args r, longG args = some (true, r) → PCalls Try.prog 88 args r := by
  intro args r h
  unfold longG at h
  split at h
  · rename_i c r
    simp only [Option.some.injEq, Prod.mk.injEq, Bool.and_eq_true, decide_eq_true_eq, true_and] at h
    obtain ⟨h1, rfl⟩ := h
    exact long_c c r h1
  · cases h
def tabBer2 : Tabs := addQ (addQ (noTabs) 82 badG) 88 longG
theorem tabBer2_ok : SsOk Try.prog tabBer2 := addQ_ok (addQ_ok (noTabs_ok) (G_enters G_ok (p := i82) rfl) badG_ok) (G_enters G_ok (p := i88) rfl) longG_ok
theorem tabBer2_q82 (a : List D) : tabBer2.q 82 a = badG a := rfl
theorem tabBer2_q88 (a : List D) : tabBer2.q 88 a = longG a := rfl
theorem tabBer2_r (f : FuncId) (a : List D) (o : List Ob) : tabBer2.r f a o = none := rfl
theorem tabBer2_k (f : FuncId) (a : List D) (o : List Ob) : tabBer2.k f a o = none := rfl
def headD (s : List UInt8) : D := .tup [.x (.int .i64 (headB s).1), .x (.int .i64 (headB s).2.1), .x (.int .i64 (headB s).2.2.1), .x (.int .i64 (headB s).2.2.2)]
theorem longB_le (c : UInt8) (r : List UInt8) : (longB c r).2.1 ≤ 5 := by
  unfold longB
  simp only []
  split
  · simp
  · split
    · simp
    · split
      · simp
      · split
        · simp
        · simp; omega
theorem head0_c : PCalls Try.prog 76 [.x (.str [])] (headD []) := by
  refine FCalls.pure (fcallsG (fz := true) G_ok (p := i76) rfl _ (Nat.le_of_ble_eq_true rfl) _ (fun C0 E0 => ?_)) rfl
  dsimp only [i76, argsφ]
  have uu := And.intro @tabBer2_r (And.intro @tabBer2_k (And.intro @tabBer2_q82 (And.intro @tabBer2_q88 (And.intro @badG.eq_1 (And.intro @badG.eq_2 (And.intro @longG.eq_1 (@longG.eq_2)))))))
  refine WI.seq ?_
  refine WI.regB tabBer2_ok [0] ?_
  iterate 4 refine oS ?_
  refine oN ?_
  refine thenQ_normal ?_
  refine WI.seq ?_
  refine WI.block ?_
  refine WI.seq ?_
  refine WI.regB tabBer2_ok [0, 9] ?_
  refine oS ?_
  refine oG ?_
  refine oS ?_
  refine oN ?_
  refine thenQ_normal ?_
  refine WI.cond (b := _) rfl rfl (fun h0 => ?_) (fun h0 => ?_)
  · try simp only [zB] at h0
    refine WI.seq ?_
    refine WI.regB tabBer2_ok [2, 3, 4, 5] ?_
    iterate 4 refine oS ?_
    refine oN ?_
    refine thenQ_normal ?_
    refine WI.ret ?_
    refine blockQ_ret ?_
    refine thenQ_ret ?_
    first | refine lfR ?_ | refine lfR2 ?_
    first | rfl | exact ⟨rfl, rfl⟩ | trivial -- leaf 0
  · exfalso
    simp at h0
theorem head1_c (t : UInt8) : PCalls Try.prog 76 [.x (.str [t])] (headD [t]) := by
  have ht := t.toNat_lt
  refine FCalls.pure (fcallsG (fz := true) G_ok (p := i76) rfl _ (Nat.le_of_ble_eq_true rfl) _ (fun C0 E0 => ?_)) rfl
  dsimp only [i76, argsφ]
  have uu := And.intro @badG.eq_1 (And.intro @badG.eq_2 (And.intro @List.getD_cons_zero.{0} (And.intro @tabBer2_r (And.intro @tabBer2_k (And.intro @tabBer2_q82 (And.intro @tabBer2_q88 (And.intro @longG.eq_1 (@longG.eq_2))))))))
  refine WI.seq ?_
  refine WI.regB tabBer2_ok [0] ?_
  iterate 4 refine oS ?_
  refine oN ?_
  refine thenQ_normal ?_
  refine WI.seq ?_
  refine WI.block ?_
  refine WI.seq ?_
  refine WI.regB tabBer2_ok [0, 9] ?_
  refine oS ?_
  refine oG ?_
  refine oS ?_
  refine oN ?_
  refine thenQ_normal ?_
  refine WI.cond (b := _) rfl rfl (fun h0 => ?_) (fun h0 => ?_)
  · exfalso
    simp at h0
  · try simp only [zB] at h0
    refine WI.seq ?_
    refine WI.regB tabBer2_ok [0, 12] ?_
    refine oS ?_
    iterate 2 refine oG ?_
    refine oC ?_
    refine oS ?_
    refine oN ?_
    refine thenQ_normal ?_
    refine WI.cond (b := _) rfl rfl (fun h1 => ?_) (fun h1 => ?_)
    · try simp only [zB] at h1
      refine WI.seq ?_
      refine WI.regB tabBer2_ok [2, 3, 4, 5] ?_
      iterate 4 refine oS ?_
      refine oN ?_
      refine thenQ_normal ?_
      refine WI.ret ?_
      refine blockQ_ret ?_
      refine thenQ_ret ?_
      first | refine lfR ?_ | refine lfR2 ?_
      simp [headD, headB, h1] -- leaf 0
    · try simp only [zB] at h1
      refine WI.seq ?_
      refine WI.regB tabBer2_ok [0, 17] ?_
      refine oS ?_
      iterate 2 refine oG ?_
      refine oS ?_
      refine oN ?_
      refine thenQ_normal ?_
      refine WI.cond (b := _) rfl rfl (fun h2 => ?_) (fun h2 => ?_)
      · try simp only [zB] at h2
        refine WI.seq ?_
        refine WI.regB tabBer2_ok [2, 3, 4, 5] ?_
        iterate 4 refine oS ?_
        refine oN ?_
        refine thenQ_normal ?_
        refine WI.ret ?_
        refine blockQ_ret ?_
        refine thenQ_ret ?_
        first | refine lfR ?_ | refine lfR2 ?_
        simp [headD, headB, h1] -- leaf 1
      · exfalso
        simp at h2
theorem head2_c (t c : UInt8) (r : List UInt8) : PCalls Try.prog 76 [.x (.str (t :: c :: r))] (headD (t :: c :: r)) := by
  have hL := longB_le c r
  have ht := t.toNat_lt
  have hc := c.toNat_lt
  refine FCalls.pure (fcallsG (fz := true) G_ok (p := i76) rfl _ (Nat.le_of_ble_eq_true rfl) _ (fun C0 E0 => ?_)) rfl
  dsimp only [i76, argsφ]
  have uu := And.intro @badG.eq_1 (And.intro @badG.eq_2 (And.intro @longG.eq_1 (And.intro @longG.eq_2 (And.intro @List.getD_cons_zero.{0} (And.intro @List.getD_cons_succ.{0} (And.intro @tabBer2_r (And.intro @tabBer2_k (And.intro @tabBer2_q82 (@tabBer2_q88)))))))))
  refine WI.seq ?_
  refine WI.regB tabBer2_ok [0] ?_
  iterate 4 refine oS ?_
  refine oN ?_
  refine thenQ_normal ?_
  refine WI.seq ?_
  refine WI.block ?_
  refine WI.seq ?_
  refine WI.regB tabBer2_ok [0, 9] ?_
  refine oS ?_
  refine oG ?_
  refine oS ?_
  refine oN ?_
  refine thenQ_normal ?_
  refine WI.cond (b := _) rfl rfl (fun h0 => ?_) (fun h0 => ?_)
  · exfalso
    simp at h0
  · try simp only [zB] at h0
    refine WI.seq ?_
    refine WI.regB tabBer2_ok [0, 12] ?_
    refine oS ?_
    iterate 2 refine oG ?_
    refine oC ?_
    refine oS ?_
    refine oN ?_
    refine thenQ_normal ?_
    refine WI.cond (b := _) rfl rfl (fun h1 => ?_) (fun h1 => ?_)
    · try simp only [zB] at h1
      refine WI.seq ?_
      refine WI.regB tabBer2_ok [2, 3, 4, 5] ?_
      iterate 4 refine oS ?_
      refine oN ?_
      refine thenQ_normal ?_
      refine WI.ret ?_
      refine blockQ_ret ?_
      refine thenQ_ret ?_
      first | refine lfR ?_ | refine lfR2 ?_
      simp [headD, headB, h1] -- leaf 0
    · try simp only [zB] at h1
      refine WI.seq ?_
      refine WI.regB tabBer2_ok [0, 17] ?_
      refine oS ?_
      iterate 2 refine oG ?_
      refine oS ?_
      refine oN ?_
      refine thenQ_normal ?_
      refine WI.cond (b := _) rfl rfl (fun h2 => ?_) (fun h2 => ?_)
      · exfalso
        simp at h2; omega
      · try simp only [zB] at h2
        refine WI.seq ?_
        refine WI.regB tabBer2_ok [0, 21] ?_
        refine oS ?_
        iterate 2 refine oG ?_
        refine oS ?_
        refine oN ?_
        refine thenQ_normal ?_
        refine WI.cond (b := _) rfl rfl (fun h3 => ?_) (fun h3 => ?_)
        · try simp only [zB] at h3
          refine WI.seq ?_
          refine WI.dregB tabBer2_ok [2, 3, 4, 5] ?_
          refine dFS ?_
          iterate 2 refine dFG ?_
          refine dFS ?_
          iterate 2 refine dFG ?_
          iterate 4 refine dFS ?_
          refine dN ?_
          refine thenQ_normal ?_
          refine WI.ret ?_
          refine blockQ_ret ?_
          refine thenQ_ret ?_
          first | refine lfR ?_ | refine lfR2 ?_
          have h5 : c.toNat < 128 := by omega
          simp [headD, headB, h1, h5] -- leaf 1
        · try simp only [zB] at h3
          refine WI.skip ?_
          refine blockQ_normal ?_
          refine thenQ_normal ?_
          refine WI.seq ?_
          refine WI.regB tabBer2_ok [0, 6, 7, 8] ?_
          refine oS ?_
          refine oG ?_
          refine oC ?_
          refine oS ?_
          iterate 3 refine oG ?_
          iterate 3 refine oS ?_
          refine oN ?_
          refine thenQ_normal ?_
          refine WI.seq ?_
          refine WI.seq ?_
          refine WI.regB tabBer2_ok [0, 6, 7, 8, 39] ?_
          refine oS ?_
          refine oG ?_
          refine oN ?_
          refine thenQ_normal ?_
          refine WI.cond (b := _) rfl rfl (fun h4 => ?_) (fun h4 => ?_)
          · try simp only [zB] at h4
            refine WI.seq ?_
            refine WI.regB tabBer2_ok [2, 3, 4, 5] ?_
            iterate 5 refine oS ?_
            refine oN ?_
            refine thenQ_normal ?_
            refine WI.ret ?_
            refine thenQ_ret ?_
            first | refine lfR ?_ | refine lfR2 ?_
            have h5 : ¬ c.toNat < 128 := by omega
            simp [headD, headB, h1, h5, h4] -- leaf 2
          · try simp only [zB] at h4
            refine WI.skip ?_
            refine thenQ_normal ?_
            refine WI.seq ?_
            refine WI.regB tabBer2_ok [2, 3, 4, 5] ?_
            refine oS ?_
            iterate 2 refine oG ?_
            iterate 2 refine oS ?_
            refine oG ?_
            iterate 4 refine oS ?_
            refine oN ?_
            refine thenQ_normal ?_
            refine WI.ret ?_
            first | refine lfR ?_ | refine lfR2 ?_
            have h5 : ¬ c.toNat < 128 := by omega
            simp [headD, headB, h1, h5, h4] -- leaf 3
theorem head_c : ∀ s : List UInt8, PCalls Try.prog 76 [.x (.str s)] (headD s)
  | [] => head0_c
  | [t] => head1_c t
  | t :: c :: r => head2_c t c r
def headG : List D → Option (Bool × D)
  | [.x (.str s)] => some (true, headD s)
  | _ => none
theorem headG_ok : ∀ args r, headG args = some (true, r) → PCalls Try.prog 76 args r := by
  intro args r h
  unfold headG at h
  split at h
  · rename_i s
    simp only [Option.some.injEq, Prod.mk.injEq, Bool.and_eq_true, decide_eq_true_eq, true_and] at h
    obtain rfl := h
    exact head_c s
  · cases h
end Go.Proofs.Ytcffpndhodhncaa
end
section
/- Ber: the reference's Head. -/
set_option linter.unusedSimpArgs false
set_option linter.unusedVariables false
namespace Go.Proofs.Ytcffpndhodhncaa
open Go.RowKit Go.Bo Go.Ab

theorem longB_5 {c : UInt8} {r : List UInt8} (h : c.toNat = 128 ∨ 132 < c.toNat) : longB c r = (0, 0, 5) := by
  unfold longB; rw [if_pos (by omega)]
theorem longB_4 {c : UInt8} {r : List UInt8} {m : Nat} (hm : c.toNat = m + 128) (h : ¬ (m = 0 ∨ 4 < m)) (hr : r.length < m) : longB c r = (0, 0, 4) := by
  have e : c.toNat - 128 = m := by omega
  unfold longB; simp only [e]; rw [if_neg h, if_pos hr]
theorem longB_5' {c : UInt8} {r : List UInt8} {m : Nat} (hm : c.toNat = m + 128) (h : ¬ (m = 0 ∨ 4 < m)) (hr : ¬ r.length < m) (hl : ¬ lenB (valB (r.take m)) = c :: r.take m) : longB c r = (0, 0, 5) := by
  have e : c.toNat - 128 = m := by omega
  unfold longB; simp only [e]; rw [if_neg h, if_neg hr, if_pos hl]
theorem longB_3 {c : UInt8} {r : List UInt8} {m : Nat} (hm : c.toNat = m + 128) (h : ¬ (m = 0 ∨ 4 < m)) (hr : ¬ r.length < m) (hl : lenB (valB (r.take m)) = c :: r.take m) (hv : 65536 < valB (r.take m)) : longB c r = (0, 0, 3) := by
  have e : c.toNat - 128 = m := by omega
  unfold longB; simp only [e]; rw [if_neg h, if_neg hr, if_neg (not_not_intro hl), if_pos hv]
theorem longB_0 {c : UInt8} {r : List UInt8} {m : Nat} (hm : c.toNat = m + 128) (h : ¬ (m = 0 ∨ 4 < m)) (hr : ¬ r.length < m) (hl : lenB (valB (r.take m)) = c :: r.take m) (hv : ¬ 65536 < valB (r.take m)) : longB c r = (valB (r.take m), 1 + m, 0) := by
  have e : c.toNat - 128 = m := by omega
  unfold longB; simp only [e]; rw [if_neg h, if_neg hr, if_neg (not_not_intro hl), if_neg hv]
theorem headB_long {t c : UInt8} {r : List UInt8} {n k : Nat} {e : Int} (h1 : tagB t.toNat = true) (h : 128 ≤ c.toNat) (hl : longB c r = (n, k, e)) :
    headD (t :: c :: r) = if e = 0 then .tup [.x (.int .i64 t.toNat), .x (.int .i64 n), .x (.int .i64 ((1 + k : Nat) : Int)), .x (.int .i64 0)] else .tup [.x (.int .i64 0), .x (.int .i64 0), .x (.int .i64 0), .x (.int .i64 e)] := by
  have h2 : ¬ c.toNat < 128 := by omega
  by_cases he : e = 0
  · simp [headD, headB, h1, h2, hl, he]
  · simp [headD, headB, h1, h2, hl, he]
theorem headR0_c : PCalls Try.prog 77 [.x (.str [])] (headD []) := by
  refine FCalls.pure (fcallsG (fz := true) G_ok (p := i77) rfl _ (Nat.le_of_ble_eq_true rfl) _ (fun C0 E0 => ?_)) rfl
  dsimp only [i77, argsφ]
  have uu := And.intro @tabBer1R_r (And.intro @tabBer1R_k (And.intro @tabBer1R_q73 (And.intro @tabBer1R_q74 (And.intro @lengthRG.eq_1 (And.intro @lengthRG.eq_2 (And.intro @taggedG.eq_1 (@taggedG.eq_2)))))))
  refine WI.seq ?_
  refine WI.regB tabBer1R_ok [0] ?_
  iterate 4 refine oS ?_
  refine oN ?_
  refine thenQ_normal ?_
  refine WI.seq ?_
  refine WI.block ?_
  refine WI.seq ?_
  refine WI.regB tabBer1R_ok [0, 9] ?_
  refine oS ?_
  refine oG ?_
  refine oS ?_
  refine oN ?_
  refine thenQ_normal ?_
  refine WI.cond (b := _) rfl rfl (fun h0 => ?_) (fun h0 => ?_)
  · try simp only [zB] at h0
    refine WI.seq ?_
    refine WI.regB tabBer1R_ok [2, 3, 4, 5] ?_
    iterate 4 refine oS ?_
    refine oN ?_
    refine thenQ_normal ?_
    refine WI.ret ?_
    refine blockQ_ret ?_
    refine thenQ_ret ?_
    first | refine lfR ?_ | refine lfR2 ?_
    first | rfl | exact ⟨rfl, rfl⟩ | trivial -- leaf 0
  · exfalso
    simp at h0
theorem headR1_c (t : UInt8) : PCalls Try.prog 77 [.x (.str [t])] (headD [t]) := by
  have ht := t.toNat_lt
  refine FCalls.pure (fcallsG (fz := true) G_ok (p := i77) rfl _ (Nat.le_of_ble_eq_true rfl) _ (fun C0 E0 => ?_)) rfl
  dsimp only [i77, argsφ]
  have uu := And.intro @taggedG.eq_1 (And.intro @taggedG.eq_2 (And.intro @List.getD_cons_zero.{0} (And.intro @tabBer1R_r (And.intro @tabBer1R_k (And.intro @tabBer1R_q73 (And.intro @tabBer1R_q74 (And.intro @lengthRG.eq_1 (@lengthRG.eq_2))))))))
  refine WI.seq ?_
  refine WI.regB tabBer1R_ok [0] ?_
  iterate 4 refine oS ?_
  refine oN ?_
  refine thenQ_normal ?_
  refine WI.seq ?_
  refine WI.block ?_
  refine WI.seq ?_
  refine WI.regB tabBer1R_ok [0, 9] ?_
  refine oS ?_
  refine oG ?_
  refine oS ?_
  refine oN ?_
  refine thenQ_normal ?_
  refine WI.cond (b := _) rfl rfl (fun h0 => ?_) (fun h0 => ?_)
  · exfalso
    simp at h0
  · try simp only [zB] at h0
    refine WI.seq ?_
    refine WI.regB tabBer1R_ok [0, 12] ?_
    refine oS ?_
    iterate 2 refine oG ?_
    refine oC ?_
    refine oG ?_
    refine oS ?_
    refine oN ?_
    refine thenQ_normal ?_
    refine WI.cond (b := _) rfl rfl (fun h1 => ?_) (fun h1 => ?_)
    · try simp only [zB] at h1
      refine WI.seq ?_
      refine WI.regB tabBer1R_ok [2, 3, 4, 5] ?_
      iterate 4 refine oS ?_
      refine oN ?_
      refine thenQ_normal ?_
      refine WI.ret ?_
      refine blockQ_ret ?_
      refine thenQ_ret ?_
      first | refine lfR ?_ | refine lfR2 ?_
      simp [headD, headB, h1] -- leaf 0
    · try simp only [zB] at h1
      refine WI.seq ?_
      refine WI.regB tabBer1R_ok [0, 18] ?_
      refine oS ?_
      iterate 2 refine oG ?_
      refine oS ?_
      refine oN ?_
      refine thenQ_normal ?_
      refine WI.cond (b := _) rfl rfl (fun h2 => ?_) (fun h2 => ?_)
      · try simp only [zB] at h2
        refine WI.seq ?_
        refine WI.regB tabBer1R_ok [2, 3, 4, 5] ?_
        iterate 4 refine oS ?_
        refine oN ?_
        refine thenQ_normal ?_
        refine WI.ret ?_
        refine blockQ_ret ?_
        refine thenQ_ret ?_
        first | refine lfR ?_ | refine lfR2 ?_
        simp [headD, headB, h1] -- leaf 1
      · exfalso
        simp at h2
set_option maxHeartbeats 1000000 in
theorem headR2_c (t c : UInt8) (r : List UInt8) : PCalls Try.prog 77 [.x (.str (t :: c :: r))] (headD (t :: c :: r)) := by
  have ht := t.toNat_lt
  have hc := c.toNat_lt
  refine FCalls.pure (fcallsG (fz := true) G_ok (p := i77) rfl _ (Nat.le_of_ble_eq_true rfl) _ (fun C0 E0 => ?_)) rfl
  dsimp only [i77, argsφ]
  have uu := And.intro @taggedG.eq_1 (And.intro @taggedG.eq_2 (And.intro @lengthRG.eq_1 (And.intro @lengthRG.eq_2 (And.intro @List.getD_cons_zero.{0} (And.intro @List.getD_cons_succ.{0} (And.intro @two_toNat (And.intro @tabBer1R_r (And.intro @tabBer1R_k (And.intro @tabBer1R_q73 (@tabBer1R_q74))))))))))
  refine WI.seq ?_
  refine WI.regB tabBer1R_ok [0] ?_
  iterate 4 refine oS ?_
  refine oN ?_
  refine thenQ_normal ?_
  refine WI.seq ?_
  refine WI.block ?_
  refine WI.seq ?_
  refine WI.regB tabBer1R_ok [0, 9] ?_
  refine oS ?_
  refine oG ?_
  refine oS ?_
  refine oN ?_
  refine thenQ_normal ?_
  refine WI.cond (b := _) rfl rfl (fun h0 => ?_) (fun h0 => ?_)
  · exfalso
    simp at h0
  · try simp only [zB] at h0
    refine WI.seq ?_
    refine WI.regB tabBer1R_ok [0, 12] ?_
    refine oS ?_
    iterate 2 refine oG ?_
    refine oC ?_
    refine oG ?_
    refine oS ?_
    refine oN ?_
    refine thenQ_normal ?_
    refine WI.cond (b := _) rfl rfl (fun h1 => ?_) (fun h1 => ?_)
    · try simp only [zB] at h1
      refine WI.seq ?_
      refine WI.regB tabBer1R_ok [2, 3, 4, 5] ?_
      iterate 4 refine oS ?_
      refine oN ?_
      refine thenQ_normal ?_
      refine WI.ret ?_
      refine blockQ_ret ?_
      refine thenQ_ret ?_
      first | refine lfR ?_ | refine lfR2 ?_
      simp [headD, headB, h1] -- leaf 0
    · try simp only [zB] at h1
      refine WI.seq ?_
      refine WI.regB tabBer1R_ok [0, 18] ?_
      refine oS ?_
      iterate 2 refine oG ?_
      refine oS ?_
      refine oN ?_
      refine thenQ_normal ?_
      refine WI.cond (b := _) rfl rfl (fun h2 => ?_) (fun h2 => ?_)
      · exfalso
        simp at h2; omega
      · try simp only [zB] at h2
        refine WI.seq ?_
        refine WI.regB tabBer1R_ok [0, 22] ?_
        refine oS ?_
        iterate 2 refine oG ?_
        refine oS ?_
        refine oN ?_
        refine thenQ_normal ?_
        refine WI.cond (b := _) rfl rfl (fun h3 => ?_) (fun h3 => ?_)
        · try simp only [zB] at h3
          refine WI.seq ?_
          refine WI.dregB tabBer1R_ok [2, 3, 4, 5] ?_
          refine dFS ?_
          iterate 2 refine dFG ?_
          refine dFS ?_
          iterate 2 refine dFG ?_
          iterate 4 refine dFS ?_
          refine dN ?_
          refine thenQ_normal ?_
          refine WI.ret ?_
          refine blockQ_ret ?_
          refine thenQ_ret ?_
          first | refine lfR ?_ | refine lfR2 ?_
          have h5 : c.toNat < 128 := by omega
          simp [headD, headB, h1, h5] -- leaf 1
        · try simp only [zB] at h3
          refine WI.seq ?_
          refine WI.regB tabBer1R_ok [0, 32] ?_
          refine oS ?_
          iterate 2 refine oG ?_
          refine oS ?_
          iterate 4 refine oG ?_
          refine oS ?_
          refine oN ?_
          refine thenQ_normal ?_
          refine WI.cond (b := _) rfl rfl (fun h4 => ?_) (fun h4 => ?_)
          · try simp only [zB] at h4
            refine WI.seq ?_
            refine WI.regB tabBer1R_ok [2, 3, 4, 5] ?_
            iterate 4 refine oS ?_
            refine oN ?_
            refine thenQ_normal ?_
            refine WI.ret ?_
            refine blockQ_ret ?_
            refine thenQ_ret ?_
            first | refine lfR ?_ | refine lfR2 ?_
            rw [headB_long h1 (by omega) (longB_5 (by omega))]; rfl -- leaf 2
          · try simp only [zB] at h4
            refine WI.skip ?_
            refine blockQ_normal ?_
            refine thenQ_normal ?_
            refine WI.seq ?_
            refine WI.regB tabBer1R_ok [0, 6] ?_
            refine oS ?_
            iterate 3 refine oG ?_
            refine oS ?_
            refine oN ?_
            refine thenQ_normal ?_
            refine WI.seq ?_
            refine WI.seq ?_
            obtain ⟨m, hmc⟩ : ∃ m : Nat, c.toNat = m + 128 := ⟨c.toNat - 128, by omega⟩
            have hm : (c.toNat : Int) - 128 = (m : Int) := by omega
            simp only [hm]
            refine WI.regB tabBer1R_ok [0, 6, 49] ?_
            refine oS ?_
            refine oG ?_
            refine oS ?_
            iterate 2 refine oG ?_
            refine oN ?_
            refine thenQ_normal ?_
            refine WI.cond (b := _) rfl rfl (fun h5 => ?_) (fun h5 => ?_)
            · try simp only [zB] at h5
              refine WI.seq ?_
              refine WI.regB tabBer1R_ok [2, 3, 4, 5] ?_
              iterate 4 refine oS ?_
              refine oN ?_
              refine thenQ_normal ?_
              refine WI.ret ?_
              refine thenQ_ret ?_
              first | refine lfR ?_ | refine lfR2 ?_
              rw [headB_long h1 (by omega) (longB_4 hmc (by omega) (by omega))]; rfl -- leaf 3
            · try simp only [zB] at h5
              refine WI.skip ?_
              refine thenQ_normal ?_
              refine WI.seq ?_
              refine WI.regB tabBer1R_ok [0, 6, 7] ?_
              refine oS ?_
              refine oN ?_
              refine thenQ_normal ?_
              refine WI.seq ?_
              refine WI.seq ?_
              refine WI.regB tabBer1R_ok [0, 6, 7, 8] ?_
              refine oS ?_
              refine oN ?_
              refine thenQ_normal ?_
              refine WI.block ?_
              refine WI.loop (fun φ os => ∃ j : Nat, φ = [(0, .x (.str (t :: c :: r))), (6, .x (.int .i64 m)), (7, .x (.int .i64 (valB (r.take j)))), (8, .x (.int .i64 ((j + 2 : Nat) : Int)))] ∧ os = [] ∧ j ≤ m) (down 6 8) ?_ (fun φ os hI => ?_)
              · exact ⟨0, rfl, rfl, by omega⟩
              · obtain ⟨j, rfl, rfl, hj⟩ := hI
                refine WI.seq ?_
                refine WI.seq ?_
                refine WI.regB tabBer1R_ok [0, 6, 7, 8, 53] ?_
                iterate 2 refine oS ?_
                iterate 2 refine oG ?_
                refine oN ?_
                refine thenQ_normal ?_
                refine WI.cond (b := _) rfl rfl (fun h6 => ?_) (fun h6 => ?_)
                · try simp only [zB] at h6
                  refine WI.skip ?_
                  refine thenQ_normal ?_
                  refine WI.seq ?_
                  refine WI.block ?_
                  have hv := valB_lt (r.take j) 3 (by simp; omega)
                  have hjr : j < r.length := by omega
                  have hcj := (r.getD j 0).toNat_lt
                  have ht' : r.take (j + 1) = r.take j ++ [r.getD j 0] := by rw [List.getD_eq_getElem?_getD, List.getElem?_eq_getElem hjr]; exact (List.take_append_getElem hjr).symm
                  refine WI.regB tabBer1R_ok [0, 6, 7, 8] ?_
                  refine oS ?_
                  refine oG ?_
                  iterate 2 refine oS ?_
                  iterate 3 refine oG ?_
                  refine oS ?_
                  refine oN ?_
                  refine blockQ_normal ?_
                  refine thenQ_normal ?_
                  refine WI.regB tabBer1R_ok [0, 6, 7, 8] ?_
                  refine oS ?_
                  refine oG ?_
                  refine oS ?_
                  refine oN ?_
                  refine thenQ_normal ?_
                  exact ⟨⟨j + 1, by simp [ht', valB_snoc]; omega, rfl, by omega⟩, by simp [down, Ab.get, D.val, intOf?]; omega⟩
                · try simp only [zB] at h6
                  refine WI.exit ?_
                  refine thenQ_exit ?_
                  refine thenQ_exit ?_
                  refine blockQ_hit ?_
                  refine thenQ_normal ?_
                  refine WI.seq ?_
                  refine WI.block ?_
                  refine WI.seq ?_
                  obtain rfl : j = m := by omega
                  have hv4 := valB_lt (r.take j) 4 (by simp; omega)
                  refine WI.dregB tabBer1R_ok [0, 6, 7, 63] ?_
                  refine dFS ?_
                  refine dQC ?_
                  iterate 2 refine dFS ?_
                  refine dFG ?_
                  refine dQG ?_
                  refine dFG ?_
                  refine dFS ?_
                  refine dN ?_
                  refine thenQ_normal ?_
                  refine WI.cond (b := _) rfl rfl (fun h7 => ?_) (fun h7 => ?_)
                  · try simp only [zB] at h7
                    refine WI.seq ?_
                    refine WI.regB tabBer1R_ok [2, 3, 4, 5] ?_
                    iterate 4 refine oS ?_
                    refine oN ?_
                    refine thenQ_normal ?_
                    refine WI.ret ?_
                    refine blockQ_ret ?_
                    refine thenQ_ret ?_
                    first | refine lfR ?_ | refine lfR2 ?_
                    rw [headB_long h1 (by omega) (longB_5' hmc (by omega) (by omega) h7)]; rfl -- leaf 4
                  · try simp only [zB] at h7
                    refine WI.seq ?_
                    refine WI.regB tabBer1R_ok [0, 6, 7, 71] ?_
                    refine oS ?_
                    refine oG ?_
                    refine oS ?_
                    refine oN ?_
                    refine thenQ_normal ?_
                    refine WI.cond (b := _) rfl rfl (fun h8 => ?_) (fun h8 => ?_)
                    · try simp only [zB] at h8
                      refine WI.seq ?_
                      refine WI.regB tabBer1R_ok [2, 3, 4, 5] ?_
                      iterate 4 refine oS ?_
                      refine oN ?_
                      refine thenQ_normal ?_
                      refine WI.ret ?_
                      refine blockQ_ret ?_
                      refine thenQ_ret ?_
                      first | refine lfR ?_ | refine lfR2 ?_
                      rw [headB_long h1 (by omega) (longB_3 hmc (by omega) (by omega) h7 (by omega))]; rfl -- leaf 5
                    · try simp only [zB] at h8
                      refine WI.skip ?_
                      refine blockQ_normal ?_
                      refine thenQ_normal ?_
                      refine WI.seq ?_
                      refine WI.regB tabBer1R_ok [2, 3, 4, 5] ?_
                      refine oS ?_
                      iterate 2 refine oG ?_
                      iterate 2 refine oS ?_
                      refine oG ?_
                      iterate 4 refine oS ?_
                      refine oN ?_
                      refine thenQ_normal ?_
                      refine WI.ret ?_
                      first | refine lfR ?_ | refine lfR2 ?_
                      rw [headB_long h1 (by omega) (longB_0 hmc (by omega) (by omega) h7 (by omega))]; simp; omega -- leaf 6
theorem headR_c : ∀ s : List UInt8, PCalls Try.prog 77 [.x (.str s)] (headD s)
  | [] => headR0_c
  | [t] => headR1_c t
  | t :: c :: r => headR2_c t c r
def headRG : List D → Option (Bool × D)
  | [.x (.str s)] => some (true, headD s)
  | _ => none
theorem headRG_ok : ∀ args r, headRG args = some (true, r) → PCalls Try.prog 77 args r := by
  intro args r h
  unfold headRG at h
  split at h
  · rename_i s
    simp only [Option.some.injEq, Prod.mk.injEq, Bool.and_eq_true, decide_eq_true_eq, true_and] at h
    obtain rfl := h
    exact headR_c s
  · cases h
end Go.Proofs.Ytcffpndhodhncaa
end
section
/- Ber: Read, All, Same. -/
set_option linter.unusedSimpArgs false
set_option linter.unusedVariables false
namespace Go.Proofs.Ytcffpndhodhncaa
open Go.RowKit Go.Bo Go.Ab

theorem longB_ok (c : UInt8) (r : List UInt8) (h : (longB c r).2.2 = 0) : 128 < c.toNat ∧ (longB c r) = (valB (r.take (c.toNat - 128)), 1 + (c.toNat - 128), 0) ∧ c.toNat ≤ 132 ∧ c.toNat - 128 ≤ r.length ∧ lenB (valB (r.take (c.toNat - 128))) = c :: r.take (c.toNat - 128) ∧ ¬ 65536 < valB (r.take (c.toNat - 128)) := by
  unfold longB at h ⊢
  simp only at h ⊢
  split at h
  · cases h
  · rename_i k1
    split at h
    · cases h
    · rename_i k2
      split at h
      · cases h
      · rename_i k3
        split at h
        · cases h
        · rename_i k4
          rw [if_neg k1, if_neg k2, if_neg k3, if_neg k4]
          exact ⟨by omega, rfl, by omega, by omega, Classical.not_not.1 k3, k4⟩
theorem headB_ok : ∀ s : List UInt8, (headB s).2.2.2 = 0 → tagB ((headB s).1 : Int) = true ∧ (headB s).2.1 ≤ 65536 ∧ 2 ≤ (headB s).2.2.1 ∧ (headB s).2.2.1 ≤ 6 ∧ (headB s).2.2.1 ≤ s.length
  | [], h => by simp [headB] at h
  | [t], h => by
    exfalso
    simp only [headB] at h
    split at h <;> simp at h
  | t :: c :: r, h => by
    simp only [headB] at h ⊢
    by_cases h1 : tagB (t.toNat : Int) = true
    · rw [if_pos h1] at h ⊢
      by_cases h2 : c.toNat < 128
      · rw [if_pos h2] at h ⊢
        clear h
        refine ⟨h1, ?_, ?_, ?_, ?_⟩
        · show c.toNat ≤ 65536; omega
        · exact Nat.le_refl 2
        · show 2 ≤ 6; decide
        · show 2 ≤ r.length + 1 + 1; omega
      · rw [if_neg h2] at h ⊢
        by_cases h3 : (longB c r).2.2 = 0
        · rw [if_pos h3] at h ⊢
          obtain ⟨k1, k2, k3, k4, k5, k6⟩ := longB_ok c r h3
          rw [k2]
          clear h h3 k2
          refine ⟨h1, ?_, ?_, ?_, ?_⟩
          · simp only; exact Nat.not_lt.1 k6
          · show 2 ≤ 1 + (1 + (c.toNat - 128)); omega
          · show 1 + (1 + (c.toNat - 128)) ≤ 6; omega
          · show 1 + (1 + (c.toNat - 128)) ≤ r.length + 1 + 1; omega
        · rw [if_neg h3] at h; simp at h; exact absurd h h3
    · rw [if_neg h1] at h; simp at h

abbrev Tlv := Int × List UInt8 × Unit
def rTlv : RC Tlv := rCat (rInt .i64) (rCat rStr rEnd)
theorem good_rTlv : rTlv.Good := good_rCat (good_rInt .i64) (good_rCat good_rStr good_rEnd)
def readB (s : List UInt8) : Tlv × Nat × Int :=
  if (headB s).2.2.2 = 0 then
    if s.length - (headB s).2.2.1 < (headB s).2.1 then ((0, [], ()), 0, 4) else
      (((headB s).1, (s.take ((headB s).2.2.1 + (headB s).2.1)).drop (headB s).2.2.1, ()), (headB s).2.2.1 + (headB s).2.1, 0)
  else ((0, [], ()), 0, (headB s).2.2.2)
def readD (s : List UInt8) : D := .tup [.agg [.x (.int .i64 (readB s).1.1), .x (.str (readB s).1.2.1)], .x (.int .i64 (readB s).2.1), .x (.int .i64 (readB s).2.2)]
def tabBer3 : Tabs := addQ (noTabs) 76 headG
theorem tabBer3_ok : SsOk Try.prog tabBer3 := addQ_ok (noTabs_ok) (G_enters G_ok (p := i76) rfl) headG_ok
theorem tabBer3_q76 (a : List D) : tabBer3.q 76 a = headG a := rfl
theorem tabBer3_r (f : FuncId) (a : List D) (o : List Ob) : tabBer3.r f a o = none := rfl
theorem tabBer3_k (f : FuncId) (a : List D) (o : List Ob) : tabBer3.k f a o = none := rfl
def tabBer3R : Tabs := addQ (noTabs) 77 headRG
theorem tabBer3R_ok : SsOk Try.prog tabBer3R := addQ_ok (noTabs_ok) (G_enters G_ok (p := i77) rfl) headRG_ok
theorem tabBer3R_q77 (a : List D) : tabBer3R.q 77 a = headRG a := rfl
theorem tabBer3R_r (f : FuncId) (a : List D) (o : List Ob) : tabBer3R.r f a o = none := rfl
theorem tabBer3R_k (f : FuncId) (a : List D) (o : List Ob) : tabBer3R.k f a o = none := rfl
theorem read_c (s : List UInt8) (hs : s.length ≤ 9223372036854775807) : PCalls Try.prog 45 [.x (.str s)] (readD s) := by
  have hk := headB_ok s
  obtain ⟨a, n, k, e, hH⟩ : ∃ a n k e, headB s = (a, n, k, e) := ⟨_, _, _, _, rfl⟩
  rw [hH] at hk
  simp only at hk
  refine FCalls.pure (fcallsG (fz := true) G_ok (p := i45) rfl _ (Nat.le_of_ble_eq_true rfl) _ (fun C0 E0 => ?_)) rfl
  dsimp only [i45, argsφ]
  have uu := And.intro @headG.eq_1 (And.intro @headG.eq_2 (And.intro @headD.eq_1 (And.intro hH (And.intro @tabBer3_r (And.intro @tabBer3_k (@tabBer3_q76))))))
  refine WI.seq ?_
  refine WI.regB tabBer3_ok [0, 2] ?_
  refine oG ?_
  iterate 2 refine oS ?_
  refine oN ?_
  refine thenQ_normal ?_
  refine WI.seq ?_
  refine WI.regB tabBer3_ok [0, 2, 5, 6, 7, 8] ?_
  refine oS ?_
  refine oC ?_
  refine oS ?_
  iterate 4 refine oG ?_
  iterate 4 refine oS ?_
  refine oN ?_
  refine thenQ_normal ?_
  refine WI.seq ?_
  refine WI.block ?_
  refine WI.seq ?_
  refine WI.regB tabBer3_ok [0, 2, 5, 6, 7, 8, 16] ?_
  refine oS ?_
  refine oG ?_
  refine oS ?_
  refine oN ?_
  refine thenQ_normal ?_
  refine WI.cond (b := _) rfl rfl (fun h0 => ?_) (fun h0 => ?_)
  · try simp only [zB] at h0
    refine WI.seq ?_
    refine WI.regB tabBer3_ok [2, 3, 4] ?_
    refine oG ?_
    refine oS ?_
    refine oG ?_
    iterate 2 refine oS ?_
    refine oN ?_
    refine thenQ_normal ?_
    refine WI.ret ?_
    refine blockQ_ret ?_
    refine thenQ_ret ?_
    first | refine lfR ?_ | refine lfR2 ?_
    simp [readD, readB, hH, h0] -- leaf 0
  · try simp only [zB] at h0
    refine WI.seq ?_
    refine WI.regB tabBer3_ok [0, 2, 5, 6, 7, 21] ?_
    refine oS ?_
    refine oG ?_
    refine oS ?_
    refine oG ?_
    refine oS ?_
    refine oG ?_
    refine oS ?_
    refine oN ?_
    refine thenQ_normal ?_
    refine WI.cond (b := _) rfl rfl (fun h1 => ?_) (fun h1 => ?_)
    · try simp only [zB] at h1
      refine WI.seq ?_
      refine WI.regB tabBer3_ok [2, 3, 4] ?_
      iterate 2 refine oG ?_
      iterate 2 refine oS ?_
      refine oN ?_
      refine thenQ_normal ?_
      refine WI.ret ?_
      refine blockQ_ret ?_
      refine thenQ_ret ?_
      first | refine lfR ?_ | refine lfR2 ?_
      obtain rfl := h0
      have h2 : s.length - k < n := by have := hk rfl; omega
      simp [readD, readB, hH, h2] -- leaf 1
    · try simp only [zB] at h1
      refine WI.skip ?_
      refine blockQ_normal ?_
      refine thenQ_normal ?_
      refine WI.seq ?_
      refine WI.regB tabBer3_ok [2, 3, 4] ?_
      iterate 5 refine oS ?_
      iterate 3 refine oG ?_
      iterate 2 refine oS ?_
      iterate 2 refine oG ?_
      iterate 2 refine oS ?_
      refine oN ?_
      refine thenQ_normal ?_
      refine WI.ret ?_
      first | refine lfR ?_ | refine lfR2 ?_
      obtain rfl := h0
      have h2 : ¬ s.length - k < n := by omega
      have h3 : ((k : Int) + (n : Int)).toNat = k + n := by omega
      simp [readD, readB, hH, h2, h3] -- leaf 2
theorem readR_c (s : List UInt8) (hs : s.length ≤ 9223372036854775807) : PCalls Try.prog 48 [.x (.str s)] (readD s) := by
  have hk := headB_ok s
  obtain ⟨a, n, k, e, hH⟩ : ∃ a n k e, headB s = (a, n, k, e) := ⟨_, _, _, _, rfl⟩
  rw [hH] at hk
  simp only at hk
  refine FCalls.pure (fcallsG (fz := true) G_ok (p := i48) rfl _ (Nat.le_of_ble_eq_true rfl) _ (fun C0 E0 => ?_)) rfl
  dsimp only [i48, argsφ]
  have uu := And.intro @headRG.eq_1 (And.intro @headRG.eq_2 (And.intro @headD.eq_1 (And.intro hH (And.intro @tabBer3R_r (And.intro @tabBer3R_k (@tabBer3R_q77))))))
  refine WI.seq ?_
  refine WI.regB tabBer3R_ok [0, 2] ?_
  refine oG ?_
  iterate 2 refine oS ?_
  refine oN ?_
  refine thenQ_normal ?_
  refine WI.seq ?_
  refine WI.regB tabBer3R_ok [0, 2, 5, 6, 7, 8] ?_
  refine oS ?_
  refine oC ?_
  refine oS ?_
  iterate 4 refine oG ?_
  iterate 4 refine oS ?_
  refine oN ?_
  refine thenQ_normal ?_
  refine WI.seq ?_
  refine WI.block ?_
  refine WI.seq ?_
  refine WI.regB tabBer3R_ok [0, 2, 5, 6, 7, 8, 16] ?_
  refine oS ?_
  refine oG ?_
  refine oS ?_
  refine oN ?_
  refine thenQ_normal ?_
  refine WI.cond (b := _) rfl rfl (fun h0 => ?_) (fun h0 => ?_)
  · try simp only [zB] at h0
    refine WI.seq ?_
    refine WI.regB tabBer3R_ok [2, 3, 4] ?_
    refine oG ?_
    refine oS ?_
    refine oG ?_
    iterate 2 refine oS ?_
    refine oN ?_
    refine thenQ_normal ?_
    refine WI.ret ?_
    refine blockQ_ret ?_
    refine thenQ_ret ?_
    first | refine lfR ?_ | refine lfR2 ?_
    simp [readD, readB, hH, h0] -- leaf 0
  · try simp only [zB] at h0
    refine WI.seq ?_
    refine WI.regB tabBer3R_ok [0, 2, 5, 6, 7, 21] ?_
    refine oS ?_
    refine oG ?_
    refine oS ?_
    refine oG ?_
    refine oS ?_
    refine oG ?_
    refine oS ?_
    refine oN ?_
    refine thenQ_normal ?_
    refine WI.cond (b := _) rfl rfl (fun h1 => ?_) (fun h1 => ?_)
    · try simp only [zB] at h1
      refine WI.seq ?_
      refine WI.regB tabBer3R_ok [2, 3, 4] ?_
      iterate 2 refine oG ?_
      iterate 2 refine oS ?_
      refine oN ?_
      refine thenQ_normal ?_
      refine WI.ret ?_
      refine blockQ_ret ?_
      refine thenQ_ret ?_
      first | refine lfR ?_ | refine lfR2 ?_
      obtain rfl := h0
      have h2 : s.length - k < n := by have := hk rfl; omega
      simp [readD, readB, hH, h2] -- leaf 1
    · try simp only [zB] at h1
      refine WI.skip ?_
      refine blockQ_normal ?_
      refine thenQ_normal ?_
      refine WI.seq ?_
      refine WI.regB tabBer3R_ok [2, 3, 4] ?_
      iterate 5 refine oS ?_
      iterate 3 refine oG ?_
      iterate 2 refine oS ?_
      iterate 2 refine oG ?_
      iterate 2 refine oS ?_
      refine oN ?_
      refine thenQ_normal ?_
      refine WI.ret ?_
      first | refine lfR ?_ | refine lfR2 ?_
      obtain rfl := h0
      have h2 : ¬ s.length - k < n := by omega
      have h3 : ((k : Int) + (n : Int)).toNat = k + n := by omega
      simp [readD, readB, hH, h2, h3] -- leaf 2
def readG : List D → Option (Bool × D)
  | [.x (.str s)] => some (decide (s.length ≤ 9223372036854775807), readD s)
  | _ => none
theorem readG_ok : ∀ args r, readG args = some (true, r) → PCalls Try.prog 45 args r := by
  intro args r h
  unfold readG at h
  split at h
  · rename_i s
    simp only [Option.some.injEq, Prod.mk.injEq, Bool.and_eq_true, decide_eq_true_eq, true_and] at h
    obtain ⟨h1, rfl⟩ := h
    exact read_c s h1
  · cases h
def readRG : List D → Option (Bool × D)
  | [.x (.str s)] => some (decide (s.length ≤ 9223372036854775807), readD s)
  | _ => none
theorem readRG_ok : ∀ args r, readRG args = some (true, r) → PCalls Try.prog 48 args r := by
  intro args r h
  unfold readRG at h
  split at h
  · rename_i s
    simp only [Option.some.injEq, Prod.mk.injEq, Bool.and_eq_true, decide_eq_true_eq, true_and] at h
    obtain ⟨h1, rfl⟩ := h
    exact readR_c s h1
  · cases h
def tabBer4 : Tabs := addQ (noTabs) 45 readG
theorem tabBer4_ok : SsOk Try.prog tabBer4 := addQ_ok (noTabs_ok) (G_enters G_ok (p := i45) rfl) readG_ok
theorem tabBer4_q45 (a : List D) : tabBer4.q 45 a = readG a := rfl
theorem tabBer4_r (f : FuncId) (a : List D) (o : List Ob) : tabBer4.r f a o = none := rfl
theorem tabBer4_k (f : FuncId) (a : List D) (o : List Ob) : tabBer4.k f a o = none := rfl
def tabBer4R : Tabs := addQ (noTabs) 48 readRG
theorem tabBer4R_ok : SsOk Try.prog tabBer4R := addQ_ok (noTabs_ok) (G_enters G_ok (p := i48) rfl) readRG_ok
theorem tabBer4R_q48 (a : List D) : tabBer4R.q 48 a = readRG a := rfl
theorem tabBer4R_r (f : FuncId) (a : List D) (o : List Ob) : tabBer4R.r f a o = none := rfl
theorem tabBer4R_k (f : FuncId) (a : List D) (o : List Ob) : tabBer4R.k f a o = none := rfl

theorem un_tlv (l : List Tlv) : unrows rTlv (rows rTlv l) = some l := unrows_rows good_rTlv l
theorem rows_tlv (l : List Tlv) (x : Tlv) : rows rTlv l ++ [[X.int .i64 x.1, X.str x.2.1]] = rows rTlv (l ++ [x]) := rows_app rTlv l [x]
/-- All that stand one behind the other (k: no fewer than the bytes). -/
def allF : Nat → List UInt8 → List Tlv → List Tlv × Int
  | 0, _, out => (out, 0)
  | k + 1, s, out => if s = [] then (out, 0) else if (readB s).2.2 = 0 then if out.length = 1024 then ([], 3) else allF k (s.drop (readB s).2.1) (out ++ [(readB s).1]) else ([], (readB s).2.2)
def allB (s : List UInt8) : List Tlv × Int := allF s.length s []
theorem readB_ok (s : List UInt8) (h : (readB s).2.2 = 0) : 2 ≤ (readB s).2.1 ∧ (readB s).2.1 ≤ s.length := by
  unfold readB at h ⊢
  split at h
  · rename_i h0
    have hk := headB_ok s h0
    split at h
    · cases h
    · rename_i h1
      rw [if_pos h0, if_neg h1]
      simp only
      omega
  · rename_i h0
    exact absurd h h0
theorem allF_step (k : Nat) (s : List UInt8) (out : List Tlv) (hs : s ≠ []) (hk : s.length ≤ k) (h0 : (readB s).2.2 = 0) (h1 : out.length ≠ 1024) : allF k s out = allF (k - 1) (s.drop (readB s).2.1) (out ++ [(readB s).1]) := by
  cases k with
  | zero => cases s with
    | nil => exact absurd rfl hs
    | cons a b => simp at hk
  | succ k => simp [allF, hs, h0, h1]
theorem allF_err (k : Nat) (s : List UInt8) (out : List Tlv) (hs : s ≠ []) (hk : s.length ≤ k) (h0 : (readB s).2.2 ≠ 0) : allF k s out = ([], (readB s).2.2) := by
  cases k with
  | zero => cases s with
    | nil => exact absurd rfl hs
    | cons a b => simp at hk
  | succ k => simp [allF, hs, h0]
theorem allF_long (k : Nat) (s : List UInt8) (out : List Tlv) (hs : s ≠ []) (hk : s.length ≤ k) (h0 : (readB s).2.2 = 0) (h1 : out.length = 1024) : allF k s out = ([], 3) := by
  cases k with
  | zero => cases s with
    | nil => exact absurd rfl hs
    | cons a b => simp at hk
  | succ k => simp [allF, hs, h0, h1]
theorem allF_nil (k : Nat) (out : List Tlv) : allF k [] out = (out, 0) := by cases k <;> simp [allF]
theorem all_c (s : List UInt8) (hs : s.length ≤ 9223372036854775807) : PCalls Try.prog 46 [.x (.str s)] (.tup [.x (.sl (rows rTlv (allB s).1)), .x (.int .i64 (allB s).2)]) := by
  refine FCalls.pure (fcallsG (fz := true) G_ok (p := i46) rfl _ (Nat.le_of_ble_eq_true rfl) _ (fun C0 E0 => ?_)) rfl
  dsimp only [i46, argsφ]
  have uu := And.intro @readG.eq_1 (And.intro @readG.eq_2 (And.intro @readD.eq_1 (And.intro @tabBer4_r (And.intro @tabBer4_k (@tabBer4_q45)))))
  refine WI.seq ?_
  refine WI.regB tabBer4_ok [0] ?_
  iterate 2 refine oS ?_
  refine oN ?_
  refine thenQ_normal ?_
  refine WI.seq ?_
  refine WI.regB tabBer4_ok [0, 4] ?_
  refine oS ?_
  refine oN ?_
  refine thenQ_normal ?_
  refine WI.seq ?_
  refine WI.block ?_
  refine WI.own 4 96 2 rfl ?_
  simp only [put, Nat.reduceEqDiff, ↓reduceIte, List.length_nil, List.nil_append]
  refine WI.loop (fun φ os => ∃ (k : Nat) (q : List UInt8) (out : List Tlv), φ = [(0, .x (.str q)), (4, .ref 0 out.length 0 out.length)] ∧ os = [.rows false 96 2 (rows rTlv out)] ∧ q.length ≤ k ∧ q.length ≤ 9223372036854775807 ∧ out.length ≤ 1024 ∧ allF k q out = allB s) (strL 0) ?_ (fun φ os hI => ?_)
  · exact ⟨s.length, s, [], rfl, rfl, by omega, hs, by simp, rfl⟩
  · obtain ⟨k, q, out, rfl, rfl, hk, hq, ho, he⟩ := hI
    refine WI.seq ?_
    refine WI.seq ?_
    refine WI.regB tabBer4_ok [0, 4, 9] ?_
    refine oS ?_
    refine oG ?_
    refine oN ?_
    refine thenQ_normal ?_
    refine WI.cond (b := _) rfl rfl (fun h0 => ?_) (fun h0 => ?_)
    · try simp only [zB] at h0
      refine WI.skip ?_
      refine thenQ_normal ?_
      refine WI.block ?_
      refine WI.seq ?_
      refine WI.regB tabBer4_ok [0, 4, 5, 6, 7] ?_
      refine oS ?_
      refine oC ?_
      refine oS ?_
      iterate 5 refine oG ?_
      iterate 2 refine oS ?_
      refine oN ?_
      refine thenQ_normal ?_
      refine WI.seq ?_
      refine WI.block ?_
      refine WI.seq ?_
      refine WI.regB tabBer4_ok [0, 4, 5, 6, 7, 16] ?_
      refine oS ?_
      refine oG ?_
      refine oS ?_
      refine oN ?_
      refine thenQ_normal ?_
      refine WI.cond (b := _) rfl rfl (fun h1 => ?_) (fun h1 => ?_)
      · try simp only [zB] at h1
        refine WI.seq ?_
        refine WI.regB tabBer4_ok [2, 3] ?_
        iterate 3 refine oS ?_
        refine oN ?_
        refine thenQ_normal ?_
        refine WI.nn ?_
        simp only [zV, frzL, nrmφ, nrmO, onF, D.vw, vwL, D.on, D.inP, inL, memB, D.ren, renL, inv, fpO, Ob.mp, Ob.ren, D.nn, nnφ, Nat.reduceBEq, Nat.reduceEqDiff, Nat.reduceAdd, ↓reduceIte]
        refine WI.ret ?_
        refine blockQ_ret ?_
        refine thenQ_ret ?_
        refine blockQ_ret ?_
        refine thenQ_ret ?_
        refine blockQ_ret ?_
        refine thenQ_ret ?_
        first | refine lfR ?_ | refine lfR2 ?_
        rw [← he, allF_err k q out h0 hk h1]; rfl -- leaf 0
      · try simp only [zB] at h1
        refine WI.seq ?_
        refine WI.regB tabBer4_ok [0, 4, 5, 6, 20] ?_
        refine oS ?_
        iterate 2 refine oG ?_
        refine oS ?_
        refine oN ?_
        refine thenQ_normal ?_
        refine WI.cond (b := _) rfl rfl (fun h2 => ?_) (fun h2 => ?_)
        · try simp only [zB] at h2
          refine WI.seq ?_
          refine WI.regB tabBer4_ok [2, 3] ?_
          iterate 2 refine oS ?_
          refine oN ?_
          refine thenQ_normal ?_
          refine WI.nn ?_
          simp only [zV, frzL, nrmφ, nrmO, onF, D.vw, vwL, D.on, D.inP, inL, memB, D.ren, renL, inv, fpO, Ob.mp, Ob.ren, D.nn, nnφ, Nat.reduceBEq, Nat.reduceEqDiff, Nat.reduceAdd, ↓reduceIte]
          refine WI.ret ?_
          refine blockQ_ret ?_
          refine thenQ_ret ?_
          refine blockQ_ret ?_
          refine thenQ_ret ?_
          refine blockQ_ret ?_
          refine thenQ_ret ?_
          first | refine lfR ?_ | refine lfR2 ?_
          rw [← he, allF_long k q out h0 hk h1 (by omega)]; rfl -- leaf 1
        · try simp only [zB] at h2
          refine WI.skip ?_
          refine blockQ_normal ?_
          refine thenQ_normal ?_
          refine WI.seq ?_
          refine WI.regB tabBer4_ok [0, 4, 6] ?_
          refine oS ?_
          iterate 3 refine oG ?_
          refine oS ?_
          refine oN ?_
          refine thenQ_normal ?_
          have hr := readB_ok q h1
          refine WI.pick [0] rfl ?_
          simp (disch := decide) only [zV, frzL, nrmφ, nrmO, onF, D.vw, vwL, D.on, D.inP, inL, memB, D.ren, renL, inv, fpO, Ob.mp, Ob.ren, D.nn, nnφ, Nat.reduceBEq, Nat.reduceEqDiff, Nat.reduceAdd, ↓reduceIte]
          refine WI.regB tabBer4_ok [0, 4] ?_
          iterate 2 refine oS ?_
          refine oG ?_
          refine oS ?_
          refine oN ?_
          refine blockQ_normal ?_
          refine thenQ_normal ?_
          exact ⟨⟨k - 1, q.drop (readB q).2.1, out ++ [(readB q).1], by simp, by rw [← rows_tlv], by rw [List.length_drop]; omega, by rw [List.length_drop]; omega, by simp; omega, by rw [← he, allF_step k q out h0 hk h1 (by omega)]⟩, by simp [strL, Ab.get, D.val]; have := List.length_pos_iff.2 h0; omega⟩
    · try simp only [zB] at h0
      refine WI.exit ?_
      refine thenQ_exit ?_
      refine thenQ_exit ?_
      refine blockQ_hit ?_
      refine thenQ_normal ?_
      refine WI.seq ?_
      refine WI.regB tabBer4_ok [2, 3] ?_
      iterate 3 refine oS ?_
      refine oN ?_
      refine thenQ_normal ?_
      refine WI.ret ?_
      first | refine lfR ?_ | refine lfR2 ?_
      subst h0; rw [← he, allF_nil] -- leaf 2
theorem allR_c (s : List UInt8) (hs : s.length ≤ 9223372036854775807) : PCalls Try.prog 49 [.x (.str s)] (.tup [.x (.sl (rows rTlv (allB s).1)), .x (.int .i64 (allB s).2)]) := by
  refine FCalls.pure (fcallsG (fz := true) G_ok (p := i49) rfl _ (Nat.le_of_ble_eq_true rfl) _ (fun C0 E0 => ?_)) rfl
  dsimp only [i49, argsφ]
  have uu := And.intro @readRG.eq_1 (And.intro @readRG.eq_2 (And.intro @readD.eq_1 (And.intro @tabBer4R_r (And.intro @tabBer4R_k (@tabBer4R_q48)))))
  refine WI.seq ?_
  refine WI.regB tabBer4R_ok [0] ?_
  iterate 2 refine oS ?_
  refine oN ?_
  refine thenQ_normal ?_
  refine WI.seq ?_
  refine WI.regB tabBer4R_ok [0, 4] ?_
  refine oS ?_
  refine oN ?_
  refine thenQ_normal ?_
  refine WI.seq ?_
  refine WI.block ?_
  refine WI.own 4 96 2 rfl ?_
  simp only [put, Nat.reduceEqDiff, ↓reduceIte, List.length_nil, List.nil_append]
  refine WI.loop (fun φ os => ∃ (k : Nat) (q : List UInt8) (out : List Tlv), φ = [(0, .x (.str q)), (4, .ref 0 out.length 0 out.length)] ∧ os = [.rows false 96 2 (rows rTlv out)] ∧ q.length ≤ k ∧ q.length ≤ 9223372036854775807 ∧ out.length ≤ 1024 ∧ allF k q out = allB s) (strL 0) ?_ (fun φ os hI => ?_)
  · exact ⟨s.length, s, [], rfl, rfl, by omega, hs, by simp, rfl⟩
  · obtain ⟨k, q, out, rfl, rfl, hk, hq, ho, he⟩ := hI
    refine WI.seq ?_
    refine WI.seq ?_
    refine WI.regB tabBer4R_ok [0, 4, 9] ?_
    refine oS ?_
    refine oG ?_
    refine oN ?_
    refine thenQ_normal ?_
    refine WI.cond (b := _) rfl rfl (fun h0 => ?_) (fun h0 => ?_)
    · try simp only [zB] at h0
      refine WI.skip ?_
      refine thenQ_normal ?_
      refine WI.block ?_
      refine WI.seq ?_
      refine WI.regB tabBer4R_ok [0, 4, 5, 6, 7] ?_
      refine oS ?_
      refine oC ?_
      refine oS ?_
      iterate 5 refine oG ?_
      iterate 2 refine oS ?_
      refine oN ?_
      refine thenQ_normal ?_
      refine WI.seq ?_
      refine WI.seq ?_
      refine WI.regB tabBer4R_ok [0, 4, 5, 6, 7, 17] ?_
      refine oS ?_
      refine oG ?_
      refine oN ?_
      refine thenQ_normal ?_
      refine WI.cond (b := _) rfl rfl (fun h1 => ?_) (fun h1 => ?_)
      · try simp only [zB] at h1
        refine WI.seq ?_
        refine WI.regB tabBer4R_ok [2, 3] ?_
        iterate 3 refine oS ?_
        refine oN ?_
        refine thenQ_normal ?_
        refine WI.nn ?_
        simp only [zV, frzL, nrmφ, nrmO, onF, D.vw, vwL, D.on, D.inP, inL, memB, D.ren, renL, inv, fpO, Ob.mp, Ob.ren, D.nn, nnφ, Nat.reduceBEq, Nat.reduceEqDiff, Nat.reduceAdd, ↓reduceIte]
        refine WI.ret ?_
        refine thenQ_ret ?_
        refine blockQ_ret ?_
        refine thenQ_ret ?_
        refine blockQ_ret ?_
        refine thenQ_ret ?_
        first | refine lfR ?_ | refine lfR2 ?_
        rw [← he, allF_err k q out h0 hk h1]; rfl -- leaf 0
      · try simp only [zB] at h1
        refine WI.skip ?_
        refine thenQ_normal ?_
        refine WI.seq ?_
        refine WI.seq ?_
        refine WI.regB tabBer4R_ok [0, 4, 5, 6, 21] ?_
        refine oS ?_
        iterate 2 refine oG ?_
        refine oN ?_
        refine thenQ_normal ?_
        refine WI.cond (b := _) rfl rfl (fun h2 => ?_) (fun h2 => ?_)
        · try simp only [zB] at h2
          refine WI.seq ?_
          refine WI.regB tabBer4R_ok [2, 3] ?_
          iterate 2 refine oS ?_
          refine oN ?_
          refine thenQ_normal ?_
          refine WI.nn ?_
          simp only [zV, frzL, nrmφ, nrmO, onF, D.vw, vwL, D.on, D.inP, inL, memB, D.ren, renL, inv, fpO, Ob.mp, Ob.ren, D.nn, nnφ, Nat.reduceBEq, Nat.reduceEqDiff, Nat.reduceAdd, ↓reduceIte]
          refine WI.ret ?_
          refine thenQ_ret ?_
          refine blockQ_ret ?_
          refine thenQ_ret ?_
          refine blockQ_ret ?_
          refine thenQ_ret ?_
          first | refine lfR ?_ | refine lfR2 ?_
          rw [← he, allF_long k q out h0 hk h1 (by omega)]; rfl -- leaf 1
        · try simp only [zB] at h2
          refine WI.skip ?_
          refine thenQ_normal ?_
          refine WI.seq ?_
          refine WI.regB tabBer4R_ok [0, 4, 6] ?_
          refine oS ?_
          iterate 3 refine oG ?_
          refine oS ?_
          refine oN ?_
          refine thenQ_normal ?_
          have hr := readB_ok q h1
          refine WI.pick [0] rfl ?_
          simp (disch := decide) only [zV, frzL, nrmφ, nrmO, onF, D.vw, vwL, D.on, D.inP, inL, memB, D.ren, renL, inv, fpO, Ob.mp, Ob.ren, D.nn, nnφ, Nat.reduceBEq, Nat.reduceEqDiff, Nat.reduceAdd, ↓reduceIte]
          refine WI.regB tabBer4R_ok [0, 4] ?_
          iterate 2 refine oS ?_
          refine oG ?_
          refine oS ?_
          refine oN ?_
          refine blockQ_normal ?_
          refine thenQ_normal ?_
          exact ⟨⟨k - 1, q.drop (readB q).2.1, out ++ [(readB q).1], by simp, by rw [← rows_tlv], by rw [List.length_drop]; omega, by rw [List.length_drop]; omega, by simp; omega, by rw [← he, allF_step k q out h0 hk h1 (by omega)]⟩, by simp [strL, Ab.get, D.val]; have := List.length_pos_iff.2 h0; omega⟩
    · try simp only [zB] at h0
      refine WI.exit ?_
      refine thenQ_exit ?_
      refine thenQ_exit ?_
      refine blockQ_hit ?_
      refine thenQ_normal ?_
      refine WI.seq ?_
      refine WI.regB tabBer4R_ok [2, 3] ?_
      iterate 3 refine oS ?_
      refine oN ?_
      refine thenQ_normal ?_
      refine WI.ret ?_
      first | refine lfR ?_ | refine lfR2 ?_
      subst h0; rw [← he, allF_nil] -- leaf 2
def allG : List D → Option (Bool × D)
  | [.x (.str s)] => some (decide (s.length ≤ 9223372036854775807), .tup [.x (.sl (rows rTlv (allB s).1)), .x (.int .i64 (allB s).2)])
  | _ => none
theorem allG_ok : ∀ args r, allG args = some (true, r) → PCalls Try.prog 46 args r := by
  intro args r h
  unfold allG at h
  split at h
  · rename_i s
    simp only [Option.some.injEq, Prod.mk.injEq, Bool.and_eq_true, decide_eq_true_eq, true_and] at h
    obtain ⟨h1, rfl⟩ := h
    exact all_c s h1
  · cases h
def allRG : List D → Option (Bool × D)
  | [.x (.str s)] => some (decide (s.length ≤ 9223372036854775807), .tup [.x (.sl (rows rTlv (allB s).1)), .x (.int .i64 (allB s).2)])
  | _ => none
theorem allRG_ok : ∀ args r, allRG args = some (true, r) → PCalls Try.prog 49 args r := by
  intro args r h
  unfold allRG at h
  split at h
  · rename_i s
    simp only [Option.some.injEq, Prod.mk.injEq, Bool.and_eq_true, decide_eq_true_eq, true_and] at h
    obtain ⟨h1, rfl⟩ := h
    exact allR_c s h1
  · cases h
theorem take_ext {α : Type} {a b : List α} {j : Nat} (h : a.take j = b.take j) (ha : j < a.length) (hb : j < b.length) (he : a[j] = b[j]) : a.take (j + 1) = b.take (j + 1) := by
  rw [← List.take_append_getElem ha, ← List.take_append_getElem hb, h, he]
theorem tlv_ext {x y : Tlv} (h : x.1 = y.1 ∧ x.2.1 = y.2.1) : x = y := Prod.ext h.1 (Prod.ext h.2 rfl)
end Go.Proofs.Ytcffpndhodhncaa
end
section
/- Ber: what is put is read, and the other way round. -/
set_option linter.unusedSimpArgs false
set_option linter.unusedVariables false
namespace Go.Proofs.Ytcffpndhodhncaa
open Go.RowKit Go.Bo Go.Ab

theorem valB_be (n : Nat) : valB (be n) = n := by
  induction n using Nat.strongRecOn with
  | _ n ih =>
    by_cases h : n = 0
    · subst h; rw [be_zero]; rfl
    · rw [be_pos n (by omega), valB_snoc, ih (n / 256) (by omega)]
      simp; omega
theorem be_mono (m : Nat) : ∀ n, n ≤ m → (be n).length ≤ (be m).length := by
  induction m using Nat.strongRecOn with
  | _ m ih =>
    intro n hn
    by_cases h : n = 0
    · subst h; rw [be_zero]; exact Nat.zero_le _
    · rw [be_pos n (by omega), be_pos m (by omega), List.length_append, List.length_append]
      have := ih (m / 256) (by omega) (n / 256) (by omega)
      simp only [List.length_cons, List.length_nil]; omega
theorem be_one (n : Nat) (h : 0 < n) : 0 < (be n).length := by rw [be_pos n h]; simp
theorem lenB_mono (n m : Nat) (h : n ≤ m) : (lenB n).length ≤ (lenB m).length := by
  unfold lenB
  have := be_mono m n h
  split
  · split
    · simp
    · simp
  · rw [if_neg (by omega)]; simp; omega
theorem u8_nat (n : Nat) (h : n < 256) : (UInt8.ofNat n).toNat = n := by simp; omega
theorem read_put (t : Int) (s more : List UInt8) (h : (putB t s).2 = 0) : readB ((putB t s).1 ++ more) = ((t, s, ()), (putB t s).1.length, 0) := by
  unfold putB at h ⊢
  split at h
  · rename_i h1
    split at h
    · rename_i h2
      rw [if_pos h1, if_pos h2]
      obtain ⟨n, rfl, hn⟩ := tagB_nat h1
      have ht : (UInt8.ofNat n).toNat = n := u8_nat n (by omega)
      simp only [Int.toNat_natCast, List.cons_append, List.length_cons, List.length_append]
      by_cases h3 : s.length < 128
      · have e : lenB s.length = [UInt8.ofNat s.length] := by unfold lenB; rw [if_pos h3]
        have hH : headB (UInt8.ofNat n :: (lenB s.length ++ s ++ more)) = (n, s.length, 2, 0) := by
          rw [e]
          simp only [List.cons_append, List.nil_append, headB]
          rw [ht, u8_nat _ (by omega), if_pos h1, if_pos h3]
        unfold readB
        rw [hH]
        simp only [List.length_cons, List.length_append, e, List.length_nil, if_true, List.cons_append, List.nil_append]
        rw [if_neg (by omega)]
        rw [show 2 + s.length = s.length + 1 + 1 by omega, List.take_succ_cons, List.take_succ_cons, List.drop_succ_cons, List.drop_succ_cons, List.drop_zero, List.take_left]
        simp only [Prod.mk.injEq, true_and, and_true]; omega
      · have e : lenB s.length = UInt8.ofNat (128 + (be s.length).length) :: be s.length := by unfold lenB; rw [if_neg h3]
        have hb4 := be_len 3 s.length (by omega)
        have hb0 := be_one s.length (by omega)
        have hc := u8_nat (128 + (be s.length).length) (by omega)
        have hL : longB (UInt8.ofNat (128 + (be s.length).length)) (be s.length ++ (s ++ more)) = (s.length, 1 + (be s.length).length, 0) := by
          have e2 : (be s.length ++ (s ++ more)).take (be s.length).length = be s.length := List.take_left
          have := longB_0 (c := UInt8.ofNat (128 + (be s.length).length)) (r := be s.length ++ (s ++ more)) (m := (be s.length).length) (by omega) (by omega) (by simp) (by rw [e2, valB_be, e]) (by rw [e2, valB_be]; omega)
          rw [this, e2, valB_be]
        have hH : headB (UInt8.ofNat n :: (lenB s.length ++ s ++ more)) = (n, s.length, 1 + (1 + (be s.length).length), 0) := by
          rw [e]
          simp only [List.cons_append, List.append_assoc, headB]
          rw [ht, if_pos h1, if_neg (by omega), hL]
          simp only [if_true]
        unfold readB
        rw [hH]
        simp only [List.length_cons, List.length_append, e, if_true, List.cons_append]
        rw [if_neg (by omega)]
        rw [show 1 + (1 + (be s.length).length) + s.length = ((be s.length).length + s.length) + 1 + 1 by omega, List.take_succ_cons, List.take_succ_cons, show 1 + (1 + (be s.length).length) = (be s.length).length + 1 + 1 by omega, List.drop_succ_cons, List.drop_succ_cons]
        have e3 : (be s.length ++ s ++ more).take ((be s.length).length + s.length) = be s.length ++ s := by rw [← List.length_append, List.take_left]
        rw [e3, List.drop_left]
        simp only [Prod.mk.injEq, true_and, and_true]; omega
    · cases h
  · cases h
theorem u8_of (c : UInt8) : UInt8.ofNat c.toNat = c := by simp
theorem put_read (m : List UInt8) (h : (readB m).2.2 = 0) : putB (readB m).1.1 (readB m).1.2.1 = (m.take (readB m).2.1, 0) := by
  have h' := h
  unfold readB at h
  split at h
  · rename_i h0
    split at h
    · cases h
    · rename_i h1
      have hk := headB_ok m h0
      have e : readB m = ((((headB m).1 : Int), (m.take ((headB m).2.2.1 + (headB m).2.1)).drop (headB m).2.2.1, ()), (headB m).2.2.1 + (headB m).2.1, 0) := by unfold readB; rw [if_pos h0, if_neg h1]
      rw [e]
      clear e h h'
      simp only
      have hbl : ((m.take ((headB m).2.2.1 + (headB m).2.1)).drop (headB m).2.2.1).length = (headB m).2.1 := by
        rw [List.length_drop, List.length_take]; omega
      unfold putB
      rw [if_pos hk.1, if_pos (by rw [hbl]; exact hk.2.1), hbl]
      -- the head's bytes
      have key : UInt8.ofNat (headB m).1 :: lenB (headB m).2.1 = m.take (headB m).2.2.1 := by
        clear hbl hk h1
        match m, h0 with
        | [], h => simp [headB] at h
        | [t], h =>
          exfalso
          simp only [headB] at h
          split at h <;> simp at h
        | t :: c :: r, h =>
          simp only [headB] at h ⊢
          by_cases h1 : tagB (t.toNat : Int) = true
          · rw [if_pos h1] at h ⊢
            by_cases h2 : c.toNat < 128
            · rw [if_pos h2] at h ⊢
              simp only
              rw [u8_of]
              unfold lenB
              rw [if_pos h2, u8_of]
              rfl
            · rw [if_neg h2] at h ⊢
              by_cases h3 : (longB c r).2.2 = 0
              · rw [if_pos h3] at h ⊢
                obtain ⟨k1, k2, k3, k4, k5, k6⟩ := longB_ok c r h3
                rw [k2]
                simp only
                rw [u8_of, k5, show 1 + (1 + (c.toNat - 128)) = (c.toNat - 128) + 1 + 1 by omega]
                rfl
              · rw [if_neg h3] at h; simp at h; exact absurd h h3
          · rw [if_neg h1] at h; simp at h
      have e5 : ((headB m).1 : Int).toNat = (headB m).1 := rfl
      rw [e5, ← List.cons_append, key]
      have : m.take (headB m).2.2.1 = (m.take ((headB m).2.2.1 + (headB m).2.1)).take (headB m).2.2.1 := by rw [List.take_take, Nat.min_eq_left (by omega)]
      rw [this, List.take_append_drop]
  · rename_i h0
    exact absurd h h0
theorem put_len (t : Int) (s : List UInt8) (h : (putB t s).2 = 0) : (putB t s).1.length = 1 + (lenB s.length).length + s.length := by
  unfold putB at h ⊢
  split at h
  · rename_i h1
    split at h
    · rename_i h2
      rw [if_pos h1, if_pos h2]
      simp; omega
    · cases h
  · cases h
theorem lenB_lo (n : Nat) : 1 ≤ (lenB n).length := by unfold lenB; split <;> simp
theorem lenB_hi (n : Nat) (h : n ≤ 3000) : (lenB n).length ≤ 3 := by
  have := be_len 2 n (by omega)
  unfold lenB
  split <;> simp <;> omega

theorem put_code (t : Int) (s : List UInt8) (h : s.length ≤ 65536) : (putB t s).2 = if tagB t = true then 0 else 6 := by
  unfold putB
  by_cases ht : tagB t = true
  · rw [if_pos ht, if_pos h, if_pos ht]
  · rw [if_neg ht, if_neg ht]
theorem put_le (t : Int) (s : List UInt8) (h : s.length ≤ 3000) : (putB t s).1.length ≤ s.length + 4 := by
  have h1 := lenB_hi s.length h
  unfold putB
  split
  · rw [if_pos (by omega)]; simp; omega
  · simp
theorem headB_app : ∀ (T y : List UInt8), (headB T).2.2.2 ≠ 4 → headB (T ++ y) = headB T
  | [], y, h => by simp [headB] at h
  | [t], y, h => by
    by_cases ht : tagB (t.toNat : Int) = true
    · simp [headB, ht] at h
    · cases y <;> simp [headB, ht]
  | t :: c :: r, y, h => by
    simp only [List.cons_append]
    have hl : (longB c r).2.2 ≠ 4 → longB c (r ++ y) = longB c r := by
      unfold longB
      simp only
      by_cases h1 : c.toNat - 128 = 0 ∨ 4 < c.toNat - 128
      · rw [if_pos h1, if_pos h1]; exact fun _ => rfl
      · rw [if_neg h1, if_neg h1]
        by_cases h2 : r.length < c.toNat - 128
        · rw [if_pos h2]; intro h; simp at h
        · have hr : ¬ (r ++ y).length < c.toNat - 128 := by rw [List.length_append]; omega
          rw [if_neg h2, if_neg hr, List.take_append_of_le_length (Nat.not_lt.1 h2)]; exact fun _ => rfl
    by_cases ht : tagB (t.toNat : Int) = true
    · by_cases hc : c.toNat < 128
      · simp [headB, ht, hc]
      · simp only [headB, if_pos ht, if_neg hc] at h ⊢
        by_cases h0 : (longB c r).2.2 = 0
        · rw [hl (by rw [h0]; decide), if_pos h0]
        · rw [if_neg h0] at h
          simp only at h
          rw [hl h]
    · simp [headB, ht]
theorem readB_app (T y : List UInt8) (h : (readB T).2.2 = 0) : readB (T ++ y) = readB T := by
  have hr := readB_ok T h
  unfold readB at h hr ⊢
  split at h
  · rename_i h0
    rw [if_pos h0] at hr
    have hk := headB_ok T h0
    rw [headB_app T y (by rw [h0]; decide), if_pos h0, if_pos h0]
    split at h
    · simp at h
    · rename_i h1
      rw [if_neg h1] at hr
      simp only at hr
      rw [if_neg h1, if_neg (by simp; omega), List.take_append_of_le_length (by omega)]
  · rename_i h0; exact absurd h h0
end Go.Proofs.Ytcffpndhodhncaa
end
section
/- Tree: Check, Depth. -/
set_option linter.unusedSimpArgs false
set_option linter.unusedVariables false
namespace Go.Proofs.Ytcffpndhodhncaa
open Go.RowKit Go.Bo Go.Ab

theorem and32N : ∀ n : Fin 255, IntKind.i64.wrap ((BitVec.ofInt IntKind.i64.bits (n.val : Int) &&& BitVec.ofInt IntKind.i64.bits 32).toNat : Int) = if n.val / 32 % 2 = 0 then 0 else 32 := by decide +kernel
theorem and32 (t : Int) (h : 0 ≤ t ∧ t ≤ 254) : IntKind.i64.wrap ((BitVec.ofInt IntKind.i64.bits t &&& BitVec.ofInt IntKind.i64.bits 32).toNat : Int) = if t / 32 % 2 = 0 then 0 else 32 := by
  obtain ⟨n, rfl⟩ : ∃ n : Nat, t = n := ⟨t.toNat, by omega⟩
  rw [and32N ⟨n, by omega⟩]
  simp only
  split <;> split <;> omega
def p32 (t : Int) : Int := if t / 32 % 2 = 0 then 0 else 32
theorem p32_iff (t : Int) : p32 t = 0 ↔ t / 32 % 2 = 0 := by unfold p32; split <;> simp_all
/-- The first error. -/
def fst0 : List Int → Int
  | [] => 0
  | a :: r => if a = 0 then fst0 r else a
/-- Why what is told may not be, no deeper than m. -/
def chk : Nat → Tlv → Int
  | 0, _ => 7
  | m + 1, x => if x.1 / 32 % 2 = 0 then 0 else if (allB x.2.1).2 = 0 then fst0 ((allB x.2.1).1.map (chk m)) else (allB x.2.1).2
def okT (x : Tlv) : Prop := 0 ≤ x.1 ∧ x.1 ≤ 254 ∧ x.2.1.length ≤ 65536
theorem readB_okT (s : List UInt8) (h : (readB s).2.2 = 0) : okT (readB s).1 ∧ tagB (readB s).1.1 = true ∧ (readB s).1.2.1.length + 2 ≤ s.length := by
  unfold readB at h ⊢
  split at h
  · rename_i h0
    have hk := headB_ok s h0
    split at h
    · cases h
    · rename_i h1
      rw [if_pos h0, if_neg h1]
      obtain ⟨n, hn, hn2⟩ := tagB_nat hk.1
      refine ⟨⟨?_, ?_, ?_⟩, hk.1, ?_⟩ <;> simp only [List.length_drop, List.length_take] <;> omega
  · rename_i h0
    exact absurd h h0
theorem allF_okT : ∀ (k : Nat) (s : List UInt8) (out : List Tlv), (∀ x ∈ out, okT x ∧ tagB x.1 = true) → out.length ≤ 1024 → (allF k s out).1.length ≤ 1024 ∧ ∀ x ∈ (allF k s out).1, okT x ∧ tagB x.1 = true
  | 0, s, out, h, hl => ⟨hl, h⟩
  | k + 1, s, out, h, hl => by
    rw [allF]
    split
    · exact ⟨hl, h⟩
    · split
      · rename_i h0
        split
        · exact ⟨by simp, by simp⟩
        · refine allF_okT k _ _ ?_ (by simp; omega)
          intro x hx
          rcases List.mem_append.1 hx with hx | hx
          · exact h x hx
          · simp only [List.mem_singleton] at hx
            subst hx
            exact ⟨(readB_okT s h0).1, (readB_okT s h0).2.1⟩
      · exact ⟨by simp, by simp⟩
theorem allB_okT (s : List UInt8) : (allB s).1.length ≤ 1024 ∧ ∀ x ∈ (allB s).1, okT x ∧ tagB x.1 = true := allF_okT _ _ _ (by simp) (by simp)
theorem fst0_take {f : Tlv → Int} : ∀ (l : List Tlv) (j : Nat) (hj : j < l.length), fst0 ((l.take j).map f) = 0 → f l[j] ≠ 0 → fst0 (l.map f) = f l[j]
  | a :: r, 0, hj, _, h => by simp only [List.getElem_cons_zero] at h ⊢; simp [fst0, h]
  | a :: r, j + 1, hj, h0, h => by
    simp only [List.take_succ_cons, List.map_cons, fst0] at h0 ⊢
    split at h0
    · rename_i h1
      rw [if_pos h1]
      simp only [List.getElem_cons_succ] at h ⊢
      exact fst0_take r j (by simpa using hj) h0 h
    · rename_i h1; exact absurd h0 h1
theorem fst0_snoc {f : Tlv → Int} (l : List Tlv) (j : Nat) (hj : j < l.length) (h0 : fst0 ((l.take j).map f) = 0) (h : f l[j] = 0) : fst0 ((l.take (j + 1)).map f) = 0 := by
  rw [← List.take_append_getElem hj, List.map_append]
  generalize l.take j = q at h0
  induction q with
  | nil => simp [fst0, h]
  | cons a r ih =>
    simp only [List.map_cons, List.cons_append, fst0] at h0 ⊢
    split at h0
    · rename_i h1; rw [if_pos h1]; exact ih h0
    · rename_i h1; exact absurd h0 h1
def tabTr1 : Tabs := addQ (noTabs) 46 allG
theorem tabTr1_ok : SsOk Try.prog tabTr1 := addQ_ok (noTabs_ok) (G_enters G_ok (p := i46) rfl) allG_ok
theorem tabTr1_q46 (a : List D) : tabTr1.q 46 a = allG a := rfl
theorem tabTr1_r (f : FuncId) (a : List D) (o : List Ob) : tabTr1.r f a o = none := rfl
theorem tabTr1_k (f : FuncId) (a : List D) (o : List Ob) : tabTr1.k f a o = none := rfl
def wholeB (s : List UInt8) : Tlv × Int := if (readB s).2.2 = 0 ∧ (readB s).2.1 < s.length then ((0, [], ()), 5) else ((readB s).1, (readB s).2.2)
def wholeD (s : List UInt8) : D := .tup [.agg [.x (.int .i64 (wholeB s).1.1), .x (.str (wholeB s).1.2.1)], .x (.int .i64 (wholeB s).2)]
def chkS (m : Int) (s : List UInt8) : Int := if m < 1 then 7 else if (wholeB s).2 = 0 then chk (min m 64).toNat (wholeB s).1 else (wholeB s).2
theorem wholeB_ok (s : List UInt8) (h : (wholeB s).2 = 0) : (readB s).2.2 = 0 ∧ (readB s).2.1 = s.length ∧ wholeB s = ((readB s).1, 0) := by
  unfold wholeB at h ⊢
  split at h
  · cases h
  · rename_i h1
    have := (readB_ok s h).2
    rw [if_neg h1, show (readB s).2.2 = 0 from h]
    exact ⟨rfl, by have := h; simp only at this; omega, rfl⟩
def tabTr2 : Tabs := noTabs
theorem tabTr2_ok : SsOk Try.prog tabTr2 := noTabs_ok
theorem tabTr2_r (f : FuncId) (a : List D) (o : List Ob) : tabTr2.r f a o = none := rfl
theorem tabTr2_k (f : FuncId) (a : List D) (o : List Ob) : tabTr2.k f a o = none := rfl
/-- The least that is enough. -/
def depF (s : List UInt8) : Nat → Nat → Nat
  | 0, _ => 0
  | k + 1, m => if chkS m s = 0 then m else depF s k (m + 1)
def depB (s : List UInt8) : Nat := depF s 64 1
theorem depF_step (s : List UInt8) (j : Nat) (hj : j ≤ 64) : depF s (65 - j) j = if chkS j s = 0 then j else depF s (65 - (j + 1)) (j + 1) := by
  rw [show 65 - j = (65 - (j + 1)) + 1 by omega, depF]
def tabTr3 : Tabs := noTabs
theorem tabTr3_ok : SsOk Try.prog tabTr3 := noTabs_ok
theorem tabTr3_r (f : FuncId) (a : List D) (o : List Ob) : tabTr3.r f a o = none := rfl
theorem tabTr3_k (f : FuncId) (a : List D) (o : List Ob) : tabTr3.k f a o = none := rfl
end Go.Proofs.Ytcffpndhodhncaa
end
section
/- Tree: the document's answer: Check, Depth. -/
set_option linter.unusedSimpArgs false
set_option linter.unusedVariables false
namespace Go.Proofs.Ytcffpndhodhncaa
open Go.RowKit Go.Bo Go.Ab

theorem chk_put (x : Tlv) (h : okT x ∧ tagB x.1 = true) : (putB x.1 x.2.1).2 = 0 ∧ wholeB (putB x.1 x.2.1).1 = (x, 0) := by
  have h0 : (putB x.1 x.2.1).2 = 0 := by rw [put_code _ _ h.1.2.2, if_pos h.2]
  refine ⟨h0, ?_⟩
  have h1 := read_put x.1 x.2.1 [] h0
  rw [List.append_nil] at h1
  unfold wholeB
  rw [h1, if_neg (by simp)]
theorem chkS_put (m : Int) (x : Tlv) (h : okT x ∧ tagB x.1 = true) (hm : m ≤ 64) : chkS m (putB x.1 x.2.1).1 = chk m.toNat x := by
  obtain ⟨h1, h2⟩ := chk_put x h
  unfold chkS
  rw [h2]
  simp only [if_true]
  split
  · rw [show m.toNat = 0 by omega]; rfl
  · rw [show min m 64 = m by omega]
theorem wholeB_err (s : List UInt8) (h : ¬ (readB s).2.2 = 0) : wholeB s = ((readB s).1, (readB s).2.2) := by rw [wholeB, if_neg (fun e => h e.1)]
theorem wholeB_long (s : List UInt8) (h : (readB s).2.2 = 0) (h1 : (readB s).2.1 < s.length) : wholeB s = ((0, [], ()), 5) := by rw [wholeB, if_pos ⟨h, h1⟩]
theorem wholeB_is (s : List UInt8) (h : (readB s).2.2 = 0) (h1 : ¬ (readB s).2.1 < s.length) : wholeB s = ((readB s).1, 0) := by rw [wholeB, if_neg (fun e => h1 e.2), h]
theorem tdm (t : Int) (h : 0 ≤ t ∧ t ≤ 254) : (IntKind.i64.wrap (t.tdiv 32)).tmod 2 = t / 32 % 2 := by
  rw [Int.tdiv_eq_ediv_of_nonneg h.1, IntWalk.i64_in _ (by omega), Int.tmod_eq_emod_of_nonneg (by omega)]
theorem put_le2 (t : Int) (s : List UInt8) (h : s.length ≤ 65536) (ht : tagB t = true) : (putB t s).1.length ≤ 65542 := by
  have h0 : (putB t s).2 = 0 := by rw [put_code _ _ h, if_pos ht]
  have h1 := put_len t s h0
  have h2 := lenB_le s.length (by omega)
  omega
def tabTr4 : Tabs := addQ (addQ (addQ (noTabs) 48 readRG) 49 allRG) 43 putRG
theorem tabTr4_ok : SsOk Try.prog tabTr4 := addQ_ok (addQ_ok (addQ_ok (noTabs_ok) (G_enters G_ok (p := i48) rfl) readRG_ok) (G_enters G_ok (p := i49) rfl) allRG_ok) (G_enters G_ok (p := i43) rfl) putRG_ok
theorem tabTr4_q48 (a : List D) : tabTr4.q 48 a = readRG a := rfl
theorem tabTr4_q49 (a : List D) : tabTr4.q 49 a = allRG a := rfl
theorem tabTr4_q43 (a : List D) : tabTr4.q 43 a = putRG a := rfl
theorem tabTr4_r (f : FuncId) (a : List D) (o : List Ob) : tabTr4.r f a o = none := rfl
theorem tabTr4_k (f : FuncId) (a : List D) (o : List Ob) : tabTr4.k f a o = none := rfl
def tabTr5 : Tabs := noTabs
theorem tabTr5_ok : SsOk Try.prog tabTr5 := noTabs_ok
theorem tabTr5_r (f : FuncId) (a : List D) (o : List Ob) : tabTr5.r f a o = none := rfl
theorem tabTr5_k (f : FuncId) (a : List D) (o : List Ob) : tabTr5.k f a o = none := rfl
end Go.Proofs.Ytcffpndhodhncaa
end
section
/- bothyref01.Texts: whether two lists of texts are the same. -/
set_option linter.unusedSimpArgs false
namespace Go.Proofs.Ytcffpndhodhncaa
open Go.RowKit Go.Bo Go.Ab

theorem take_extT {α : Type} {a b : List α} {i : Nat} (h : a.take i = b.take i) (ha : i < a.length) (hb : i < b.length) (he : a[i] = b[i]) : a.take (i + 1) = b.take (i + 1) := by
  rw [List.take_add_one, List.take_add_one, h]; simp [List.getElem?_eq_getElem ha, List.getElem?_eq_getElem hb, he]

theorem texts_c (a b : List (List UInt8)) : PCalls Try.prog 56 [.x (.sl (rows rStr a)), .x (.sl (rows rStr b))] (.x (.bool (decide (a = b)))) := by
  refine PCalls.wf (fun hw => ?_)
  have ha : a.length ≤ maxLen := by have := (hw _ (List.mem_cons_self)).1; rwa [rows_len] at this
  have hb : b.length ≤ maxLen := by have := (hw _ (List.mem_cons_of_mem _ List.mem_cons_self)).1; rwa [rows_len] at this
  clear hw
  simp only [maxLen] at ha hb
  refine FCalls.pure (fcallsG (fz := true) G_ok (p := i56) rfl _ (Nat.le_of_ble_eq_true rfl) _ (fun c E0 => ?_)) rfl
  dsimp only [i56, argsφ]
  have uu := trivial
  refine WI.seq ?_
  refine WI.regB noTabs_ok [0, 1] ?_
  refine oS ?_
  refine oN ?_
  refine thenQ_normal ?_
  refine WI.seq ?_
  refine WI.seq ?_
  refine WI.regB noTabs_ok [0, 1, 10] ?_
  refine oS ?_
  refine oG ?_
  refine oS ?_
  iterate 2 refine oG ?_
  refine oN ?_
  refine thenQ_normal ?_
  refine WI.cond (b := _) rfl rfl (fun h0 => ?_) (fun h0 => ?_)
  · try simp only [zB] at h0
    refine WI.seq ?_
    refine WI.regB noTabs_ok [4] ?_
    refine oS ?_
    refine oN ?_
    refine thenQ_normal ?_
    refine WI.ret ?_
    refine thenQ_ret ?_
    first | refine lfR ?_ | refine lfR2 ?_
    rw [decide_eq_false (fun e => h0 (by rw [e]))] -- leaf 0
  · try simp only [zB] at h0
    refine WI.skip ?_
    refine thenQ_normal ?_
    refine WI.seq ?_
    refine WI.seq ?_
    refine WI.regB noTabs_ok [0, 1, 5] ?_
    refine oS ?_
    refine oN ?_
    refine thenQ_normal ?_
    refine WI.block ?_
    refine WI.loop (fun φ os => ∃ i : Nat, φ = [(0, .x (.sl (rows rStr a))), (1, .x (.sl (rows rStr b))), (5, .x (.int .i64 i))] ∧ os = [] ∧ i ≤ a.length ∧ a.take i = b.take i) (down a.length 5) ?_ (fun φ os hI => ?_)
    · exact ⟨0, rfl, rfl, by omega, by simp⟩
    · obtain ⟨i, rfl, rfl, hi, he⟩ := hI
      refine WI.seq ?_
      refine WI.seq ?_
      refine WI.regB noTabs_ok [0, 1, 5, 14] ?_
      iterate 2 refine oS ?_
      iterate 2 refine oG ?_
      refine oN ?_
      refine thenQ_normal ?_
      refine WI.cond (b := _) rfl rfl (fun h1 => ?_) (fun h1 => ?_)
      · try simp only [zB] at h1
        refine WI.skip ?_
        refine thenQ_normal ?_
        refine WI.seq ?_
        refine WI.block ?_
        refine WI.seq ?_
        refine WI.dregB noTabs_ok [0, 1, 5, 25] ?_
        iterate 2 refine dFS ?_
        iterate 2 refine dQG ?_
        iterate 2 refine dFS ?_
        iterate 2 refine dQG ?_
        refine dFG ?_
        refine dN ?_
        refine thenQ_normal ?_
        refine WI.cond (b := _) rfl rfl (fun h2 => ?_) (fun h2 => ?_)
        · try simp only [zB] at h2
          refine WI.seq ?_
          refine WI.regB noTabs_ok [4] ?_
          refine oS ?_
          refine oN ?_
          refine thenQ_normal ?_
          refine WI.ret ?_
          refine blockQ_ret ?_
          refine thenQ_ret ?_
          refine thenQ_ret ?_
          refine blockQ_ret ?_
          refine thenQ_ret ?_
          first | refine lfR ?_ | refine lfR2 ?_
          rw [decide_eq_false (fun e => h2 (by subst e; rfl))] -- leaf 1
        · try simp only [zB] at h2
          refine WI.skip ?_
          refine blockQ_normal ?_
          refine thenQ_normal ?_
          refine WI.regB noTabs_ok [0, 1, 5] ?_
          refine oS ?_
          refine oG ?_
          refine oS ?_
          refine oN ?_
          refine thenQ_normal ?_
          exact ⟨⟨i + 1, by simp, rfl, by omega, take_extT he (by omega) (by omega) h2⟩, by simp [down, Ab.get, D.val, intOf?]; omega⟩
      · try simp only [zB] at h1
        refine WI.exit ?_
        refine thenQ_exit ?_
        refine thenQ_exit ?_
        refine blockQ_hit ?_
        refine thenQ_normal ?_
        refine WI.seq ?_
        refine WI.regB noTabs_ok [4] ?_
        refine oS ?_
        refine oN ?_
        refine thenQ_normal ?_
        refine WI.ret ?_
        first | refine lfR ?_ | refine lfR2 ?_
        rw [decide_eq_true]; rw [List.take_of_length_le (by omega), List.take_of_length_le (by omega)] at he; exact he -- leaf 2
def textsG : List D → Option (Bool × D)
  | [.x (.sl A), .x (.sl B)] => (unrows rStr A).bind fun a => (unrows rStr B).map fun b => (true, .x (.bool (decide (a = b))))
  | _ => none
theorem textsG_ok : ∀ args r, textsG args = some (true, r) → PCalls Try.prog 56 args r := by
  intro args r h
  unfold textsG at h
  split at h
  · simp only [Option.bind_eq_some_iff, Option.map_eq_some_iff] at h
    obtain ⟨a, h1, b, h2, h3⟩ := h
    cases h3
    rw [← rows_unrows good_rStr h1, ← rows_unrows good_rStr h2]
    exact texts_c a b
  · cases h
/-- With Texts. -/
def addTexts (S : Tabs) : Tabs := addQ S 56 (viaNN textsG)
theorem addTexts_ok {S : Tabs} (hS : SsOk Try.prog S) : SsOk Try.prog (addTexts S) := addQ_ok hS (G_enters G_ok (p := i56) rfl) (viaNN_ok textsG_ok)
end Go.Proofs.Ytcffpndhodhncaa
end
section
/- strings.Join: by the kit's contract. -/
set_option linter.unusedSimpArgs false
set_option linter.unusedVariables false
namespace Go.Proofs.Ytcffpndhodhncaa
open Go.RowKit Go.Bo Go.Ab

theorem join_map (l : List (List UInt8)) : (l.map bstr).map (·.data.toList) = l := by
  rw [List.map_map]
  conv => rhs; rw [← List.map_id l]
  exact List.map_congr_left fun x _ => by simp [bstr]
theorem join_flat : ∀ l : List (List UInt8), Lib.join l [] = l.flatten
  | [] => rfl
  | [x] => by simp [Lib.join_one]
  | x :: y :: r => by
    have := join_flat (y :: r)
    simp only [Lib.join, List.intercalate, List.intersperse_cons_cons, List.flatten_cons, List.nil_append] at this ⊢
    rw [this]
theorem join_c (l : List (List UInt8)) (sep : List UInt8) (h : (Lib.join l sep).length ≤ 140737488355328) (hl : l.length ≤ 140737488355328) : PCalls Try.prog 72 [.x (.sl (rows rStr l)), .x (.str sep)] (.x (.str (Lib.join l sep))) := by
  intro w st vs hst hvl
  obtain ⟨hsz, hv⟩ := hvl
  obtain ⟨v0, v1, rfl⟩ : ∃ v0 v1, vs = #[v0, v1] := by
    obtain ⟨vl⟩ := vs
    match vl, hsz with
    | [a, b], _ => exact ⟨a, b, rfl⟩
  have h0 := hv 0 _ v0 rfl rfl
  have h1 := hv 1 _ v1 rfl rfl
  clear hv hsz
  cases h0 with
  | x h0 =>
  cases h1 with
  | x h1 =>
  cases h1 with
  | str _ =>
  cases h0 with
  | sl _ a n c sz val hn hc hm hsz hcell hnil hsp hval =>
    rw [rows_len] at hn
    subst hn
    match l, h, hl, hc, hsz, hcell, hval with
    | [], _, _, _, _, _, _ =>
      refine (Try.strings_Join_none a c (bstr sep) w).mono ?_
      rintro e w' ⟨rfl, rfl⟩
      exact ⟨_, st, rfl, Kept.refl _ _, fun _ _ h => h, fun _ _ h => .inl h, .x (.str [])⟩
    | x :: r, h, hl, hc, hsz, hcell, hval =>
      obtain rfl : 1 = sz := hsz [.str x] (by simp [rows, rStr])
      obtain ⟨b, off, rfl, hs0, _⟩ := hcell 0 0 (by simp) (by omega)
      have hcells : ∀ (j : Nat) y, ((x :: r).map bstr)[j]? = some y → w.cell? ⟨b, off + j, none⟩ = some (.string y) := by
        intro j y hy
        rw [List.getElem?_map] at hy
        obtain ⟨z, hz, rfl⟩ := Option.map_eq_some_iff.1 hy
        have hj : j < (x :: r).length := (List.getElem?_eq_some_iff.1 hz).1
        obtain ⟨b', off', e, _, hw⟩ := hcell j 0 hj (by omega)
        simp only [Option.some.injEq, Addr.mk.injEq] at e
        obtain ⟨rfl, rfl, _⟩ := e
        have hx := hval j 0 [.str z] (.str z) (by simp only [rows, List.getElem?_map, hz]; rfl) rfl
        rw [show off + j = off + j * 1 + 0 by omega, hw]
        generalize val j 0 = u at hx
        cases hx with
        | str _ => rfl
      have hlen : (Lib.join (((x :: r).map bstr).map (·.data.toList)) (bstr sep).data.toList).length ≤ 140737488355328 := by
        rw [join_map]; simpa [bstr] using h
      have hc' : ((x :: r).map bstr).length ≤ c := by rw [List.length_map]; exact hc
      have := Try.strings_Join b off c ((x :: r).map bstr) (bstr sep) w hcells (hst _ _ hs0) (by rw [List.length_map]; exact hl) hc' hlen
      rw [List.length_map, join_map] at this
      refine this.mono ?_
      rintro e w' ⟨rfl, hb⟩
      refine ⟨_, st, rfl, Kept.of_none (Ext.grown hb none), fun _ _ h => h, fun _ _ h => .inl h, ?_⟩
      have : (bstr sep).data.toList = sep := by simp [bstr]
      rw [this]
      exact .x (.str _)
theorem join_enters : Go.Ab.Enters Try.prog 72 := Go.Proofs.enters_of Try.lays156.f156 (by kernel_rfl) rfl
end Go.Proofs.Ytcffpndhodhncaa
end
section
/- Tree: Seq, Parts. -/
set_option linter.unusedSimpArgs false
set_option linter.unusedVariables false
namespace Go.Proofs.Ytcffpndhodhncaa
open Go.RowKit Go.Bo Go.Ab

theorem un_str (l : List (List UInt8)) : unrows rStr (rows rStr l) = some l := unrows_rows good_rStr l
theorem un_i64 (l : List Int) : unrows (rInt .i64) (rows (rInt .i64) l) = some l := unrows_rows (good_rInt .i64) l
def joinG : List D → Option (Bool × D)
  | [.x (.sl L), .x (.str sep)] => (unrows rStr L).bind fun l => some (decide ((Lib.join l sep).length ≤ 140737488355328) && (decide (l.length ≤ 140737488355328)), .x (.str (Lib.join l sep)))
  | _ => none
theorem joinG_ok : ∀ args r, joinG args = some (true, r) → PCalls Try.prog 72 args r := by
  intro args r h
  unfold joinG at h
  split at h
  · rename_i L sep
    obtain ⟨l, hr0, h⟩ := Option.bind_eq_some_iff.1 h
    simp only [Option.some.injEq, Prod.mk.injEq, Bool.and_eq_true, decide_eq_true_eq, true_and] at h
    obtain ⟨⟨h1, h2⟩, rfl⟩ := h
    rw [← rows_unrows good_rStr hr0]
    exact join_c l sep h1 h2
  · cases h
def seqB (l : List (List UInt8)) : List UInt8 × Int := putB 48 l.flatten
def tabTr6 : Tabs := addQ (addQ (noTabs) 72 joinG) 71 putG
theorem tabTr6_ok : SsOk Try.prog tabTr6 := addQ_ok (addQ_ok (noTabs_ok) join_enters joinG_ok) (G_enters G_ok (p := i71) rfl) putG_ok
theorem tabTr6_q72 (a : List D) : tabTr6.q 72 a = joinG a := rfl
theorem tabTr6_q71 (a : List D) : tabTr6.q 71 a = putG a := rfl
theorem tabTr6_r (f : FuncId) (a : List D) (o : List Ob) : tabTr6.r f a o = none := rfl
theorem tabTr6_k (f : FuncId) (a : List D) (o : List Ob) : tabTr6.k f a o = none := rfl
theorem seq_c (l : List (List UInt8)) (h : l.flatten.length ≤ 140737488355328) (hl : l.length ≤ 140737488355328) : PCalls Try.prog 41 [.x (.sl (rows rStr l))] (.tup [.x (.str (seqB l).1), .x (.int .i64 (seqB l).2)]) := by
  have hj := join_flat l
  refine FCalls.pure (fcallsG (fz := true) G_ok (p := i41) rfl _ (Nat.le_of_ble_eq_true rfl) _ (fun C0 E0 => ?_)) rfl
  dsimp only [i41, argsφ]
  have uu := And.intro @joinG.eq_1 (And.intro @joinG.eq_2 (And.intro @un_str (And.intro @putG.eq_1 (And.intro @putG.eq_2 (And.intro hj (And.intro @tabTr6_r (And.intro @tabTr6_k (And.intro @tabTr6_q71 (@tabTr6_q72)))))))))
  refine WI.seq ?_
  refine WI.regB tabTr6_ok [0] ?_
  iterate 2 refine oS ?_
  refine oN ?_
  refine thenQ_normal ?_
  refine WI.seq ?_
  refine WI.regB tabTr6_ok [2, 3] ?_
  refine oS ?_
  iterate 2 refine oC (hok := by first | with_reducible rfl | omega | (simp only [Bool.and_eq_true, decide_eq_true_eq]; omega) | (simp; done) | (simp; omega) | rfl) ?_
  iterate 2 refine oG (hok := by first | with_reducible rfl | omega | (simp only [Bool.and_eq_true, decide_eq_true_eq]; omega) | (simp; done) | (simp; omega) | rfl) ?_
  iterate 2 refine oS ?_
  refine oN ?_
  refine thenQ_normal ?_
  refine WI.ret ?_
  first | refine lfR ?_ | refine lfR2 ?_
  rfl -- leaf 0
def tseqG : List D → Option (Bool × D)
  | [.x (.sl L)] => (unrows rStr L).bind fun l => some (decide (l.flatten.length ≤ 140737488355328) && (decide (l.length ≤ 140737488355328)), .tup [.x (.str (seqB l).1), .x (.int .i64 (seqB l).2)])
  | _ => none
theorem tseqG_ok : ∀ args r, tseqG args = some (true, r) → PCalls Try.prog 41 args r := by
  intro args r h
  unfold tseqG at h
  split at h
  · rename_i L
    obtain ⟨l, hr0, h⟩ := Option.bind_eq_some_iff.1 h
    simp only [Option.some.injEq, Prod.mk.injEq, Bool.and_eq_true, decide_eq_true_eq, true_and] at h
    obtain ⟨⟨h1, h2⟩, rfl⟩ := h
    rw [← rows_unrows good_rStr hr0]
    exact seq_c l h1 h2
  · cases h
def tabTr7 : Tabs := addQ (noTabs) 43 putRG
theorem tabTr7_ok : SsOk Try.prog tabTr7 := addQ_ok (noTabs_ok) (G_enters G_ok (p := i43) rfl) putRG_ok
theorem tabTr7_q43 (a : List D) : tabTr7.q 43 a = putRG a := rfl
theorem tabTr7_r (f : FuncId) (a : List D) (o : List Ob) : tabTr7.r f a o = none := rfl
theorem tabTr7_k (f : FuncId) (a : List D) (o : List Ob) : tabTr7.k f a o = none := rfl
theorem flat_take (l : List (List UInt8)) (j : Nat) (h : j < l.length) : (l.take j).flatten ++ l[j] = (l.take (j + 1)).flatten := by
  rw [← List.take_append_getElem h, List.flatten_append]; simp
theorem flat_le (l : List (List UInt8)) (j : Nat) : (l.take j).flatten.length ≤ l.flatten.length := by
  conv => rhs; rw [← List.take_append_drop j l, List.flatten_append, List.length_append]
  omega
/-- The bodies, by the tags. -/
def prt : List Tlv → List Int → List (List UInt8) → List (List UInt8) × Int
  | x :: r, t :: ts, out => if x.1 = t then prt r ts (out ++ [x.2.1]) else ([], 6)
  | _, _, out => (out, 0)
theorem prt_step (L : List Tlv) (ts : List Int) (out : List (List UInt8)) (j : Nat) (hj : j < L.length) (ht : j < ts.length) : prt (L.drop j) (ts.drop j) out = if L[j].1 = ts[j] then prt (L.drop (j + 1)) (ts.drop (j + 1)) (out ++ [L[j].2.1]) else ([], 6) := by
  rw [List.drop_eq_getElem_cons hj, List.drop_eq_getElem_cons ht, prt]
def prtB (s : List UInt8) (tags : List Int) : List (List UInt8) × Int :=
  if (readB s).2.2 = 0 then if (readB s).1.1 = 48 then if (readB s).2.1 < s.length then ([], 5) else if (allB (readB s).1.2.1).2 = 0 then if (allB (readB s).1.2.1).1.length = tags.length then prt (allB (readB s).1.2.1).1 tags [] else ([], 5) else ([], (allB (readB s).1.2.1).2) else ([], 6) else ([], (readB s).2.2)
def tabTr8 : Tabs := addQ (addQ (noTabs) 45 readG) 46 allG
theorem tabTr8_ok : SsOk Try.prog tabTr8 := addQ_ok (addQ_ok (noTabs_ok) (G_enters G_ok (p := i45) rfl) readG_ok) (G_enters G_ok (p := i46) rfl) allG_ok
theorem tabTr8_q45 (a : List D) : tabTr8.q 45 a = readG a := rfl
theorem tabTr8_q46 (a : List D) : tabTr8.q 46 a = allG a := rfl
theorem tabTr8_r (f : FuncId) (a : List D) (o : List Ob) : tabTr8.r f a o = none := rfl
theorem tabTr8_k (f : FuncId) (a : List D) (o : List Ob) : tabTr8.k f a o = none := rfl
theorem parts_c (s : List UInt8) (tags : List Int) (hs : s.length ≤ 9223372036854775807) : PCalls Try.prog 65 [.x (.str s), .x (.sl (rows (rInt .i64) tags))] (.tup [.x (.sl (rows rStr (prtB s tags).1)), .x (.int .i64 (prtB s tags).2)]) := by
  refine PCalls.wf (fun hw => ?_)
  have hb : tags.length ≤ maxLen := by have := (hw _ (List.mem_cons_of_mem _ List.mem_cons_self)).1; rwa [rows_len] at this
  clear hw
  simp only [maxLen] at hb
  have hr := readB_okT s
  have hr2 := readB_ok s
  have ha := allB_okT (readB s).1.2.1
  refine FCalls.pure (fcallsG (fz := true) G_ok (p := i65) rfl _ (Nat.le_of_ble_eq_true rfl) _ (fun C0 E0 => ?_)) rfl
  dsimp only [i65, argsφ]
  have uu := And.intro @readG.eq_1 (And.intro @readG.eq_2 (And.intro @readD.eq_1 (And.intro @allG.eq_1 (And.intro @allG.eq_2 (And.intro @tabTr8_r (And.intro @tabTr8_k (And.intro @tabTr8_q45 (@tabTr8_q46))))))))
  refine WI.seq ?_
  refine WI.regB tabTr8_ok [0, 1] ?_
  iterate 2 refine oS ?_
  refine oN ?_
  refine thenQ_normal ?_
  refine WI.seq ?_
  refine WI.regB tabTr8_ok [0, 1, 6, 7, 8] ?_
  refine oS ?_
  refine oC ?_
  refine oS ?_
  iterate 5 refine oG ?_
  iterate 2 refine oS ?_
  refine oN ?_
  refine thenQ_normal ?_
  refine WI.seq ?_
  refine WI.block ?_
  refine WI.seq ?_
  refine WI.regB tabTr8_ok [0, 1, 6, 7, 8, 19] ?_
  refine oS ?_
  refine oG ?_
  refine oS ?_
  refine oN ?_
  refine thenQ_normal ?_
  refine WI.cond (b := _) rfl rfl (fun h0 => ?_) (fun h0 => ?_)
  · try simp only [zB] at h0
    refine WI.seq ?_
    refine WI.regB tabTr8_ok [4, 5] ?_
    iterate 3 refine oS ?_
    refine oN ?_
    refine thenQ_normal ?_
    refine WI.nnA ?_
    refine WI.ret ?_
    refine blockQ_ret ?_
    refine thenQ_ret ?_
    first | refine lfR ?_ | refine lfR2 ?_
    simp [prtB, h0, rows] -- leaf 0
  · try simp only [zB] at h0
    refine WI.seq ?_
    refine WI.regB tabTr8_ok [0, 1, 6, 7, 23] ?_
    refine oS ?_
    iterate 2 refine oG ?_
    refine oS ?_
    refine oN ?_
    refine thenQ_normal ?_
    refine WI.cond (b := _) rfl rfl (fun h1 => ?_) (fun h1 => ?_)
    · try simp only [zB] at h1
      refine WI.seq ?_
      refine WI.regB tabTr8_ok [4, 5] ?_
      iterate 2 refine oS ?_
      refine oN ?_
      refine thenQ_normal ?_
      refine WI.nnA ?_
      refine WI.ret ?_
      refine blockQ_ret ?_
      refine thenQ_ret ?_
      first | refine lfR ?_ | refine lfR2 ?_
      simp [prtB, h0, h1, rows] -- leaf 1
    · try simp only [zB] at h1
      refine WI.seq ?_
      refine WI.regB tabTr8_ok [1, 6, 27] ?_
      iterate 2 refine oS ?_
      iterate 2 refine oG ?_
      refine oS ?_
      refine oN ?_
      refine thenQ_normal ?_
      refine WI.cond (b := _) rfl rfl (fun h2 => ?_) (fun h2 => ?_)
      · try simp only [zB] at h2
        refine WI.seq ?_
        refine WI.regB tabTr8_ok [4, 5] ?_
        iterate 2 refine oS ?_
        refine oN ?_
        refine thenQ_normal ?_
        refine WI.nnA ?_
        refine WI.ret ?_
        refine blockQ_ret ?_
        refine thenQ_ret ?_
        first | refine lfR ?_ | refine lfR2 ?_
        simp [prtB, h0, h1, rows, show (readB s).2.1 < s.length by omega] -- leaf 2
      · try simp only [zB] at h2
        refine WI.skip ?_
        refine blockQ_normal ?_
        refine thenQ_normal ?_
        refine WI.seq ?_
        refine WI.regB tabTr8_ok [1, 8, 9] ?_
        refine oS ?_
        refine oG ?_
        refine oC ?_
        refine oS ?_
        iterate 2 refine oG ?_
        iterate 2 refine oS ?_
        refine oN ?_
        refine thenQ_normal ?_
        refine WI.seq ?_
        refine WI.block ?_
        refine WI.seq ?_
        refine WI.regB tabTr8_ok [1, 8, 9, 38] ?_
        refine oS ?_
        refine oG ?_
        refine oS ?_
        refine oN ?_
        refine thenQ_normal ?_
        refine WI.cond (b := _) rfl rfl (fun h3 => ?_) (fun h3 => ?_)
        · try simp only [zB] at h3
          refine WI.seq ?_
          refine WI.regB tabTr8_ok [4, 5] ?_
          iterate 3 refine oS ?_
          refine oN ?_
          refine thenQ_normal ?_
          refine WI.nnA ?_
          refine WI.ret ?_
          refine blockQ_ret ?_
          refine thenQ_ret ?_
          first | refine lfR ?_ | refine lfR2 ?_
          simp [prtB, h0, h1, h3, rows, show ¬ (readB s).2.1 < s.length by omega] -- leaf 3
        · try simp only [zB] at h3
          refine WI.seq ?_
          refine WI.regB tabTr8_ok [1, 9, 42] ?_
          refine oS ?_
          refine oG ?_
          refine oS ?_
          iterate 2 refine oG ?_
          refine oS ?_
          refine oN ?_
          refine thenQ_normal ?_
          refine WI.cond (b := _) rfl rfl (fun h4 => ?_) (fun h4 => ?_)
          · try simp only [zB] at h4
            refine WI.seq ?_
            refine WI.regB tabTr8_ok [4, 5] ?_
            iterate 2 refine oS ?_
            refine oN ?_
            refine thenQ_normal ?_
            refine WI.nnA ?_
            refine WI.ret ?_
            refine blockQ_ret ?_
            refine thenQ_ret ?_
            first | refine lfR ?_ | refine lfR2 ?_
            simp [prtB, h0, h1, h3, rows, show ¬ (readB s).2.1 < s.length by omega, show ¬ (allB (readB s).1.2.1).1.length = tags.length by omega] -- leaf 4
          · try simp only [zB] at h4
            refine WI.skip ?_
            refine blockQ_normal ?_
            refine thenQ_normal ?_
            refine WI.seq ?_
            refine WI.regB tabTr8_ok [1, 9, 10] ?_
            refine oS ?_
            refine oN ?_
            refine thenQ_normal ?_
            refine WI.seq ?_
            refine WI.seq ?_
            refine WI.regB tabTr8_ok [1, 10, 48, 49, 50] ?_
            refine oS ?_
            refine oG ?_
            refine oS ?_
            refine oN ?_
            refine thenQ_normal ?_
            refine WI.block ?_
            refine WI.ownA 10 9 1 ?_
            refine WI.loop (fun φ os => ∃ (j : Nat) (out : List (List UInt8)), φ = [(1, .x (.sl (rows (rInt .i64) tags))), (10, .ref 1 out.length 0 out.length), (48, .x (.sl (rows rTlv (allB (readB s).1.2.1).1))), (49, .x (.int .i64 (allB (readB s).1.2.1).1.length)), (50, .x (.int .i64 j))] ∧ os = [.box [.x (.int .i64 (readB s).1.1), .x (.str (readB s).1.2.1)], .rows false 9 1 (rows rStr out)] ∧ j ≤ (allB (readB s).1.2.1).1.length ∧ out.length = j ∧ prt ((allB (readB s).1.2.1).1.drop j) (tags.drop j) out = prt (allB (readB s).1.2.1).1 tags []) (down (allB (readB s).1.2.1).1.length 50) ?_ (fun φ os hI => ?_)
            · exact ⟨0, [], rfl, rfl, by omega, rfl, rfl⟩
            · obtain ⟨j, out, rfl, rfl, hj, ho, hp⟩ := hI
              refine WI.seq ?_
              refine WI.regB tabTr8_ok [1, 10, 48, 49, 50, 51] ?_
              refine oG ?_
              refine oN ?_
              refine thenQ_normal ?_
              refine WI.seq ?_
              refine WI.cond (b := _) rfl rfl (fun h5 => ?_) (fun h5 => ?_)
              · try simp only [zB] at h5
                refine WI.skip ?_
                refine thenQ_normal ?_
                refine WI.seq ?_
                refine WI.block ?_
                refine WI.seq ?_
                have hj16 : j < (allB (readB s).1.2.1).1.length := by simpa using h5
                have hj16' : j < tags.length := by omega
                have hb2 : prtB s tags = prt (allB (readB s).1.2.1).1 tags [] := by rw [prtB, if_pos h0, if_pos h1, if_neg (by omega), if_pos h3, if_pos (by omega)]
                refine WI.regB tabTr8_ok [1, 10, 11, 12, 48, 49, 50] ?_
                refine oS ?_
                iterate 3 refine oG ?_
                refine oS ?_
                refine oG ?_
                refine oN ?_
                refine thenQ_normal ?_
                refine WI.seq ?_
                refine WI.seq ?_
                refine WI.dregB tabTr8_ok [1, 10, 12, 48, 49, 50, 61] ?_
                refine dFS ?_
                refine dQG ?_
                iterate 2 refine dFS ?_
                iterate 2 refine dQG ?_
                refine dFG ?_
                refine dN ?_
                refine thenQ_normal ?_
                refine WI.cond (b := _) rfl rfl (fun h6 => ?_) (fun h6 => ?_)
                · try simp only [zB] at h6
                  refine WI.seq ?_
                  refine WI.regB tabTr8_ok [4, 5] ?_
                  iterate 2 refine oS ?_
                  refine oN ?_
                  refine thenQ_normal ?_
                  refine WI.nnA ?_
                  refine WI.ret ?_
                  refine thenQ_ret ?_
                  refine blockQ_ret ?_
                  refine thenQ_ret ?_
                  refine thenQ_ret ?_
                  refine blockQ_ret ?_
                  refine thenQ_ret ?_
                  first | refine lfR ?_ | refine lfR2 ?_
                  rw [hb2, ← hp, prt_step _ _ _ _ hj16 hj16', if_neg (by simpa using h6)]; rfl -- leaf 5
                · try simp only [zB] at h6
                  refine WI.skip ?_
                  refine thenQ_normal ?_
                  refine WI.regB tabTr8_ok [1, 10, 48, 49, 50] ?_
                  iterate 2 refine oS ?_
                  iterate 3 refine oG ?_
                  refine oS ?_
                  refine oN ?_
                  refine blockQ_normal ?_
                  refine thenQ_normal ?_
                  refine WI.post ?_
                  refine WI.regB tabTr8_ok [1, 10, 48, 49, 50] ?_
                  refine oG ?_
                  refine oS ?_
                  refine oP ?_
                  refine pPick [0, 1] ?_
                  refine pEnd ?_
                  refine thenQ_normal ?_
                  exact ⟨⟨j + 1, out ++ [_], by simp, by rw [← rows_str], hj16, by simp; omega, by rw [← hp, prt_step _ _ _ _ hj16 hj16', if_pos (by simpa using h6)]⟩, by simp [down, Ab.get, D.val, intOf?]; omega⟩
              · try simp only [zB] at h5
                refine WI.exit ?_
                refine thenQ_exit ?_
                refine thenQ_exit ?_
                refine blockQ_hit ?_
                refine thenQ_normal ?_
                refine WI.seq ?_
                refine WI.regB tabTr8_ok [4, 5] ?_
                iterate 3 refine oS ?_
                refine oN ?_
                refine thenQ_normal ?_
                refine WI.nnA ?_
                refine WI.ret ?_
                first | refine lfR ?_ | refine lfR2 ?_
                have hb2 : prtB s tags = prt (allB (readB s).1.2.1).1 tags [] := by rw [prtB, if_pos h0, if_pos h1, if_neg (by omega), if_pos h3, if_pos (by omega)]
                rw [hb2, ← hp, List.drop_of_length_le (by omega), List.drop_of_length_le (by omega)]; rfl -- leaf 6
end Go.Proofs.Ytcffpndhodhncaa
end
section
/- Tree: the document's Parts; the laws. -/
set_option linter.unusedSimpArgs false
set_option linter.unusedVariables false
namespace Go.Proofs.Ytcffpndhodhncaa
open Go.RowKit Go.Bo Go.Ab

def tabTr9 : Tabs := addQ (addQ (noTabs) 48 readRG) 49 allRG
theorem tabTr9_ok : SsOk Try.prog tabTr9 := addQ_ok (addQ_ok (noTabs_ok) (G_enters G_ok (p := i48) rfl) readRG_ok) (G_enters G_ok (p := i49) rfl) allRG_ok
theorem tabTr9_q48 (a : List D) : tabTr9.q 48 a = readRG a := rfl
theorem tabTr9_q49 (a : List D) : tabTr9.q 49 a = allRG a := rfl
theorem tabTr9_r (f : FuncId) (a : List D) (o : List Ob) : tabTr9.r f a o = none := rfl
theorem tabTr9_k (f : FuncId) (a : List D) (o : List Ob) : tabTr9.k f a o = none := rfl
abbrev rI64 : RC Int := rInt .i64
theorem good_rI64 : rI64.Good := good_rInt .i64
def tpartsG : List D → Option (Bool × D)
  | [.x (.str s), .x (.sl T)] => (unrows rI64 T).bind fun t => some (decide (s.length ≤ 9223372036854775807), .tup [.x (.sl (rows rStr (prtB s t).1)), .x (.int .i64 (prtB s t).2)])
  | _ => none
theorem tpartsG_ok : ∀ args r, tpartsG args = some (true, r) → PCalls Try.prog 65 args r := by
  intro args r h
  unfold tpartsG at h
  split at h
  · rename_i s T
    obtain ⟨t, hr0, h⟩ := Option.bind_eq_some_iff.1 h
    simp only [Option.some.injEq, Prod.mk.injEq, Bool.and_eq_true, decide_eq_true_eq, true_and] at h
    obtain ⟨h1, rfl⟩ := h
    rw [← rows_unrows good_rI64 hr0]
    exact parts_c s t h1
  · cases h
def tabTr10 : Tabs := addQ (addT (addQ (addT (addQ (noTabs) 41 (viaNN tseqG)) 41 (frzT (viaNN tseqG))) 65 (viaNN tpartsG)) 65 (frzT (viaNN tpartsG))) 56 (viaNN textsG)
theorem tabTr10_ok : SsOk Try.prog tabTr10 := addQ_ok (addT_ok (addQ_ok (addT_ok (addQ_ok (noTabs_ok) (G_enters G_ok (p := i41) rfl) (viaNN_ok tseqG_ok)) (G_enters G_ok (p := i41) rfl) (frzT_ok (viaNN_ok tseqG_ok))) (G_enters G_ok (p := i65) rfl) (viaNN_ok tpartsG_ok)) (G_enters G_ok (p := i65) rfl) (frzT_ok (viaNN_ok tpartsG_ok))) (G_enters G_ok (p := i56) rfl) (viaNN_ok textsG_ok)
theorem tabTr10_q41 (a : List D) : tabTr10.q 41 a = viaNN tseqG a := rfl
theorem tabTr10_t41 (a : List D) (o : List Ob) : tabTr10.t 41 a o = liftT (frzT (viaNN tseqG)) a o := rfl
theorem tabTr10_q65 (a : List D) : tabTr10.q 65 a = viaNN tpartsG a := rfl
theorem tabTr10_t65 (a : List D) (o : List Ob) : tabTr10.t 65 a o = liftT (frzT (viaNN tpartsG)) a o := rfl
theorem tabTr10_q56 (a : List D) : tabTr10.q 56 a = viaNN textsG a := rfl
theorem tabTr10_r (f : FuncId) (a : List D) (o : List Ob) : tabTr10.r f a o = none := rfl
theorem tabTr10_k (f : FuncId) (a : List D) (o : List Ob) : tabTr10.k f a o = none := rfl
/-- The parts of chapter 3's example. -/
theorem s3a : seqB [[4, 1, 97], [2, 1, 5]] = ([48, 6, 4, 1, 97, 2, 1, 5], 0) := by kernel_rfl
theorem s3b : prtB [48, 6, 4, 1, 97, 2, 1, 5] [4, 2] = ([[97], [5]], 0) := by kernel_rfl
theorem s3c : prtB [48, 6, 4, 1, 97, 2, 1, 5] [4] = ([], 5) := by kernel_rfl
theorem s3d : prtB [48, 6, 4, 1, 97, 2, 1, 5] [4, 4] = ([], 6) := by kernel_rfl
theorem s3e : seqB [] = ([48, 0], 0) := by kernel_rfl
theorem s3f : depB [48, 0] = 1 := by kernel_rfl
theorem s3g : depB [48, 6, 4, 1, 97, 2, 1, 5] = 2 := by kernel_rfl
theorem s3h : chkS 1 [48, 6, 4, 1, 97, 2, 1, 5] = 7 := by kernel_rfl
theorem s3i : chkS 2 [48, 6, 4, 1, 97, 2, 1, 5] = 0 := by kernel_rfl
theorem s3u : unrows rStr [[.str [4, 1, 97]], [.str [2, 1, 5]]] = some [[4, 1, 97], [2, 1, 5]] := rfl
theorem s3v : unrows rStr [] = some [] := rfl
theorem s3w : unrows rI64 [[.int .i64 4], [.int .i64 2]] = some [4, 2] := rfl
theorem s3x : unrows rI64 [[.int .i64 4]] = some [4] := rfl
theorem s3y : unrows rI64 [[.int .i64 4], [.int .i64 4]] = some [4, 4] := rfl
theorem s3z : unrows rStr [[.str [97]], [.str [5]]] = some [[97], [5]] := rfl
end Go.Proofs.Ytcffpndhodhncaa
end
section
/- Tree: the plain laws. -/
set_option linter.unusedSimpArgs false
set_option linter.unusedVariables false
namespace Go.Proofs.Ytcffpndhodhncaa
open Go.RowKit Go.Bo Go.Ab

theorem rows_i64 (l : List Int) (z : Int) : rows (rInt .i64) l ++ [[X.int .i64 z]] = rows (rInt .i64) (l ++ [z]) := rows_app (rInt .i64) l [z]
theorem flat_bound (l : List (List UInt8)) (k : Nat) : ∀ n : Nat, l.length ≤ n → (∀ s ∈ l, s.length ≤ k) → l.flatten.length ≤ n * k := by
  induction l with
  | nil => intro n _ _; simp
  | cons s r ih =>
    intro n hn h
    obtain ⟨n, rfl⟩ : ∃ m, n = m + 1 := ⟨n - 1, by simp at hn; omega⟩
    have h1 := ih n (by simpa using hn) (fun x hx => h x (List.mem_cons_of_mem _ hx))
    have h2 := h s List.mem_cons_self
    rw [List.flatten_cons, List.length_append, Nat.succ_mul]
    omega
theorem tk_len (l : List (List UInt8)) : l.take l.length = l := List.take_length
theorem all_take {l : List (List UInt8)} {p : List UInt8 → Prop} {j : Nat} (hj : j < l.length) (h : ∀ s ∈ l.take j, p s) (h1 : p l[j]) : ∀ s ∈ l.take (j + 1), p s := by
  rw [← List.take_append_getElem hj]
  intro s hs
  rcases List.mem_append.1 hs with hs | hs
  · exact h s hs
  · simp only [List.mem_singleton] at hs; subst hs; exact h1
theorem fst0_zero : ∀ l : List Int, fst0 l = 0 ↔ ∀ a ∈ l, a = 0
  | [] => by simp [fst0]
  | a :: r => by
    rw [fst0]
    split
    · rename_i h; subst h; simp [fst0_zero r]
    · rename_i h; simp [h]
theorem chk_mono : ∀ (m : Nat) (x : Tlv), chk m x = 0 → chk (m + 1) x = 0
  | 0, x, h => by simp [chk] at h
  | m + 1, x, h => by
    rw [chk] at h ⊢
    split at h
    · rename_i h1; rw [if_pos h1]
    · rename_i h1
      rw [if_neg h1]
      split at h
      · rename_i h2
        rw [if_pos h2]
        rw [fst0_zero] at h ⊢
        intro a ha
        obtain ⟨y, hy, rfl⟩ := List.mem_map.1 ha
        exact chk_mono m y (h _ (List.mem_map.2 ⟨y, hy, rfl⟩))
      · rename_i h2; exact absurd h h2
theorem chk_le {m k : Nat} (h : m ≤ k) (x : Tlv) (h0 : chk m x = 0) : chk k x = 0 := by
  induction h with
  | refl => exact h0
  | step _ ih => exact chk_mono _ x ih
theorem depF_spec (s : List UInt8) : ∀ (k m : Nat), (depF s k m = 0 ∧ ∀ j : Nat, m ≤ j → j < m + k → chkS j s ≠ 0) ∨ (m ≤ depF s k m ∧ depF s k m < m + k ∧ chkS (depF s k m : Nat) s = 0 ∧ ∀ j : Nat, m ≤ j → j < depF s k m → chkS j s ≠ 0)
  | 0, m => .inl ⟨rfl, fun j h1 h2 => by omega⟩
  | k + 1, m => by
    rw [depF]
    split
    · rename_i h; exact .inr ⟨Nat.le_refl _, by omega, h, fun j h1 h2 => by omega⟩
    · rename_i h
      rcases depF_spec s k (m + 1) with ⟨h1, h2⟩ | ⟨h1, h2, h3, h4⟩
      · refine .inl ⟨h1, fun j hj hj2 => ?_⟩
        by_cases e : j = m
        · subst e; exact h
        · exact h2 j (by omega) (by omega)
      · refine .inr ⟨by omega, by omega, h3, fun j hj hj2 => ?_⟩
        by_cases e : j = m
        · subst e; exact h
        · exact h4 j (by omega) hj2
theorem depB_spec (s : List UInt8) (h : depB s ≠ 0) : 1 ≤ depB s ∧ depB s ≤ 64 ∧ chkS (depB s : Nat) s = 0 ∧ ∀ j : Nat, 1 ≤ j → j < depB s → chkS j s ≠ 0 := by
  rcases depF_spec s 64 1 with ⟨h1, h2⟩ | ⟨h1, h2, h3, h4⟩
  · exact absurd h1 h
  · exact ⟨h1, by unfold depB; omega, h3, h4⟩
theorem depB_is (s : List UInt8) (d : Nat) (h1 : 1 ≤ d) (h2 : d ≤ 64) (h3 : chkS (d : Nat) s = 0) (h4 : ∀ j : Nat, 1 ≤ j → j < d → chkS j s ≠ 0) : depB s = d := by
  rcases depF_spec s 64 1 with ⟨k1, k2⟩ | ⟨k1, k2, k3, k4⟩
  · exact absurd h3 (k2 d h1 (by omega))
  · rcases Nat.lt_trichotomy (depB s) d with h | h | h
    · exact absurd k3 (h4 _ k1 h)
    · exact h
    · exact absurd h3 (k4 d h1 h)
theorem chkS_whole {s : List UInt8} {x : Tlv} (hw : wholeB s = (x, 0)) {j : Nat} (h1 : 1 ≤ j) (h2 : j ≤ 64) : chkS j s = chk j x := by
  unfold chkS
  rw [if_neg (by omega), hw]
  simp only [if_true]
  rw [show (min (j : Int) 64).toNat = j by omega]
/-- What a whole text tells. -/
def rd (s : List UInt8) : Tlv := (readB s).1
theorem dep_whole (s : List UInt8) (h : depB s ≠ 0) : (readB s).2.2 = 0 ∧ (readB s).2.1 = s.length ∧ wholeB s = (rd s, 0) := by
  obtain ⟨h1, h2, h3, h4⟩ := depB_spec s h
  refine wholeB_ok s ?_
  unfold chkS at h3
  rw [if_neg (by omega)] at h3
  split at h3
  · assumption
  · rename_i h5; exact absurd h3 h5
theorem chk_dep (s : List UInt8) (h : depB s ≠ 0) (k : Nat) (hk : k ≤ 64) : chk k (rd s) = 0 ↔ depB s ≤ k := by
  obtain ⟨h1, h2, h3, h4⟩ := depB_spec s h
  have hw := (dep_whole s h).2.2
  constructor
  · intro h0
    rcases Nat.eq_zero_or_pos k with rfl | hp
    · simp [chk] at h0
    · refine Nat.not_lt.1 fun hlt => h4 k hp hlt ?_
      rw [chkS_whole hw hp hk]; exact h0
  · intro hle
    refine chk_le hle _ ?_
    rw [← chkS_whole hw h1 h2]; exact h3
theorem allF_flat : ∀ (l : List (List UInt8)) (k : Nat) (out : List Tlv), (∀ s ∈ l, (readB s).2.2 = 0 ∧ (readB s).2.1 = s.length) → l.flatten.length ≤ k → out.length + l.length ≤ 1024 → allF k l.flatten out = (out ++ l.map rd, 0)
  | [], k, out, _, _, _ => by rw [List.flatten_nil, allF_nil]; simp
  | s :: r, k, out, h, hk, hl => by
    obtain ⟨h1, h2⟩ := h s List.mem_cons_self
    have h3 := readB_ok s h1
    have ha := readB_app s r.flatten h1
    rw [List.flatten_cons] at hk ⊢
    rw [List.length_append] at hk
    simp only [List.length_cons] at hl
    rw [allF_step k (s ++ r.flatten) out (by intro e; rw [List.append_eq_nil_iff] at e; rw [e.1] at h3; simp at h3; omega) (by rw [List.length_append]; exact hk) (by rw [ha]; exact h1) (by omega), ha, h2, List.drop_left]
    rw [allF_flat r (k - 1) (out ++ [(readB s).1]) (fun x hx => h x (List.mem_cons_of_mem _ hx)) (by omega) (by rw [List.length_append, List.length_singleton]; omega)]
    simp [rd]
def dmx (l : List (List UInt8)) : Nat := l.foldl (fun a s => max a (depB s)) 0
theorem dmx_snoc (l : List (List UInt8)) (s : List UInt8) : dmx (l ++ [s]) = max (dmx l) (depB s) := by simp [dmx]
theorem dmx_le (l : List (List UInt8)) (k : Nat) : dmx l ≤ k ↔ ∀ s ∈ l, depB s ≤ k := by
  have : ∀ (l : List (List UInt8)) (a : Nat), l.foldl (fun a s => max a (depB s)) a ≤ k ↔ a ≤ k ∧ ∀ s ∈ l, depB s ≤ k := by
    intro l
    induction l with
    | nil => simp
    | cons s r ih =>
      intro a
      rw [List.foldl_cons, ih, List.forall_mem_cons]
      constructor
      · rintro ⟨h1, h2⟩; exact ⟨by omega, by omega, h2⟩
      · rintro ⟨h1, h2, h3⟩; exact ⟨by omega, h3⟩
  rw [dmx, this]
  simp
theorem nests (l : List (List UInt8)) (hl : l.length ≤ 8) (hf : l.flatten.length ≤ 1600) (h : ∀ s ∈ l, depB s ≠ 0) : (seqB l).2 = 0 ∧ (dmx l < 64 → depB (seqB l).1 = dmx l + 1) := by
  have h0 : (putB 48 l.flatten).2 = 0 := by rw [put_code _ _ (by omega)]; rfl
  refine ⟨h0, fun hd => ?_⟩
  have hr := read_put 48 l.flatten [] h0
  rw [List.append_nil] at hr
  have hw : wholeB (seqB l).1 = ((48, l.flatten, ()), 0) := by
    unfold wholeB seqB
    rw [hr, if_neg (by simp)]
  have ha : allB l.flatten = (l.map rd, 0) := by
    unfold allB
    rw [allF_flat l _ [] (fun s hs => ⟨(dep_whole s (h s hs)).1, (dep_whole s (h s hs)).2.1⟩) (Nat.le_refl _) (by simp; omega)]
    rfl
  have key : ∀ k : Nat, k + 1 ≤ 64 → (chkS ((k + 1 : Nat) : Int) (seqB l).1 = 0 ↔ dmx l ≤ k) := by
    intro k hk
    rw [chkS_whole hw (by omega) hk, chk, if_neg (by show ¬ ((48 : Int) / 32 % 2 = 0); decide)]
    simp only [ha, if_true]
    rw [fst0_zero, dmx_le]
    constructor
    · intro h1 s hs
      exact (chk_dep s (h s hs) k (by omega)).1 (h1 _ (List.mem_map.2 ⟨rd s, List.mem_map.2 ⟨s, hs, rfl⟩, rfl⟩))
    · intro h1 a ha
      obtain ⟨y, hy, rfl⟩ := List.mem_map.1 ha
      obtain ⟨s, hs, rfl⟩ := List.mem_map.1 hy
      exact (chk_dep s (h s hs) k (by omega)).2 (h1 s hs)
  refine depB_is _ _ (by omega) (by omega) ((key _ (by omega)).2 (Nat.le_refl _)) (fun j h1 h2 h3 => ?_)
  obtain ⟨k, rfl⟩ : ∃ k, j = k + 1 := ⟨j - 1, by omega⟩
  have := (key k (by omega)).1 h3
  omega
end Go.Proofs.Ytcffpndhodhncaa
end
section
/- Rows of parts: what is put is read, and the other way round. -/
set_option linter.unusedSimpArgs false
set_option linter.unusedVariables false
namespace Go.Proofs.Ytcffpndhodhncaa
open Go.RowKit Go.Bo Go.Ab

def pt (x : Tlv) : List UInt8 := (putB x.1 x.2.1).1
def gT (x : Tlv) : Prop := okT x ∧ tagB x.1 = true
theorem pt_ok {x : Tlv} (h : gT x) : putB x.1 x.2.1 = (pt x, 0) := Prod.ext rfl (chk_put x h).1
theorem pt_read {x : Tlv} (h : gT x) (more : List UInt8) : readB (pt x ++ more) = (x, (pt x).length, 0) := read_put x.1 x.2.1 more (chk_put x h).1
theorem pt_read0 {x : Tlv} (h : gT x) : readB (pt x) = (x, (pt x).length, 0) := by have := pt_read h []; rwa [List.append_nil] at this
theorem pt_len {x : Tlv} (h : gT x) : (pt x).length ≤ x.2.1.length + 6 := by
  have h1 := put_len x.1 x.2.1 (chk_put x h).1
  have h2 := lenB_le x.2.1.length (by have := h.1.2.2; omega)
  unfold pt
  omega
theorem allF_inv : ∀ (k : Nat) (s : List UInt8) (out : List Tlv), s.length ≤ k → (allF k s out).2 = 0 → ∃ l : List Tlv, (allF k s out).1 = out ++ l ∧ s = (l.map pt).flatten ∧ ∀ x ∈ l, gT x
  | 0, s, out, hk, h => ⟨[], by simp [allF], by simpa using List.length_eq_zero_iff.1 (by omega), by simp⟩
  | k + 1, s, out, hk, h => by
    rw [allF] at h ⊢
    split at h
    · rename_i h0; rw [if_pos h0]; subst h0; exact ⟨[], by simp, by simp, by simp⟩
    · rename_i h0
      rw [if_neg h0]
      split at h
      · rename_i h1
        rw [if_pos h1]
        split at h
        · cases h
        · rename_i h2
          rw [if_neg h2]
          have hr := readB_ok s h1
          obtain ⟨l, k1, k2, k3⟩ := allF_inv k (s.drop (readB s).2.1) (out ++ [(readB s).1]) (by rw [List.length_drop]; omega) h
          refine ⟨(readB s).1 :: l, by rw [k1]; simp, ?_, ?_⟩
          · rw [List.map_cons, List.flatten_cons, ← k2]
            have hp : pt (readB s).1 = s.take (readB s).2.1 := by unfold pt; rw [put_read s h1]
            rw [hp, List.take_append_drop]
          · intro x hx
            rcases List.mem_cons.1 hx with rfl | hx
            · have := readB_okT s h1; exact ⟨this.1, this.2.1⟩
            · exact k3 x hx
      · rename_i h1; exact absurd h h1
theorem allB_inv (s : List UInt8) (h : (allB s).2 = 0) : s = ((allB s).1.map pt).flatten := by
  obtain ⟨l, h1, h2, _⟩ := allF_inv s.length s [] (Nat.le_refl _) h
  have : (allB s).1 = l := by unfold allB; rw [h1]; rfl
  rw [this]; exact h2
theorem allB_put (l : List Tlv) (h : ∀ x ∈ l, gT x) (hl : l.length ≤ 1024) : allB (l.map pt).flatten = (l, 0) := by
  unfold allB
  rw [allF_flat (l.map pt) _ [] (fun s hs => ?_) (Nat.le_refl _) (by simpa using hl)]
  · congr 1
    rw [List.nil_append, List.map_map]
    conv => rhs; rw [← List.map_id l]
    refine List.map_congr_left fun x hx => ?_
    show (readB (pt x)).1 = x
    rw [pt_read0 (h x hx)]
  · obtain ⟨x, hx, rfl⟩ := List.mem_map.1 hs
    rw [pt_read0 (h x hx)]
    exact ⟨rfl, rfl⟩
theorem prt_inv : ∀ (L : List Tlv) (ts : List Int) (out : List (List UInt8)), L.length = ts.length → (prt L ts out).2 = 0 → L.map (·.1) = ts ∧ (prt L ts out).1 = out ++ L.map (·.2.1)
  | [], [], out, _, _ => by simp [prt]
  | x :: r, t :: ts, out, hl, h => by
    rw [prt] at h ⊢
    split at h
    · rename_i h1
      rw [if_pos h1]
      obtain ⟨k1, k2⟩ := prt_inv r ts _ (by simpa using hl) h
      exact ⟨by rw [List.map_cons, k1, h1], by rw [k2]; simp⟩
    · cases h
theorem prt_ok : ∀ (L : List Tlv) (out : List (List UInt8)), prt L (L.map (·.1)) out = (out ++ L.map (·.2.1), 0)
  | [], out => by simp [prt]
  | x :: r, out => by rw [List.map_cons, prt, if_pos rfl, prt_ok r]; simp
theorem prtB_inv (s : List UInt8) (tags : List Int) (h : (prtB s tags).2 = 0) : ∃ L : List Tlv, L.map (·.1) = tags ∧ (prtB s tags).1 = L.map (·.2.1) ∧ putB 48 (L.map pt).flatten = (s, 0) ∧ (∀ x ∈ L, gT x) ∧ L.length ≤ 1024 := by
  unfold prtB at h ⊢
  split at h
  · rename_i h0
    rw [if_pos h0]
    split at h
    · rename_i h1
      rw [if_pos h1]
      split at h
      · cases h
      · rename_i h2
        rw [if_neg h2]
        split at h
        · rename_i h3
          rw [if_pos h3]
          split at h
          · rename_i h4
            rw [if_pos h4]
            obtain ⟨k1, k2⟩ := prt_inv _ _ _ h4 h
            have ha := allB_okT (readB s).1.2.1
            have hr := (readB_ok s h0).2
            have hp := put_read s h0
            refine ⟨(allB (readB s).1.2.1).1, k1, by simpa using k2, ?_, ha.2, ha.1⟩
            rw [← allB_inv _ h3, ← h1, hp, List.take_of_length_le (by omega)]
          · cases h
        · rename_i h3; exact absurd h h3
    · cases h
  · rename_i h0; exact absurd h h0
theorem prtB_put (L : List Tlv) (h : ∀ x ∈ L, gT x) (hl : L.length ≤ 1024) (s : List UInt8) (h0 : putB 48 (L.map pt).flatten = (s, 0)) : prtB s (L.map (·.1)) = (L.map (·.2.1), 0) := by
  have hr := read_put 48 (L.map pt).flatten [] (by rw [h0])
  rw [List.append_nil, h0] at hr
  simp only at hr
  unfold prtB
  rw [hr]
  simp only [if_true, Nat.lt_irrefl, if_false]
  rw [allB_put L h hl]
  simp only [if_true, List.length_map]
  rw [prt_ok]
  rfl
theorem prt_err : ∀ (L : List Tlv) (ts : List Int) (out : List (List UInt8)), (prt L ts out).2 ≠ 0 → (prt L ts out).1 = []
  | x :: r, t :: ts, out, h => by
    rw [prt] at h ⊢
    split at h
    · rename_i h1; rw [if_pos h1]; exact prt_err r ts _ h
    · rename_i h1; rw [if_neg h1]
  | [], ts, out, h => by simp [prt] at h
  | x :: r, [], out, h => by simp [prt] at h
theorem prtB_err (s : List UInt8) (tags : List Int) (h : ¬ (prtB s tags).2 = 0) : ∃ e, prtB s tags = ([], e) ∧ e ≠ 0 ∧ (e == 0) = false ∧ (e != 0) = true := by
  have h1 : (prtB s tags).1 = [] := by
    unfold prtB at h ⊢
    split
    · rename_i h0
      rw [if_pos h0] at h
      split
      · rename_i h1
        rw [if_pos h1] at h
        split
        · rfl
        · rename_i h2
          rw [if_neg h2] at h
          split
          · rename_i h3
            rw [if_pos h3] at h
            split
            · rename_i h4; rw [if_pos h4] at h; exact prt_err _ _ _ h
            · rfl
          · rfl
      · rfl
    · rfl
  exact ⟨(prtB s tags).2, Prod.ext h1 rfl, h, by simpa using h, by simpa using h⟩
end Go.Proofs.Ytcffpndhodhncaa
end
