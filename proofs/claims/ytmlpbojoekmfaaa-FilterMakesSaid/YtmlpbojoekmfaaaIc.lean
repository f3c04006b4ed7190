/- The code of functions, as the abstract evaluator reads it. Printed by gen_ic.py. -/
import Derived.Test.YtmlpbojoekmfaaaProg
import Derived.Test.YtmlpbojoekmfaaaLA4
namespace Go.Proofs.Ytmlpbojoekmfaaa
open Go.RowKit Go.Bo Go.Ab
/-- bothy/bothylaw11.FilterMakes -/
def i3 : IFn := ⟨131, [.tmp 2], (.seq (.reg [⟨some 2, .mv (.c (.x (.bool false))), none⟩])
  (.seq (.seq (.reg [⟨some 9, .mv (.t 0), none⟩, ⟨some 10, .len false (.t 9), none⟩, ⟨some 11, .bin .gtr (.t 10) (.c (.x (.int .i64 (8)))), none⟩])
  (.cond (.t 11)
    (.seq (.reg [⟨some 12, .call (.c (.fn 4 [])) [], none⟩, ⟨some 2, .mv (.t 12), none⟩])
    .ret)
    .skip))
  (.seq (.reg [⟨some 3, .mv (.c (.x (.int .i64 (0)))), none⟩])
  (.seq (.seq (.reg [⟨some 4, .mv (.c (.x (.int .i64 (0)))), none⟩])
  (.block 0
    (.loop
      (.seq (.seq (.reg [⟨some 13, .mv (.t 4), none⟩, ⟨some 14, .mv (.t 0), none⟩, ⟨some 15, .len false (.t 14), none⟩, ⟨some 16, .bin .lss (.t 13) (.t 15), none⟩])
      (.cond (.t 16)
        .skip
        (.exit 0)))
      (.seq (.block 1
        (.seq (.seq (.reg [⟨some 19, .mv (.t 0), none⟩, ⟨some 20, .mv (.t 4), none⟩, ⟨some 21, .iad 7 (.t 19) (.t 20), none⟩, ⟨some 22, .ld 7 true (.t 21), none⟩, ⟨some 23, .call (.c (.fn 5 [])) [(.t 22)], none⟩, ⟨some 24, .un .not (.t 23), none⟩])
        (.cond (.t 24)
          (.seq (.reg [⟨some 25, .call (.c (.fn 4 [])) [], none⟩, ⟨some 2, .mv (.t 25), none⟩])
          .ret)
          .skip))
        (.reg [⟨some 26, .mv (.t 3), none⟩, ⟨some 27, .mv (.t 0), none⟩, ⟨some 28, .mv (.t 4), none⟩, ⟨some 29, .iad 7 (.t 27) (.t 28), none⟩, ⟨some 30, .ld 7 true (.t 29), none⟩, ⟨some 31, .call (.c (.fn 6 [])) [(.t 30)], none⟩, ⟨some 32, .mnx true (.t 26) (.t 31), none⟩, ⟨some 3, .mv (.t 32), none⟩])))
      (.reg [⟨some 17, .mv (.t 4), none⟩, ⟨some 18, .bin .add (.t 17) (.c (.x (.int .i64 (1)))), none⟩, ⟨some 4, .mv (.t 18), none⟩]))))))
  (.seq (.reg [⟨some 33, .mv (.t 0), none⟩, ⟨some 34, .call (.c (.fn 7 [])) [(.t 33)], none⟩, ⟨some 35, .mv (.t 0), none⟩, ⟨some 36, .call (.c (.fn 8 [])) [(.t 35)], none⟩, ⟨some 5, .box (.c (.agg [.x (.int .i64 (0)), .x (.str []), .x (.str []), .x (.str []), .x .nils, .x (.str []), .x .nils])), none⟩, ⟨some 6, .box (.c (.agg [.x (.int .i64 (0)), .x (.str []), .x (.str []), .x (.str []), .x .nils, .x (.str []), .x .nils])), none⟩, ⟨none, .sto 7 (.t 5) (.t 34), none⟩, ⟨none, .sto 7 (.t 6) (.t 36), none⟩])
  (.seq (.seq (.reg [⟨some 37, .fad 0 (.t 5), none⟩, ⟨some 38, .ld 1 false (.t 37), none⟩, ⟨some 39, .bin .neq (.t 38) (.c (.x (.int .i64 (0)))), none⟩, ⟨some 40, .mv (.t 39), none⟩, ⟨some 41, .fad 0 (.t 6), (some (40, false))⟩, ⟨some 42, .ld 1 false (.t 41), (some (40, false))⟩, ⟨some 43, .bin .neq (.t 42) (.c (.x (.int .i64 (1)))), (some (40, false))⟩, ⟨some 44, .pick (.t 40) (.c (.x (.bool true))) (.t 43), none⟩, ⟨some 45, .mv (.t 44), none⟩, ⟨some 46, .fad 6 (.t 5), (some (45, false))⟩, ⟨some 47, .ld 1 false (.t 46), (some (45, false))⟩, ⟨some 48, .len false (.t 47), (some (45, false))⟩, ⟨some 49, .mv (.t 0), (some (45, false))⟩, ⟨some 50, .len false (.t 49), (some (45, false))⟩, ⟨some 51, .bin .neq (.t 48) (.t 50), (some (45, false))⟩, ⟨some 52, .pick (.t 45) (.c (.x (.bool true))) (.t 51), none⟩, ⟨some 53, .mv (.t 52), none⟩, ⟨some 54, .fad 6 (.t 6), (some (53, false))⟩, ⟨some 55, .ld 1 false (.t 54), (some (53, false))⟩, ⟨some 56, .len false (.t 55), (some (53, false))⟩, ⟨some 57, .mv (.t 0), (some (53, false))⟩, ⟨some 58, .len false (.t 57), (some (53, false))⟩, ⟨some 59, .bin .neq (.t 56) (.t 58), (some (53, false))⟩, ⟨some 60, .pick (.t 53) (.c (.x (.bool true))) (.t 59), none⟩])
  (.cond (.t 60)
    (.seq (.reg [⟨some 2, .mv (.c (.x (.bool false))), none⟩])
    .ret)
    .skip))
  (.seq (.seq (.reg [⟨some 7, .mv (.c (.x (.int .i64 (0)))), none⟩])
  (.block 2
    (.loop
      (.seq (.seq (.reg [⟨some 61, .mv (.t 7), none⟩, ⟨some 62, .mv (.t 0), none⟩, ⟨some 63, .len false (.t 62), none⟩, ⟨some 64, .bin .lss (.t 61) (.t 63), none⟩])
      (.cond (.t 64)
        .skip
        (.exit 2)))
      (.seq (.block 3
        (.seq (.reg [⟨some 67, .mv (.t 0), none⟩, ⟨some 68, .mv (.t 7), none⟩, ⟨some 69, .iad 7 (.t 67) (.t 68), none⟩, ⟨some 70, .ld 7 true (.t 69), none⟩, ⟨some 71, .call (.c (.fn 9 [])) [(.t 70)], none⟩, ⟨some 8, .box (.c (.agg [.x (.int .i64 (0)), .x (.str []), .x (.str []), .x (.str []), .x .nils, .x (.str []), .x .nils])), none⟩, ⟨none, .sto 7 (.t 8) (.t 71), none⟩])
        (.seq (.dreg 44 [] [⟨some 72, .fad 6 (.t 5), none⟩, ⟨some 73, .ld 1 false (.t 72), none⟩, ⟨some 74, .mv (.t 7), none⟩, ⟨some 75, .iad 7 (.t 73) (.t 74), none⟩, ⟨some 76, .ld 7 true (.t 75), none⟩, ⟨some 77, .mv (.t 0), none⟩, ⟨some 78, .mv (.t 7), none⟩, ⟨some 79, .iad 7 (.t 77) (.t 78), none⟩, ⟨some 80, .ld 7 true (.t 79), none⟩, ⟨some 81, .call (.c (.fn 10 [])) [(.t 76), (.t 80)], none⟩, ⟨some 82, .un .not (.t 81), none⟩, ⟨some 83, .mv (.t 82), none⟩, ⟨some 84, .fad 6 (.t 6), (some (83, false))⟩, ⟨some 85, .ld 1 false (.t 84), (some (83, false))⟩, ⟨some 86, .mv (.t 7), (some (83, false))⟩, ⟨some 87, .iad 7 (.t 85) (.t 86), (some (83, false))⟩, ⟨some 88, .ld 7 true (.t 87), (some (83, false))⟩, ⟨some 89, .mv (.t 0), (some (83, false))⟩, ⟨some 90, .mv (.t 7), (some (83, false))⟩, ⟨some 91, .iad 7 (.t 89) (.t 90), (some (83, false))⟩, ⟨some 92, .ld 7 true (.t 91), (some (83, false))⟩, ⟨some 93, .call (.c (.fn 10 [])) [(.t 88), (.t 92)], (some (83, false))⟩, ⟨some 94, .un .not (.t 93), (some (83, false))⟩, ⟨some 95, .pick (.t 83) (.c (.x (.bool true))) (.t 94), none⟩, ⟨some 96, .mv (.t 95), none⟩, ⟨some 97, .fad 0 (.t 8), (some (96, false))⟩, ⟨some 98, .ld 1 false (.t 97), (some (96, false))⟩, ⟨some 99, .bin .neq (.t 98) (.c (.x (.int .i64 (2)))), (some (96, false))⟩, ⟨some 100, .pick (.t 96) (.c (.x (.bool true))) (.t 99), none⟩, ⟨some 101, .mv (.t 100), none⟩, ⟨some 102, .fad 6 (.t 8), (some (101, false))⟩, ⟨some 103, .ld 1 false (.t 102), (some (101, false))⟩, ⟨some 104, .len false (.t 103), (some (101, false))⟩, ⟨some 105, .bin .neq (.t 104) (.c (.x (.int .i64 (1)))), (some (101, false))⟩, ⟨some 106, .pick (.t 101) (.c (.x (.bool true))) (.t 105), none⟩, ⟨some 107, .mv (.t 106), none⟩, ⟨some 108, .fad 6 (.t 8), (some (107, false))⟩, ⟨some 109, .ld 1 false (.t 108), (some (107, false))⟩, ⟨some 110, .iad 7 (.t 109) (.c (.x (.int .i64 (0)))), (some (107, false))⟩, ⟨some 111, .ld 7 true (.t 110), (some (107, false))⟩, ⟨some 112, .mv (.t 0), (some (107, false))⟩, ⟨some 113, .mv (.t 7), (some (107, false))⟩, ⟨some 114, .iad 7 (.t 112) (.t 113), (some (107, false))⟩, ⟨some 115, .ld 7 true (.t 114), (some (107, false))⟩, ⟨some 116, .call (.c (.fn 10 [])) [(.t 111), (.t 115)], (some (107, false))⟩, ⟨some 117, .un .not (.t 116), (some (107, false))⟩, ⟨some 118, .pick (.t 107) (.c (.x (.bool true))) (.t 117), none⟩])
        (.cond (.t 118)
          (.seq (.reg [⟨some 2, .mv (.c (.x (.bool false))), none⟩])
          .ret)
          .skip))))
      (.reg [⟨some 65, .mv (.t 7), none⟩, ⟨some 66, .bin .add (.t 65) (.c (.x (.int .i64 (1)))), none⟩, ⟨some 7, .mv (.t 66), none⟩]))))))
  (.seq (.reg [⟨some 119, .mv (.t 3), none⟩, ⟨some 120, .bin .gtr (.t 119) (.c (.x (.int .i64 (64)))), none⟩, ⟨some 121, .mv (.t 120), none⟩, ⟨some 122, .ld 7 true (.t 5), (some (121, false))⟩, ⟨some 123, .call (.c (.fn 6 [])) [(.t 122)], (some (121, false))⟩, ⟨some 124, .mv (.t 3), (some (121, false))⟩, ⟨some 125, .bin .add (.t 124) (.c (.x (.int .i64 (1)))), (some (121, false))⟩, ⟨some 126, .bin .eql (.t 123) (.t 125), (some (121, false))⟩, ⟨some 127, .pick (.t 121) (.c (.x (.bool true))) (.t 126), none⟩, ⟨some 128, .mv (.t 127), none⟩, ⟨some 129, .call (.c (.fn 4 [])) [], (some (128, true))⟩, ⟨some 130, .pick (.t 128) (.t 129) (.c (.x (.bool false))), none⟩, ⟨some 2, .mv (.t 130), none⟩])
  .ret))))))))⟩
theorem c3 : compFn Try.prog Try.f3 = some i3 := by kernel_rfl
/-- bothy/bothylaw11.awake -/
def i4 : IFn := ⟨50, [.tmp 0], (.seq (.reg [⟨some 0, .mv (.c (.x (.bool false))), none⟩])
  (.seq (.reg [⟨some 2, .call (.c (.fn 11 [])) [(.c (.x (.int .i64 (3)))), (.c (.x (.str [67, 78]))), (.c (.x (.str [97])))], none⟩, ⟨some 3, .call (.c (.fn 11 [])) [(.c (.x (.int .i64 (7)))), (.c (.x (.str [115, 110]))), (.c (.x (.str [])))], none⟩, ⟨some 4, .call (.c (.fn 9 [])) [(.t 3)], none⟩, ⟨some 5, .bsl 29 7 2 [(.t 2), (.t 4)], none⟩, ⟨some 6, .call (.c (.fn 7 [])) [(.t 5)], none⟩, ⟨some 1, .box (.c (.agg [.x (.int .i64 (0)), .x (.str []), .x (.str []), .x (.str []), .x .nils, .x (.str []), .x .nils])), none⟩, ⟨none, .sto 7 (.t 1) (.t 6), none⟩])
  (.seq (.dreg 13 [10, 31, 32, 36, 37] [⟨some 7, .call (.c (.fn 7 [])) [(.c (.x .nils))], none⟩, ⟨some 8, .call (.c (.fn 9 [])) [(.t 7)], none⟩, ⟨some 9, .call (.c (.fn 6 [])) [(.t 8)], none⟩, ⟨some 10, .bin .eql (.t 9) (.c (.x (.int .i64 (2)))), none⟩, ⟨some 11, .mv (.t 10), none⟩, ⟨some 12, .ld 7 true (.t 1), (some (11, true))⟩, ⟨some 13, .call (.c (.fn 12 [])) [(.t 12)], (some (11, true))⟩, ⟨some 14, .bin .eql (.t 13) (.c (.x (.int .i64 (0)))), (some (11, true))⟩, ⟨some 15, .pick (.t 11) (.t 14) (.c (.x (.bool false))), none⟩, ⟨some 16, .mv (.t 15), none⟩, ⟨some 17, .ld 7 true (.t 1), (some (16, true))⟩, ⟨some 18, .call (.c (.fn 14 [])) [(.t 17)], (some (16, true))⟩, ⟨some 19, .bsl 9 1 2 [(.c (.x (.str [99, 110]))), (.c (.x (.str [115, 110])))], (some (16, true))⟩, ⟨some 20, .call (.c (.fn 13 [])) [(.t 18), (.t 19)], (some (16, true))⟩, ⟨some 21, .pick (.t 16) (.t 20) (.c (.x (.bool false))), none⟩, ⟨some 22, .mv (.t 21), none⟩, ⟨some 23, .call (.c (.fn 11 [])) [(.c (.x (.int .i64 (9)))), (.c (.x (.str [99, 110]))), (.c (.x (.str [])))], (some (22, true))⟩, ⟨some 24, .call (.c (.fn 12 [])) [(.t 23)], (some (22, true))⟩, ⟨some 25, .bin .eql (.t 24) (.c (.x (.int .i64 (1)))), (some (22, true))⟩, ⟨some 26, .pick (.t 22) (.t 25) (.c (.x (.bool false))), none⟩, ⟨some 27, .mv (.t 26), none⟩, ⟨some 28, .call (.c (.fn 11 [])) [(.c (.x (.int .i64 (7)))), (.c (.x (.str [99, 110]))), (.c (.x (.str [120])))], (some (27, true))⟩, ⟨some 29, .call (.c (.fn 12 [])) [(.t 28)], (some (27, true))⟩, ⟨some 30, .bin .eql (.t 29) (.c (.x (.int .i64 (5)))), (some (27, true))⟩, ⟨some 31, .pick (.t 27) (.t 30) (.c (.x (.bool false))), none⟩, ⟨some 32, .mv (.t 31), none⟩, ⟨some 33, .call (.c (.fn 11 [])) [(.c (.x (.int .i64 (3)))), (.c (.x (.str [49]))), (.c (.x (.str [120])))], (some (32, true))⟩, ⟨some 34, .call (.c (.fn 12 [])) [(.t 33)], (some (32, true))⟩, ⟨some 35, .bin .eql (.t 34) (.c (.x (.int .i64 (13)))), (some (32, true))⟩, ⟨some 36, .pick (.t 32) (.t 35) (.c (.x (.bool false))), none⟩, ⟨some 37, .mv (.t 36), none⟩, ⟨some 38, .ld 7 true (.t 1), (some (37, true))⟩, ⟨some 39, .ld 7 true (.t 1), (some (37, true))⟩, ⟨some 40, .call (.c (.fn 15 [])) [(.t 38), (.t 39)], (some (37, true))⟩, ⟨some 41, .pick (.t 37) (.t 40) (.c (.x (.bool false))), none⟩, ⟨some 42, .mv (.t 41), none⟩, ⟨some 43, .ld 7 true (.t 1), (some (42, true))⟩, ⟨some 44, .ld 7 true (.t 1), (some (42, true))⟩, ⟨some 45, .bsl 29 7 1 [(.t 44)], (some (42, true))⟩, ⟨some 46, .call (.c (.fn 8 [])) [(.t 45)], (some (42, true))⟩, ⟨some 47, .call (.c (.fn 15 [])) [(.t 43), (.t 46)], (some (42, true))⟩, ⟨some 48, .un .not (.t 47), (some (42, true))⟩, ⟨some 49, .pick (.t 42) (.t 48) (.c (.x (.bool false))), none⟩, ⟨some 0, .mv (.t 49), none⟩])
  .ret)))⟩
theorem c4 : compFn Try.prog Try.f4 = some i4 := by kernel_rfl
/-- bothy/bothylaw11.Few -/
def i5 : IFn := ⟨10, [.tmp 2], (.seq (.reg [⟨some 1, .box (.t 0), none⟩, ⟨some 2, .mv (.c (.x (.bool false))), none⟩])
  (.seq (.reg [⟨some 3, .ld 7 true (.t 1), none⟩, ⟨some 4, .call (.c (.fn 16 [])) [(.t 3), (.c (.x (.int .i64 (200))))], none⟩, ⟨some 5, .bin .lss (.t 4) (.c (.x (.int .i64 (200)))), none⟩, ⟨some 6, .mv (.t 5), none⟩, ⟨some 7, .ld 7 true (.t 1), (some (6, true))⟩, ⟨some 8, .call (.c (.fn 17 [])) [(.t 7)], (some (6, true))⟩, ⟨some 9, .pick (.t 6) (.t 8) (.c (.x (.bool false))), none⟩, ⟨some 2, .mv (.t 9), none⟩])
  .ret))⟩
theorem c5 : compFn Try.prog Try.f5 = some i5 := by kernel_rfl
/-- bothy/filter.Depth -/
def i6 : IFn := ⟨5, [.tmp 2], (.seq (.reg [⟨some 1, .box (.t 0), none⟩, ⟨some 2, .mv (.c (.x (.int .i64 (0)))), none⟩])
  (.seq (.reg [⟨some 3, .ld 7 true (.t 1), none⟩, ⟨some 4, .call (.c (.fn 18 [])) [(.t 3), (.c (.x (.int .i64 (64))))], none⟩, ⟨some 2, .mv (.t 4), none⟩])
  .ret))⟩
theorem c6 : compFn Try.prog Try.f6 = some i6 := by kernel_rfl
/-- bothy/filter.And -/
def i7 : IFn := ⟨6, [.cell 2 7 true], (.seq (.reg [⟨some 2, .box (.c (.agg [.x (.int .i64 (0)), .x (.str []), .x (.str []), .x (.str []), .x .nils, .x (.str []), .x .nils])), none⟩])
  (.seq (.reg [⟨some 3, .mv (.t 0), none⟩, ⟨some 4, .call (.c (.fn 19 [])) [(.t 3)], none⟩, ⟨some 5, .build [.x (.int .i64 (0)), .x (.str []), .x (.str []), .x (.str []), .x .nils, .x (.str []), .x .nils] [(0, 1, (.c (.x (.int .i64 (0))))), (6, 1, (.t 4))], none⟩, ⟨none, .sto 7 (.t 2) (.t 5), none⟩])
  .ret))⟩
theorem c7 : compFn Try.prog Try.f7 = some i7 := by kernel_rfl
/-- bothy/filter.Or -/
def i8 : IFn := ⟨6, [.cell 2 7 true], (.seq (.reg [⟨some 2, .box (.c (.agg [.x (.int .i64 (0)), .x (.str []), .x (.str []), .x (.str []), .x .nils, .x (.str []), .x .nils])), none⟩])
  (.seq (.reg [⟨some 3, .mv (.t 0), none⟩, ⟨some 4, .call (.c (.fn 19 [])) [(.t 3)], none⟩, ⟨some 5, .build [.x (.int .i64 (0)), .x (.str []), .x (.str []), .x (.str []), .x .nils, .x (.str []), .x .nils] [(0, 1, (.c (.x (.int .i64 (1))))), (6, 1, (.t 4))], none⟩, ⟨none, .sto 7 (.t 2) (.t 5), none⟩])
  .ret))⟩
theorem c8 : compFn Try.prog Try.f8 = some i8 := by kernel_rfl
/-- bothy/filter.Not -/
def i9 : IFn := ⟨6, [.cell 2 7 true], (.seq (.reg [⟨some 1, .box (.t 0), none⟩, ⟨some 2, .box (.c (.agg [.x (.int .i64 (0)), .x (.str []), .x (.str []), .x (.str []), .x .nils, .x (.str []), .x .nils])), none⟩])
  (.seq (.reg [⟨some 3, .ld 7 true (.t 1), none⟩, ⟨some 4, .bsl 29 7 1 [(.t 3)], none⟩, ⟨some 5, .build [.x (.int .i64 (0)), .x (.str []), .x (.str []), .x (.str []), .x .nils, .x (.str []), .x .nils] [(0, 1, (.c (.x (.int .i64 (2))))), (6, 1, (.t 4))], none⟩, ⟨none, .sto 7 (.t 2) (.t 5), none⟩])
  .ret))⟩
theorem c9 : compFn Try.prog Try.f9 = some i9 := by kernel_rfl
/-- bothy/bothyref11.Same -/
def i10 : IFn := ⟨8, [.tmp 4], (.seq (.reg [⟨some 2, .box (.t 0), none⟩, ⟨some 3, .box (.t 1), none⟩, ⟨some 4, .mv (.c (.x (.bool false))), none⟩])
  (.seq (.reg [⟨some 5, .ld 7 true (.t 2), none⟩, ⟨some 6, .ld 7 true (.t 3), none⟩, ⟨some 7, .call (.c (.fn 20 [])) [(.t 5), (.t 6), (.c (.x (.int .i64 (64))))], none⟩, ⟨some 4, .mv (.t 7), none⟩])
  .ret))⟩
theorem c10 : compFn Try.prog Try.f10 = some i10 := by kernel_rfl
/-- bothy/bothylaw11.leaf -/
def i11 : IFn := ⟨11, [.cell 6 7 true], (.seq (.reg [⟨some 6, .box (.c (.agg [.x (.int .i64 (0)), .x (.str []), .x (.str []), .x (.str []), .x .nils, .x (.str []), .x .nils])), none⟩])
  (.seq (.reg [⟨some 7, .mv (.t 0), none⟩, ⟨some 8, .mv (.t 1), none⟩, ⟨some 9, .mv (.t 2), none⟩, ⟨some 10, .build [.x (.int .i64 (0)), .x (.str []), .x (.str []), .x (.str []), .x .nils, .x (.str []), .x .nils] [(0, 1, (.t 7)), (1, 1, (.t 8)), (2, 1, (.t 9))], none⟩, ⟨none, .sto 7 (.t 6) (.t 10), none⟩])
  .ret))⟩
theorem c11 : compFn Try.prog Try.f11 = some i11 := by kernel_rfl
/-- bothy/filter.Check -/
def i12 : IFn := ⟨8, [.tmp 2], (.seq (.reg [⟨some 1, .box (.t 0), none⟩, ⟨some 2, .mv (.c (.x (.int .i64 (0)))), none⟩])
  (.seq (.seq (.reg [⟨some 3, .ld 7 true (.t 1), none⟩, ⟨some 4, .call (.c (.fn 6 [])) [(.t 3)], none⟩, ⟨some 5, .bin .gtr (.t 4) (.c (.x (.int .i64 (16)))), none⟩])
  (.cond (.t 5)
    (.seq (.reg [⟨some 2, .mv (.c (.x (.int .i64 (7)))), none⟩])
    .ret)
    .skip))
  (.seq (.reg [⟨some 6, .ld 7 true (.t 1), none⟩, ⟨some 7, .call (.c (.fn 21 [])) [(.t 6)], none⟩, ⟨some 2, .mv (.t 7), none⟩])
  .ret)))⟩
theorem c12 : compFn Try.prog Try.f12 = some i12 := by kernel_rfl
/-- bothy/bothyref01.Texts -/
def i13 : IFn := ⟨26, [.tmp 4], (.seq (.reg [⟨some 4, .mv (.c (.x (.bool false))), none⟩])
  (.seq (.seq (.reg [⟨some 6, .mv (.t 0), none⟩, ⟨some 7, .len false (.t 6), none⟩, ⟨some 8, .mv (.t 1), none⟩, ⟨some 9, .len false (.t 8), none⟩, ⟨some 10, .bin .neq (.t 7) (.t 9), none⟩])
  (.cond (.t 10)
    (.seq (.reg [⟨some 4, .mv (.c (.x (.bool false))), none⟩])
    .ret)
    .skip))
  (.seq (.seq (.reg [⟨some 5, .mv (.c (.x (.int .i64 (0)))), none⟩])
  (.block 0
    (.loop
      (.seq (.seq (.reg [⟨some 11, .mv (.t 5), none⟩, ⟨some 12, .mv (.t 0), none⟩, ⟨some 13, .len false (.t 12), none⟩, ⟨some 14, .bin .lss (.t 11) (.t 13), none⟩])
      (.cond (.t 14)
        .skip
        (.exit 0)))
      (.seq (.block 1
        (.seq (.dreg 8 [] [⟨some 17, .mv (.t 0), none⟩, ⟨some 18, .mv (.t 5), none⟩, ⟨some 19, .iad 1 (.t 17) (.t 18), none⟩, ⟨some 20, .ld 1 false (.t 19), none⟩, ⟨some 21, .mv (.t 1), none⟩, ⟨some 22, .mv (.t 5), none⟩, ⟨some 23, .iad 1 (.t 21) (.t 22), none⟩, ⟨some 24, .ld 1 false (.t 23), none⟩, ⟨some 25, .bin .neq (.t 20) (.t 24), none⟩])
        (.cond (.t 25)
          (.seq (.reg [⟨some 4, .mv (.c (.x (.bool false))), none⟩])
          .ret)
          .skip)))
      (.reg [⟨some 15, .mv (.t 5), none⟩, ⟨some 16, .bin .add (.t 15) (.c (.x (.int .i64 (1)))), none⟩, ⟨some 5, .mv (.t 16), none⟩]))))))
  (.seq (.reg [⟨some 4, .mv (.c (.x (.bool true))), none⟩])
  .ret))))⟩
theorem c13 : compFn Try.prog Try.f13 = some i13 := by kernel_rfl
/-- bothy/filter.Attrs -/
def i14 : IFn := ⟨10, [.tmp 2], (.seq (.reg [⟨some 1, .box (.t 0), none⟩, ⟨some 2, .mv (.c (.x .nils)), none⟩])
  (.seq (.reg [⟨some 4, .ld 7 true (.t 1), none⟩, ⟨some 5, .call (.c (.fn 22 [])) [(.t 4), (.c (.x (.int .i64 (64))))], none⟩, ⟨some 3, .mv (.t 5), none⟩])
  (.seq (.reg [⟨some 6, .mv (.t 3), none⟩, ⟨some 7, .call (.c (.fn 23 [])) [(.t 6)], none⟩])
  (.seq (.reg [⟨some 8, .mv (.t 3), none⟩, ⟨some 9, .call (.c (.fn 24 [])) [(.t 8)], none⟩, ⟨some 2, .mv (.t 9), none⟩])
  .ret))))⟩
theorem c14 : compFn Try.prog Try.f14 = some i14 := by kernel_rfl
/-- bothy/filter.Same -/
def i15 : IFn := ⟨8, [.tmp 4], (.seq (.reg [⟨some 2, .box (.t 0), none⟩, ⟨some 3, .box (.t 1), none⟩, ⟨some 4, .mv (.c (.x (.bool false))), none⟩])
  (.seq (.reg [⟨some 5, .ld 7 true (.t 2), none⟩, ⟨some 6, .ld 7 true (.t 3), none⟩, ⟨some 7, .call (.c (.fn 25 [])) [(.t 5), (.t 6), (.c (.x (.int .i64 (64))))], none⟩, ⟨some 4, .mv (.t 7), none⟩])
  .ret))⟩
theorem c15 : compFn Try.prog Try.f15 = some i15 := by kernel_rfl
/-- bothy/bothylaw11.count -/
def i16 : IFn := ⟨31, [.tmp 4], (.seq (.reg [⟨some 2, .box (.t 0), none⟩, ⟨some 4, .mv (.c (.x (.int .i64 (0)))), none⟩])
  (.seq (.reg [⟨some 5, .mv (.c (.x (.int .i64 (1)))), none⟩])
  (.seq (.seq (.reg [⟨some 6, .mv (.c (.x (.int .i64 (0)))), none⟩])
  (.block 0
    (.loop
      (.seq (.seq (.reg [⟨some 7, .mv (.t 6), none⟩, ⟨some 8, .fad 6 (.t 2), none⟩, ⟨some 9, .ld 1 false (.t 8), none⟩, ⟨some 10, .len false (.t 9), none⟩, ⟨some 11, .bin .lss (.t 7) (.t 10), none⟩, ⟨some 12, .mv (.t 11), none⟩, ⟨some 13, .mv (.t 5), (some (12, true))⟩, ⟨some 14, .mv (.t 1), (some (12, true))⟩, ⟨some 15, .bin .lss (.t 13) (.t 14), (some (12, true))⟩, ⟨some 16, .pick (.t 12) (.t 15) (.c (.x (.bool false))), none⟩])
      (.cond (.t 16)
        .skip
        (.exit 0)))
      (.seq (.block 1
        (.reg [⟨some 19, .mv (.t 5), none⟩, ⟨some 20, .fad 6 (.t 2), none⟩, ⟨some 21, .ld 1 false (.t 20), none⟩, ⟨some 22, .mv (.t 6), none⟩, ⟨some 23, .iad 7 (.t 21) (.t 22), none⟩, ⟨some 24, .ld 7 true (.t 23), none⟩, ⟨some 25, .mv (.t 1), none⟩, ⟨some 26, .mv (.t 5), none⟩, ⟨some 27, .bin .sub (.t 25) (.t 26), none⟩, ⟨some 28, .call (.c (.fn 16 [])) [(.t 24), (.t 27)], none⟩, ⟨some 29, .bin .add (.t 19) (.t 28), none⟩, ⟨some 5, .mv (.t 29), none⟩]))
      (.reg [⟨some 17, .mv (.t 6), none⟩, ⟨some 18, .bin .add (.t 17) (.c (.x (.int .i64 (1)))), none⟩, ⟨some 6, .mv (.t 18), none⟩]))))))
  (.seq (.reg [⟨some 30, .mv (.t 5), none⟩, ⟨some 4, .mv (.t 30), none⟩])
  .ret))))⟩
theorem c16 : compFn Try.prog Try.f16 = some i16 := by kernel_rfl
/-- bothy/bothylaw11.long -/
def i17 : IFn := ⟨78, [.tmp 2], (.seq (.reg [⟨some 1, .box (.t 0), none⟩, ⟨some 2, .mv (.c (.x (.bool false))), none⟩])
  (.seq (.seq (.reg [⟨some 5, .fad 1 (.t 1), none⟩, ⟨some 6, .ld 1 false (.t 5), none⟩, ⟨some 7, .len true (.t 6), none⟩, ⟨some 8, .bin .gtr (.t 7) (.c (.x (.int .i64 (80)))), none⟩, ⟨some 9, .mv (.t 8), none⟩, ⟨some 10, .fad 2 (.t 1), (some (9, false))⟩, ⟨some 11, .ld 1 false (.t 10), (some (9, false))⟩, ⟨some 12, .len true (.t 11), (some (9, false))⟩, ⟨some 13, .bin .gtr (.t 12) (.c (.x (.int .i64 (300)))), (some (9, false))⟩, ⟨some 14, .mv (.t 13), (some (9, false))⟩, ⟨some 15, .fad 2 (.t 1), (some (14, true))⟩, ⟨some 16, .ld 1 false (.t 15), (some (14, true))⟩, ⟨some 17, .len true (.t 16), (some (14, true))⟩, ⟨some 18, .bin .leq (.t 17) (.c (.x (.int .i64 (1024)))), (some (14, true))⟩, ⟨some 19, .pick (.t 14) (.t 18) (.c (.x (.bool false))), (some (9, false))⟩, ⟨some 20, .pick (.t 9) (.c (.x (.bool true))) (.t 19), none⟩, ⟨some 21, .mv (.t 20), none⟩, ⟨some 22, .fad 2 (.t 1), (some (21, false))⟩, ⟨some 23, .ld 1 false (.t 22), (some (21, false))⟩, ⟨some 24, .len true (.t 23), (some (21, false))⟩, ⟨some 25, .bin .gtr (.t 24) (.c (.x (.int .i64 (1100)))), (some (21, false))⟩, ⟨some 26, .pick (.t 21) (.c (.x (.bool true))) (.t 25), none⟩, ⟨some 27, .mv (.t 26), none⟩, ⟨some 28, .fad 3 (.t 1), (some (27, false))⟩, ⟨some 29, .fad 0 (.t 28), (some (27, false))⟩, ⟨some 30, .ld 1 false (.t 29), (some (27, false))⟩, ⟨some 31, .len true (.t 30), (some (27, false))⟩, ⟨some 32, .bin .gtr (.t 31) (.c (.x (.int .i64 (200)))), (some (27, false))⟩, ⟨some 33, .pick (.t 27) (.c (.x (.bool true))) (.t 32), none⟩, ⟨some 34, .mv (.t 33), none⟩, ⟨some 35, .fad 3 (.t 1), (some (34, false))⟩, ⟨some 36, .fad 2 (.t 35), (some (34, false))⟩, ⟨some 37, .ld 1 false (.t 36), (some (34, false))⟩, ⟨some 38, .len true (.t 37), (some (34, false))⟩, ⟨some 39, .bin .gtr (.t 38) (.c (.x (.int .i64 (200)))), (some (34, false))⟩, ⟨some 40, .pick (.t 34) (.c (.x (.bool true))) (.t 39), none⟩, ⟨some 41, .mv (.t 40), none⟩, ⟨some 42, .fad 3 (.t 1), (some (41, false))⟩, ⟨some 43, .fad 1 (.t 42), (some (41, false))⟩, ⟨some 44, .ld 1 false (.t 43), (some (41, false))⟩, ⟨some 45, .len false (.t 44), (some (41, false))⟩, ⟨some 46, .bin .gtr (.t 45) (.c (.x (.int .i64 (20)))), (some (41, false))⟩, ⟨some 47, .pick (.t 41) (.c (.x (.bool true))) (.t 46), none⟩])
  (.cond (.t 47)
    (.seq (.reg [⟨some 2, .mv (.c (.x (.bool false))), none⟩])
    .ret)
    .skip))
  (.seq (.seq (.reg [⟨some 3, .mv (.c (.x (.int .i64 (0)))), none⟩])
  (.block 0
    (.loop
      (.seq (.seq (.reg [⟨some 48, .mv (.t 3), none⟩, ⟨some 49, .fad 3 (.t 1), none⟩, ⟨some 50, .fad 1 (.t 49), none⟩, ⟨some 51, .ld 1 false (.t 50), none⟩, ⟨some 52, .len false (.t 51), none⟩, ⟨some 53, .bin .lss (.t 48) (.t 52), none⟩])
      (.cond (.t 53)
        .skip
        (.exit 0)))
      (.seq (.block 1
        (.seq (.reg [⟨some 56, .fad 3 (.t 1), none⟩, ⟨some 57, .fad 1 (.t 56), none⟩, ⟨some 58, .ld 1 false (.t 57), none⟩, ⟨some 59, .mv (.t 3), none⟩, ⟨some 60, .iad 1 (.t 58) (.t 59), none⟩, ⟨some 61, .ld 1 false (.t 60), none⟩, ⟨some 62, .len true (.t 61), none⟩, ⟨some 63, .bin .gtr (.t 62) (.c (.x (.int .i64 (100)))), none⟩])
        (.cond (.t 63)
          (.seq (.reg [⟨some 2, .mv (.c (.x (.bool false))), none⟩])
          .ret)
          .skip)))
      (.reg [⟨some 54, .mv (.t 3), none⟩, ⟨some 55, .bin .add (.t 54) (.c (.x (.int .i64 (1)))), none⟩, ⟨some 3, .mv (.t 55), none⟩]))))))
  (.seq (.seq (.reg [⟨some 4, .mv (.c (.x (.int .i64 (0)))), none⟩])
  (.block 2
    (.loop
      (.seq (.seq (.reg [⟨some 64, .mv (.t 4), none⟩, ⟨some 65, .fad 6 (.t 1), none⟩, ⟨some 66, .ld 1 false (.t 65), none⟩, ⟨some 67, .len false (.t 66), none⟩, ⟨some 68, .bin .lss (.t 64) (.t 67), none⟩])
      (.cond (.t 68)
        .skip
        (.exit 2)))
      (.seq (.block 3
        (.seq (.reg [⟨some 71, .fad 6 (.t 1), none⟩, ⟨some 72, .ld 1 false (.t 71), none⟩, ⟨some 73, .mv (.t 4), none⟩, ⟨some 74, .iad 7 (.t 72) (.t 73), none⟩, ⟨some 75, .ld 7 true (.t 74), none⟩, ⟨some 76, .call (.c (.fn 17 [])) [(.t 75)], none⟩, ⟨some 77, .un .not (.t 76), none⟩])
        (.cond (.t 77)
          (.seq (.reg [⟨some 2, .mv (.c (.x (.bool false))), none⟩])
          .ret)
          .skip)))
      (.reg [⟨some 69, .mv (.t 4), none⟩, ⟨some 70, .bin .add (.t 69) (.c (.x (.int .i64 (1)))), none⟩, ⟨some 4, .mv (.t 70), none⟩]))))))
  (.seq (.reg [⟨some 2, .mv (.c (.x (.bool true))), none⟩])
  .ret)))))⟩
theorem c17 : compFn Try.prog Try.f17 = some i17 := by kernel_rfl
/-- bothy/filter.depth -/
def i18 : IFn := ⟨26, [.tmp 4], (.seq (.reg [⟨some 2, .box (.t 0), none⟩, ⟨some 4, .mv (.c (.x (.int .i64 (0)))), none⟩])
  (.seq (.reg [⟨some 5, .mv (.c (.x (.int .i64 (0)))), none⟩])
  (.seq (.seq (.reg [⟨some 8, .mv (.t 1), none⟩, ⟨some 9, .bin .gtr (.t 8) (.c (.x (.int .i64 (0)))), none⟩])
  (.cond (.t 9)
    (.seq (.reg [⟨some 10, .fad 6 (.t 2), none⟩, ⟨some 11, .ld 1 false (.t 10), none⟩, ⟨some 12, .len false (.t 11), none⟩, ⟨some 13, .mv (.c (.x (.int .i64 (0)))), none⟩])
    (.block 0
      (.loop
        (.seq (.reg [⟨some 14, .bin .lss (.t 13) (.t 12), none⟩])
        (.seq (.cond (.t 14)
          .skip
          (.exit 0))
        (.seq (.block 1
          (.seq (.reg [⟨some 15, .iad 7 (.t 11) (.t 13), none⟩, ⟨some 16, .ld 7 true (.t 15), none⟩, ⟨some 7, .box (.c (.agg [.x (.int .i64 (0)), .x (.str []), .x (.str []), .x (.str []), .x .nils, .x (.str []), .x .nils])), none⟩, ⟨none, .sto 7 (.t 7) (.t 16), none⟩])
          (.reg [⟨some 17, .mv (.t 5), none⟩, ⟨some 18, .ld 7 true (.t 7), none⟩, ⟨some 19, .mv (.t 1), none⟩, ⟨some 20, .bin .sub (.t 19) (.c (.x (.int .i64 (1)))), none⟩, ⟨some 21, .call (.c (.fn 18 [])) [(.t 18), (.t 20)], none⟩, ⟨some 22, .mnx true (.t 17) (.t 21), none⟩, ⟨some 5, .mv (.t 22), none⟩])))
        (.reg [⟨some 23, .bin .add (.t 13) (.c (.x (.int .i64 (1)))), none⟩, ⟨some 13, .mv (.t 23), none⟩])))))))
    .skip))
  (.seq (.reg [⟨some 24, .mv (.t 5), none⟩, ⟨some 25, .bin .add (.t 24) (.c (.x (.int .i64 (1)))), none⟩, ⟨some 4, .mv (.t 25), none⟩])
  .ret))))⟩
theorem c18 : compFn Try.prog Try.f18 = some i18 := by kernel_rfl
/-- slices.Clone[[]bothy/api.Filter,bothy/api.Filter] -/
def i19 : IFn := ⟨8, [.tmp 2], (.seq (.reg [⟨some 2, .mv (.c (.x .nils)), none⟩])
  (.seq (.seq (.reg [⟨some 3, .mv (.t 0), none⟩, ⟨some 4, .eq .sl false (.t 3) (.c (.x .nils)), none⟩])
  (.cond (.t 4)
    (.seq (.reg [⟨some 2, .mv (.c (.x .nils)), none⟩])
    .ret)
    .skip))
  (.seq (.reg [⟨some 5, .bsl 29 7 0 [], none⟩, ⟨some 6, .mv (.t 0), none⟩, ⟨some 7, .app 29 7 120 (.t 5) (.t 6), none⟩, ⟨some 2, .mv (.t 7), none⟩])
  .ret)))⟩
theorem c19 : compFn Try.prog Try.f19 = some i19 := by kernel_rfl
/-- bothy/bothyref11.same -/
def i20 : IFn := ⟨69, [.tmp 6], (.seq (.reg [⟨some 3, .box (.t 0), none⟩, ⟨some 4, .box (.t 1), none⟩, ⟨some 6, .mv (.c (.x (.bool false))), none⟩])
  (.seq (.seq (.reg [⟨some 8, .fad 0 (.t 3), none⟩, ⟨some 9, .ld 1 false (.t 8), none⟩, ⟨some 10, .fad 0 (.t 4), none⟩, ⟨some 11, .ld 1 false (.t 10), none⟩, ⟨some 12, .bin .neq (.t 9) (.t 11), none⟩, ⟨some 13, .mv (.t 12), none⟩, ⟨some 14, .fad 1 (.t 3), (some (13, false))⟩, ⟨some 15, .ld 1 false (.t 14), (some (13, false))⟩, ⟨some 16, .fad 1 (.t 4), (some (13, false))⟩, ⟨some 17, .ld 1 false (.t 16), (some (13, false))⟩, ⟨some 18, .bin .neq (.t 15) (.t 17), (some (13, false))⟩, ⟨some 19, .pick (.t 13) (.c (.x (.bool true))) (.t 18), none⟩, ⟨some 20, .mv (.t 19), none⟩, ⟨some 21, .fad 2 (.t 3), (some (20, false))⟩, ⟨some 22, .ld 1 false (.t 21), (some (20, false))⟩, ⟨some 23, .fad 2 (.t 4), (some (20, false))⟩, ⟨some 24, .ld 1 false (.t 23), (some (20, false))⟩, ⟨some 25, .bin .neq (.t 22) (.t 24), (some (20, false))⟩, ⟨some 26, .pick (.t 20) (.c (.x (.bool true))) (.t 25), none⟩, ⟨some 27, .mv (.t 26), none⟩, ⟨some 28, .fad 3 (.t 3), (some (27, false))⟩, ⟨some 29, .ld 3 true (.t 28), (some (27, false))⟩, ⟨some 30, .fad 3 (.t 4), (some (27, false))⟩, ⟨some 31, .ld 3 true (.t 30), (some (27, false))⟩, ⟨some 32, .call (.c (.fn 26 [])) [(.t 29), (.t 31)], (some (27, false))⟩, ⟨some 33, .un .not (.t 32), (some (27, false))⟩, ⟨some 34, .pick (.t 27) (.c (.x (.bool true))) (.t 33), none⟩, ⟨some 35, .mv (.t 34), none⟩, ⟨some 36, .fad 6 (.t 3), (some (35, false))⟩, ⟨some 37, .ld 1 false (.t 36), (some (35, false))⟩, ⟨some 38, .len false (.t 37), (some (35, false))⟩, ⟨some 39, .fad 6 (.t 4), (some (35, false))⟩, ⟨some 40, .ld 1 false (.t 39), (some (35, false))⟩, ⟨some 41, .len false (.t 40), (some (35, false))⟩, ⟨some 42, .bin .neq (.t 38) (.t 41), (some (35, false))⟩, ⟨some 43, .pick (.t 35) (.c (.x (.bool true))) (.t 42), none⟩])
  (.cond (.t 43)
    (.seq (.reg [⟨some 6, .mv (.c (.x (.bool false))), none⟩])
    .ret)
    .skip))
  (.seq (.seq (.reg [⟨some 7, .mv (.c (.x (.int .i64 (0)))), none⟩])
  (.block 0
    (.loop
      (.seq (.seq (.reg [⟨some 44, .mv (.t 7), none⟩, ⟨some 45, .fad 6 (.t 3), none⟩, ⟨some 46, .ld 1 false (.t 45), none⟩, ⟨some 47, .len false (.t 46), none⟩, ⟨some 48, .bin .lss (.t 44) (.t 47), none⟩, ⟨some 49, .mv (.t 48), none⟩, ⟨some 50, .mv (.t 2), (some (49, true))⟩, ⟨some 51, .bin .gtr (.t 50) (.c (.x (.int .i64 (0)))), (some (49, true))⟩, ⟨some 52, .pick (.t 49) (.t 51) (.c (.x (.bool false))), none⟩])
      (.cond (.t 52)
        .skip
        (.exit 0)))
      (.seq (.block 1
        (.seq (.dreg 10 [] [⟨some 55, .fad 6 (.t 3), none⟩, ⟨some 56, .ld 1 false (.t 55), none⟩, ⟨some 57, .mv (.t 7), none⟩, ⟨some 58, .iad 7 (.t 56) (.t 57), none⟩, ⟨some 59, .ld 7 true (.t 58), none⟩, ⟨some 60, .fad 6 (.t 4), none⟩, ⟨some 61, .ld 1 false (.t 60), none⟩, ⟨some 62, .mv (.t 7), none⟩, ⟨some 63, .iad 7 (.t 61) (.t 62), none⟩, ⟨some 64, .ld 7 true (.t 63), none⟩, ⟨some 65, .mv (.t 2), none⟩, ⟨some 66, .bin .sub (.t 65) (.c (.x (.int .i64 (1)))), none⟩, ⟨some 67, .call (.c (.fn 20 [])) [(.t 59), (.t 64), (.t 66)], none⟩, ⟨some 68, .un .not (.t 67), none⟩])
        (.cond (.t 68)
          (.seq (.reg [⟨some 6, .mv (.c (.x (.bool false))), none⟩])
          .ret)
          .skip)))
      (.reg [⟨some 53, .mv (.t 7), none⟩, ⟨some 54, .bin .add (.t 53) (.c (.x (.int .i64 (1)))), none⟩, ⟨some 7, .mv (.t 54), none⟩]))))))
  (.seq (.reg [⟨some 6, .mv (.c (.x (.bool true))), none⟩])
  .ret))))⟩
theorem c20 : compFn Try.prog Try.f20 = some i20 := by kernel_rfl
/-- bothy/filter.all -/
def i21 : IFn := ⟨25, [.tmp 2], (.seq (.reg [⟨some 1, .box (.t 0), none⟩, ⟨some 2, .mv (.c (.x (.int .i64 (0)))), none⟩])
  (.seq (.seq (.reg [⟨some 7, .ld 7 true (.t 1), none⟩, ⟨some 8, .call (.c (.fn 27 [])) [(.t 7)], none⟩, ⟨some 3, .mv (.t 8), none⟩])
  (.seq (.reg [⟨some 9, .mv (.t 3), none⟩, ⟨some 10, .bin .neq (.t 9) (.c (.x (.int .i64 (0)))), none⟩])
  (.cond (.t 10)
    (.seq (.reg [⟨some 11, .mv (.t 3), none⟩, ⟨some 2, .mv (.t 11), none⟩])
    .ret)
    .skip)))
  (.seq (.seq (.reg [⟨some 12, .fad 6 (.t 1), none⟩, ⟨some 13, .ld 1 false (.t 12), none⟩, ⟨some 14, .len false (.t 13), none⟩, ⟨some 15, .mv (.c (.x (.int .i64 (0)))), none⟩])
  (.block 0
    (.loop
      (.seq (.reg [⟨some 16, .bin .lss (.t 15) (.t 14), none⟩])
      (.seq (.cond (.t 16)
        .skip
        (.exit 0))
      (.seq (.block 1
        (.seq (.reg [⟨some 17, .iad 7 (.t 13) (.t 15), none⟩, ⟨some 18, .ld 7 true (.t 17), none⟩, ⟨some 5, .box (.c (.agg [.x (.int .i64 (0)), .x (.str []), .x (.str []), .x (.str []), .x .nils, .x (.str []), .x .nils])), none⟩, ⟨none, .sto 7 (.t 5) (.t 18), none⟩])
        (.seq (.reg [⟨some 19, .ld 7 true (.t 5), none⟩, ⟨some 20, .call (.c (.fn 21 [])) [(.t 19)], none⟩, ⟨some 6, .mv (.t 20), none⟩])
        (.seq (.reg [⟨some 21, .mv (.t 6), none⟩, ⟨some 22, .bin .neq (.t 21) (.c (.x (.int .i64 (0)))), none⟩])
        (.cond (.t 22)
          (.seq (.reg [⟨some 23, .mv (.t 6), none⟩, ⟨some 2, .mv (.t 23), none⟩])
          .ret)
          .skip)))))
      (.reg [⟨some 24, .bin .add (.t 15) (.c (.x (.int .i64 (1)))), none⟩, ⟨some 15, .mv (.t 24), none⟩])))))))
  (.seq (.reg [⟨some 2, .mv (.c (.x (.int .i64 (0)))), none⟩])
  .ret))))⟩
theorem c21 : compFn Try.prog Try.f21 = some i21 := by kernel_rfl
/-- bothy/filter.names -/
def i22 : IFn := ⟨34, [.tmp 4], (.seq (.reg [⟨some 2, .box (.t 0), none⟩, ⟨some 4, .mv (.c (.x .nils)), none⟩])
  (.seq (.reg [⟨some 5, .mv (.c (.x .nils)), none⟩])
  (.seq (.seq (.reg [⟨some 8, .fad 1 (.t 2), none⟩, ⟨some 9, .ld 1 false (.t 8), none⟩, ⟨some 10, .bin .neq (.t 9) (.c (.x (.str []))), none⟩])
  (.cond (.t 10)
    (.reg [⟨some 11, .mv (.t 5), none⟩, ⟨some 12, .fad 1 (.t 2), none⟩, ⟨some 13, .ld 1 false (.t 12), none⟩, ⟨some 14, .call (.c (.fn 28 [])) [(.t 13)], none⟩, ⟨some 15, .bsl 9 1 1 [(.t 14)], none⟩, ⟨some 16, .app 9 1 16 (.t 11) (.t 15), none⟩, ⟨some 5, .mv (.t 16), none⟩])
    .skip))
  (.seq (.seq (.reg [⟨some 17, .mv (.t 1), none⟩, ⟨some 18, .bin .gtr (.t 17) (.c (.x (.int .i64 (0)))), none⟩])
  (.cond (.t 18)
    (.seq (.reg [⟨some 19, .fad 6 (.t 2), none⟩, ⟨some 20, .ld 1 false (.t 19), none⟩, ⟨some 21, .len false (.t 20), none⟩, ⟨some 22, .mv (.c (.x (.int .i64 (0)))), none⟩])
    (.block 0
      (.loop
        (.seq (.reg [⟨some 23, .bin .lss (.t 22) (.t 21), none⟩])
        (.seq (.cond (.t 23)
          .skip
          (.exit 0))
        (.seq (.block 1
          (.seq (.reg [⟨some 24, .iad 7 (.t 20) (.t 22), none⟩, ⟨some 25, .ld 7 true (.t 24), none⟩, ⟨some 7, .box (.c (.agg [.x (.int .i64 (0)), .x (.str []), .x (.str []), .x (.str []), .x .nils, .x (.str []), .x .nils])), none⟩, ⟨none, .sto 7 (.t 7) (.t 25), none⟩])
          (.reg [⟨some 26, .mv (.t 5), none⟩, ⟨some 27, .ld 7 true (.t 7), none⟩, ⟨some 28, .mv (.t 1), none⟩, ⟨some 29, .bin .sub (.t 28) (.c (.x (.int .i64 (1)))), none⟩, ⟨some 30, .call (.c (.fn 22 [])) [(.t 27), (.t 29)], none⟩, ⟨some 31, .app 9 1 16 (.t 26) (.t 30), none⟩, ⟨some 5, .mv (.t 31), none⟩])))
        (.reg [⟨some 32, .bin .add (.t 22) (.c (.x (.int .i64 (1)))), none⟩, ⟨some 22, .mv (.t 32), none⟩])))))))
    .skip))
  (.seq (.reg [⟨some 33, .mv (.t 5), none⟩, ⟨some 4, .mv (.t 33), none⟩])
  .ret)))))⟩
theorem c22 : compFn Try.prog Try.f22 = some i22 := by kernel_rfl
/-- slices.Sort[[]string,string] -/
def i23 : IFn := ⟨11, [], (.seq (.reg [⟨some 3, .mv (.t 0), none⟩, ⟨some 4, .len false (.t 3), none⟩, ⟨some 2, .mv (.t 4), none⟩])
  (.reg [⟨some 5, .mv (.t 0), none⟩, ⟨some 6, .mv (.t 2), none⟩, ⟨some 7, .mv (.t 2), none⟩, ⟨some 8, .cvi .u64 (.t 7), none⟩, ⟨some 9, .call (.c (.fn 30 [])) [(.t 8)], none⟩, ⟨some 10, .call (.c (.fn 29 [])) [(.t 5), (.c (.x (.int .i64 (0)))), (.t 6), (.t 9)], none⟩]))⟩
theorem c23 : compFn Try.prog Try.f23 = some i23 := by kernel_rfl
/-- slices.Compact[[]string,string] -/
def i24 : IFn := ⟨61, [.tmp 2], (.seq (.reg [⟨some 2, .mv (.c (.x .nils)), none⟩])
  (.seq (.seq (.reg [⟨some 6, .mv (.t 0), none⟩, ⟨some 7, .len false (.t 6), none⟩, ⟨some 8, .bin .lss (.t 7) (.c (.x (.int .i64 (2)))), none⟩])
  (.cond (.t 8)
    (.seq (.reg [⟨some 9, .mv (.t 0), none⟩, ⟨some 2, .mv (.t 9), none⟩])
    .ret)
    .skip))
  (.seq (.seq (.reg [⟨some 3, .mv (.c (.x (.int .i64 (1)))), none⟩])
  (.block 0
    (.loop
      (.seq (.seq (.reg [⟨some 10, .mv (.t 3), none⟩, ⟨some 11, .mv (.t 0), none⟩, ⟨some 12, .len false (.t 11), none⟩, ⟨some 13, .bin .lss (.t 10) (.t 12), none⟩])
      (.cond (.t 13)
        .skip
        (.exit 0)))
      (.seq (.block 1
        (.seq (.dreg 9 [] [⟨some 16, .mv (.t 0), none⟩, ⟨some 17, .mv (.t 3), none⟩, ⟨some 18, .iad 1 (.t 16) (.t 17), none⟩, ⟨some 19, .ld 1 false (.t 18), none⟩, ⟨some 20, .mv (.t 0), none⟩, ⟨some 21, .mv (.t 3), none⟩, ⟨some 22, .bin .sub (.t 21) (.c (.x (.int .i64 (1)))), none⟩, ⟨some 23, .iad 1 (.t 20) (.t 22), none⟩, ⟨some 24, .ld 1 false (.t 23), none⟩, ⟨some 25, .bin .eql (.t 19) (.t 24), none⟩])
        (.cond (.t 25)
          (.seq (.reg [⟨some 26, .mv (.t 0), none⟩, ⟨some 27, .mv (.t 3), none⟩, ⟨some 28, .slc 1 (.t 26) (some (.t 27)) none none, none⟩, ⟨some 4, .mv (.t 28), none⟩])
          (.seq (.seq (.reg [⟨some 5, .mv (.c (.x (.int .i64 (1)))), none⟩])
          (.block 2
            (.loop
              (.seq (.seq (.reg [⟨some 29, .mv (.t 5), none⟩, ⟨some 30, .mv (.t 4), none⟩, ⟨some 31, .len false (.t 30), none⟩, ⟨some 32, .bin .lss (.t 29) (.t 31), none⟩])
              (.cond (.t 32)
                .skip
                (.exit 2)))
              (.seq (.block 3
                (.seq (.dreg 9 [] [⟨some 35, .mv (.t 4), none⟩, ⟨some 36, .mv (.t 5), none⟩, ⟨some 37, .iad 1 (.t 35) (.t 36), none⟩, ⟨some 38, .ld 1 false (.t 37), none⟩, ⟨some 39, .mv (.t 4), none⟩, ⟨some 40, .mv (.t 5), none⟩, ⟨some 41, .bin .sub (.t 40) (.c (.x (.int .i64 (1)))), none⟩, ⟨some 42, .iad 1 (.t 39) (.t 41), none⟩, ⟨some 43, .ld 1 false (.t 42), none⟩, ⟨some 44, .bin .neq (.t 38) (.t 43), none⟩])
                (.cond (.t 44)
                  (.seq (.reg [⟨some 45, .mv (.t 0), none⟩, ⟨some 46, .mv (.t 3), none⟩, ⟨some 47, .mv (.t 4), none⟩, ⟨some 48, .mv (.t 5), none⟩, ⟨some 49, .iad 1 (.t 47) (.t 48), none⟩, ⟨some 50, .ld 1 false (.t 49), none⟩, ⟨some 51, .iad 1 (.t 45) (.t 46), none⟩, ⟨none, .sto 1 (.t 51) (.t 50), none⟩])
                  (.reg [⟨some 52, .mv (.t 3), none⟩, ⟨some 53, .bin .add (.t 52) (.c (.x (.int .i64 (1)))), none⟩, ⟨some 3, .mv (.t 53), none⟩]))
                  .skip)))
              (.reg [⟨some 33, .mv (.t 5), none⟩, ⟨some 34, .bin .add (.t 33) (.c (.x (.int .i64 (1)))), none⟩, ⟨some 5, .mv (.t 34), none⟩]))))))
          (.seq .dead
          (.seq (.reg [⟨some 57, .mv (.t 0), none⟩, ⟨some 58, .mv (.t 3), none⟩, ⟨some 59, .slc 1 (.t 57) none (some (.t 58)) none, none⟩, ⟨some 2, .mv (.t 59), none⟩])
          .ret))))
          .skip)))
      (.reg [⟨some 14, .mv (.t 3), none⟩, ⟨some 15, .bin .add (.t 14) (.c (.x (.int .i64 (1)))), none⟩, ⟨some 3, .mv (.t 15), none⟩]))))))
  (.seq (.reg [⟨some 60, .mv (.t 0), none⟩, ⟨some 2, .mv (.t 60), none⟩])
  .ret))))⟩
theorem c24 : compFn Try.prog Try.f24 = some i24 := by kernel_rfl
/-- bothy/filter.same -/
def i25 : IFn := ⟨53, [.tmp 6], (.seq (.reg [⟨some 3, .box (.t 0), none⟩, ⟨some 4, .box (.t 1), none⟩, ⟨some 5, .box (.t 2), none⟩, ⟨some 6, .mv (.c (.x (.bool false))), none⟩])
  (.seq (.seq (.reg [⟨some 7, .fad 0 (.t 3), none⟩, ⟨some 8, .ld 1 false (.t 7), none⟩, ⟨some 9, .fad 0 (.t 4), none⟩, ⟨some 10, .ld 1 false (.t 9), none⟩, ⟨some 11, .bin .neq (.t 8) (.t 10), none⟩, ⟨some 12, .mv (.t 11), none⟩, ⟨some 13, .fad 1 (.t 3), (some (12, false))⟩, ⟨some 14, .ld 1 false (.t 13), (some (12, false))⟩, ⟨some 15, .fad 1 (.t 4), (some (12, false))⟩, ⟨some 16, .ld 1 false (.t 15), (some (12, false))⟩, ⟨some 17, .bin .neq (.t 14) (.t 16), (some (12, false))⟩, ⟨some 18, .pick (.t 12) (.c (.x (.bool true))) (.t 17), none⟩, ⟨some 19, .mv (.t 18), none⟩, ⟨some 20, .fad 2 (.t 3), (some (19, false))⟩, ⟨some 21, .ld 1 false (.t 20), (some (19, false))⟩, ⟨some 22, .fad 2 (.t 4), (some (19, false))⟩, ⟨some 23, .ld 1 false (.t 22), (some (19, false))⟩, ⟨some 24, .bin .neq (.t 21) (.t 23), (some (19, false))⟩, ⟨some 25, .pick (.t 19) (.c (.x (.bool true))) (.t 24), none⟩, ⟨some 26, .mv (.t 25), none⟩, ⟨some 27, .fad 6 (.t 3), (some (26, false))⟩, ⟨some 28, .ld 1 false (.t 27), (some (26, false))⟩, ⟨some 29, .len false (.t 28), (some (26, false))⟩, ⟨some 30, .fad 6 (.t 4), (some (26, false))⟩, ⟨some 31, .ld 1 false (.t 30), (some (26, false))⟩, ⟨some 32, .len false (.t 31), (some (26, false))⟩, ⟨some 33, .bin .neq (.t 29) (.t 32), (some (26, false))⟩, ⟨some 34, .pick (.t 26) (.c (.x (.bool true))) (.t 33), none⟩])
  (.cond (.t 34)
    (.seq (.reg [⟨some 6, .mv (.c (.x (.bool false))), none⟩])
    .ret)
    .skip))
  (.seq (.seq (.dreg 5 [] [⟨some 35, .fad 3 (.t 3), none⟩, ⟨some 36, .ld 3 true (.t 35), none⟩, ⟨some 37, .call (.c (.fn 32 [])) [(.t 36)], none⟩, ⟨some 38, .fad 3 (.t 4), none⟩, ⟨some 39, .ld 3 true (.t 38), none⟩, ⟨some 40, .call (.c (.fn 32 [])) [(.t 39)], none⟩, ⟨some 41, .call (.c (.fn 31 [])) [(.t 37), (.t 40)], none⟩, ⟨some 42, .un .not (.t 41), none⟩])
  (.cond (.t 42)
    (.seq (.reg [⟨some 6, .mv (.c (.x (.bool false))), none⟩])
    .ret)
    .skip))
  (.seq (.reg [⟨some 43, .ld 1 false (.t 5), none⟩, ⟨some 44, .bin .eql (.t 43) (.c (.x (.int .i64 (0)))), none⟩, ⟨some 45, .mv (.t 44), none⟩, ⟨some 46, .fad 6 (.t 3), (some (45, false))⟩, ⟨some 47, .ld 1 false (.t 46), (some (45, false))⟩, ⟨some 48, .fad 6 (.t 4), (some (45, false))⟩, ⟨some 49, .ld 1 false (.t 48), (some (45, false))⟩, ⟨some 50, .mkf 34 [(.t 5)], (some (45, false))⟩, ⟨some 51, .call (.c (.fn 33 [])) [(.t 47), (.t 49), (.t 50)], (some (45, false))⟩, ⟨some 52, .pick (.t 45) (.c (.x (.bool true))) (.t 51), none⟩, ⟨some 6, .mv (.t 52), none⟩])
  .ret))))⟩
theorem c25 : compFn Try.prog Try.f25 = some i25 := by kernel_rfl
/-- bothy/bothyref11.Parts -/
def i26 : IFn := ⟨45, [.tmp 4], (.seq (.reg [⟨some 2, .box (.t 0), none⟩, ⟨some 3, .box (.t 1), none⟩, ⟨some 4, .mv (.c (.x (.bool false))), none⟩])
  (.seq (.seq (.reg [⟨some 6, .fad 0 (.t 2), none⟩, ⟨some 7, .ld 1 false (.t 6), none⟩, ⟨some 8, .fad 0 (.t 3), none⟩, ⟨some 9, .ld 1 false (.t 8), none⟩, ⟨some 10, .bin .neq (.t 7) (.t 9), none⟩, ⟨some 11, .mv (.t 10), none⟩, ⟨some 12, .fad 2 (.t 2), (some (11, false))⟩, ⟨some 13, .ld 1 false (.t 12), (some (11, false))⟩, ⟨some 14, .fad 2 (.t 3), (some (11, false))⟩, ⟨some 15, .ld 1 false (.t 14), (some (11, false))⟩, ⟨some 16, .bin .neq (.t 13) (.t 15), (some (11, false))⟩, ⟨some 17, .pick (.t 11) (.c (.x (.bool true))) (.t 16), none⟩, ⟨some 18, .mv (.t 17), none⟩, ⟨some 19, .fad 1 (.t 2), (some (18, false))⟩, ⟨some 20, .ld 1 false (.t 19), (some (18, false))⟩, ⟨some 21, .len false (.t 20), (some (18, false))⟩, ⟨some 22, .fad 1 (.t 3), (some (18, false))⟩, ⟨some 23, .ld 1 false (.t 22), (some (18, false))⟩, ⟨some 24, .len false (.t 23), (some (18, false))⟩, ⟨some 25, .bin .neq (.t 21) (.t 24), (some (18, false))⟩, ⟨some 26, .pick (.t 18) (.c (.x (.bool true))) (.t 25), none⟩])
  (.cond (.t 26)
    (.seq (.reg [⟨some 4, .mv (.c (.x (.bool false))), none⟩])
    .ret)
    .skip))
  (.seq (.seq (.reg [⟨some 5, .mv (.c (.x (.int .i64 (0)))), none⟩])
  (.block 0
    (.loop
      (.seq (.seq (.reg [⟨some 27, .mv (.t 5), none⟩, ⟨some 28, .fad 1 (.t 2), none⟩, ⟨some 29, .ld 1 false (.t 28), none⟩, ⟨some 30, .len false (.t 29), none⟩, ⟨some 31, .bin .lss (.t 27) (.t 30), none⟩])
      (.cond (.t 31)
        .skip
        (.exit 0)))
      (.seq (.block 1
        (.seq (.dreg 10 [] [⟨some 34, .fad 1 (.t 2), none⟩, ⟨some 35, .ld 1 false (.t 34), none⟩, ⟨some 36, .mv (.t 5), none⟩, ⟨some 37, .iad 1 (.t 35) (.t 36), none⟩, ⟨some 38, .ld 1 false (.t 37), none⟩, ⟨some 39, .fad 1 (.t 3), none⟩, ⟨some 40, .ld 1 false (.t 39), none⟩, ⟨some 41, .mv (.t 5), none⟩, ⟨some 42, .iad 1 (.t 40) (.t 41), none⟩, ⟨some 43, .ld 1 false (.t 42), none⟩, ⟨some 44, .bin .neq (.t 38) (.t 43), none⟩])
        (.cond (.t 44)
          (.seq (.reg [⟨some 4, .mv (.c (.x (.bool false))), none⟩])
          .ret)
          .skip)))
      (.reg [⟨some 32, .mv (.t 5), none⟩, ⟨some 33, .bin .add (.t 32) (.c (.x (.int .i64 (1)))), none⟩, ⟨some 5, .mv (.t 33), none⟩]))))))
  (.seq (.reg [⟨some 4, .mv (.c (.x (.bool true))), none⟩])
  .ret))))⟩
theorem c26 : compFn Try.prog Try.f26 = some i26 := by kernel_rfl
/-- bothy/filter.one -/
def i27 : IFn := ⟨49, [.tmp 2], (.seq (.reg [⟨some 1, .box (.t 0), none⟩, ⟨some 2, .mv (.c (.x (.int .i64 (0)))), none⟩])
  (.seq (.block 0
    (.seq (.reg [⟨some 6, .fad 0 (.t 1), none⟩, ⟨some 7, .ld 1 false (.t 6), none⟩, ⟨some 8, .bin .lss (.t 7) (.c (.x (.int .i64 (0)))), none⟩, ⟨some 9, .mv (.t 8), none⟩, ⟨some 10, .fad 0 (.t 1), (some (9, false))⟩, ⟨some 11, .ld 1 false (.t 10), (some (9, false))⟩, ⟨some 12, .bin .gtr (.t 11) (.c (.x (.int .i64 (8)))), (some (9, false))⟩, ⟨some 13, .pick (.t 9) (.c (.x (.bool true))) (.t 12), none⟩, ⟨some 5, .mv (.t 13), none⟩])
    (.cond (.t 5)
      (.seq (.reg [⟨some 2, .mv (.c (.x (.int .i64 (1)))), none⟩])
      .ret)
      (.seq (.reg [⟨some 15, .fad 6 (.t 1), none⟩, ⟨some 16, .ld 1 false (.t 15), none⟩, ⟨some 17, .len false (.t 16), none⟩, ⟨some 18, .bin .gtr (.t 17) (.c (.x (.int .i64 (64)))), none⟩, ⟨some 14, .mv (.t 18), none⟩])
      (.cond (.t 14)
        (.seq (.reg [⟨some 2, .mv (.c (.x (.int .i64 (3)))), none⟩])
        .ret)
        (.seq (.reg [⟨some 20, .ld 7 true (.t 1), none⟩, ⟨some 21, .call (.c (.fn 35 [])) [(.t 20)], none⟩, ⟨some 22, .un .not (.t 21), none⟩, ⟨some 19, .mv (.t 22), none⟩])
        (.cond (.t 19)
          (.seq (.reg [⟨some 2, .mv (.c (.x (.int .i64 (5)))), none⟩])
          .ret)
          (.seq (.reg [⟨some 24, .fad 0 (.t 1), none⟩, ⟨some 25, .ld 1 false (.t 24), none⟩, ⟨some 26, .bin .gtr (.t 25) (.c (.x (.int .i64 (2)))), none⟩, ⟨some 27, .mv (.t 26), none⟩, ⟨some 28, .fad 1 (.t 1), (some (27, true))⟩, ⟨some 29, .ld 1 false (.t 28), (some (27, true))⟩, ⟨some 30, .call (.c (.fn 36 [])) [(.t 29)], (some (27, true))⟩, ⟨some 31, .un .not (.t 30), (some (27, true))⟩, ⟨some 32, .pick (.t 27) (.t 31) (.c (.x (.bool false))), none⟩, ⟨some 23, .mv (.t 32), none⟩])
          (.cond (.t 23)
            (.seq (.reg [⟨some 2, .mv (.c (.x (.int .i64 (13)))), none⟩])
            .ret)
            .skip)))))))))
  (.seq (.seq (.dreg 6 [] [⟨some 33, .fad 3 (.t 1), none⟩, ⟨some 34, .ld 3 true (.t 33), none⟩, ⟨some 35, .call (.c (.fn 32 [])) [(.t 34)], none⟩, ⟨some 36, .fad 2 (.t 1), none⟩, ⟨some 37, .ld 1 false (.t 36), none⟩, ⟨some 38, .bsl 9 1 1 [(.t 37)], none⟩, ⟨some 39, .app 9 1 16 (.t 35) (.t 38), none⟩, ⟨some 40, .len false (.t 39), none⟩, ⟨some 41, .mv (.c (.x (.int .i64 (0)))), none⟩])
  (.block 1
    (.loop
      (.seq (.reg [⟨some 42, .bin .lss (.t 41) (.t 40), none⟩])
      (.seq (.cond (.t 42)
        .skip
        (.exit 1))
      (.seq (.block 2
        (.seq (.reg [⟨some 43, .iad 1 (.t 39) (.t 41), none⟩, ⟨some 44, .ld 1 false (.t 43), none⟩, ⟨some 4, .mv (.t 44), none⟩])
        (.seq (.reg [⟨some 45, .mv (.t 4), none⟩, ⟨some 46, .len true (.t 45), none⟩, ⟨some 47, .bin .gtr (.t 46) (.c (.x (.int .i64 (1024)))), none⟩])
        (.cond (.t 47)
          (.seq (.reg [⟨some 2, .mv (.c (.x (.int .i64 (3)))), none⟩])
          .ret)
          .skip))))
      (.reg [⟨some 48, .bin .add (.t 41) (.c (.x (.int .i64 (1)))), none⟩, ⟨some 41, .mv (.t 48), none⟩])))))))
  (.seq (.reg [⟨some 2, .mv (.c (.x (.int .i64 (0)))), none⟩])
  .ret))))⟩
theorem c27 : compFn Try.prog Try.f27 = some i27 := by kernel_rfl
/-- bothy/fold.Lower -/
def i28 : IFn := ⟨30, [.tmp 2], (.seq (.reg [⟨some 2, .mv (.c (.x (.str []))), none⟩])
  (.seq (.reg [⟨some 6, .mv (.t 0), none⟩, ⟨some 7, .s2b 5 (.t 6), none⟩, ⟨some 3, .mv (.t 7), none⟩])
  (.seq (.seq (.reg [⟨some 8, .mv (.t 3), none⟩, ⟨some 9, .len false (.t 8), none⟩, ⟨some 10, .mv (.c (.x (.int .i64 (0)))), none⟩])
  (.block 0
    (.loop
      (.seq (.reg [⟨some 11, .bin .lss (.t 10) (.t 9), none⟩])
      (.seq (.cond (.t 11)
        .skip
        (.exit 0))
      (.seq (.block 1
        (.seq (.reg [⟨some 12, .mv (.t 10), none⟩, ⟨some 13, .iad 1 (.t 8) (.t 10), none⟩, ⟨some 14, .ld 1 false (.t 13), none⟩, ⟨some 4, .mv (.t 12), none⟩, ⟨some 5, .mv (.t 14), none⟩])
        (.seq (.reg [⟨some 15, .mv (.t 5), none⟩, ⟨some 16, .bin .geq (.t 15) (.c (.x (.int .u8 (65)))), none⟩, ⟨some 17, .mv (.t 16), none⟩, ⟨some 18, .mv (.t 5), (some (17, true))⟩, ⟨some 19, .bin .leq (.t 18) (.c (.x (.int .u8 (90)))), (some (17, true))⟩, ⟨some 20, .pick (.t 17) (.t 19) (.c (.x (.bool false))), none⟩])
        (.cond (.t 20)
          (.reg [⟨some 21, .mv (.t 3), none⟩, ⟨some 22, .mv (.t 4), none⟩, ⟨some 23, .mv (.t 5), none⟩, ⟨some 24, .bin .sub (.t 23) (.c (.x (.int .u8 (65)))), none⟩, ⟨some 25, .bin .add (.t 24) (.c (.x (.int .u8 (97)))), none⟩, ⟨some 26, .iad 1 (.t 21) (.t 22), none⟩, ⟨none, .sto 1 (.t 26) (.t 25), none⟩])
          .skip))))
      (.reg [⟨some 27, .bin .add (.t 10) (.c (.x (.int .i64 (1)))), none⟩, ⟨some 10, .mv (.t 27), none⟩])))))))
  (.seq (.reg [⟨some 28, .mv (.t 3), none⟩, ⟨some 29, .b2s (.t 28), none⟩, ⟨some 2, .mv (.t 29), none⟩])
  .ret))))⟩
theorem c28 : compFn Try.prog Try.f28 = some i28 := by kernel_rfl
/-- slices.pdqsortOrdered[string] -/
def i29 : IFn := ⟨134, [], (.seq (.reg [⟨some 8, .mv (.c (.x (.bool true))), none⟩])
  (.seq (.reg [⟨some 9, .mv (.c (.x (.bool true))), none⟩])
  (.block 0
    (.loop
      (.block 1
        (.seq (.reg [⟨some 19, .mv (.t 2), none⟩, ⟨some 20, .mv (.t 1), none⟩, ⟨some 21, .bin .sub (.t 19) (.t 20), none⟩, ⟨some 10, .mv (.t 21), none⟩])
        (.seq (.seq (.reg [⟨some 22, .mv (.t 10), none⟩, ⟨some 23, .bin .leq (.t 22) (.c (.x (.int .i64 (12)))), none⟩])
        (.cond (.t 23)
          (.seq (.reg [⟨some 24, .mv (.t 0), none⟩, ⟨some 25, .mv (.t 1), none⟩, ⟨some 26, .mv (.t 2), none⟩, ⟨some 27, .call (.c (.fn 37 [])) [(.t 24), (.t 25), (.t 26)], none⟩])
          .ret)
          .skip))
        (.seq (.seq (.reg [⟨some 28, .mv (.t 3), none⟩, ⟨some 29, .bin .eql (.t 28) (.c (.x (.int .i64 (0)))), none⟩])
        (.cond (.t 29)
          (.seq (.reg [⟨some 30, .mv (.t 0), none⟩, ⟨some 31, .mv (.t 1), none⟩, ⟨some 32, .mv (.t 2), none⟩, ⟨some 33, .call (.c (.fn 38 [])) [(.t 30), (.t 31), (.t 32)], none⟩])
          .ret)
          .skip))
        (.seq (.seq (.reg [⟨some 34, .mv (.t 8), none⟩, ⟨some 35, .un .not (.t 34), none⟩])
        (.cond (.t 35)
          (.seq (.reg [⟨some 36, .mv (.t 0), none⟩, ⟨some 37, .mv (.t 1), none⟩, ⟨some 38, .mv (.t 2), none⟩, ⟨some 39, .call (.c (.fn 39 [])) [(.t 36), (.t 37), (.t 38)], none⟩])
          (.reg [⟨some 40, .mv (.t 3), none⟩, ⟨some 41, .bin .sub (.t 40) (.c (.x (.int .i64 (1)))), none⟩, ⟨some 3, .mv (.t 41), none⟩]))
          .skip))
        (.seq (.reg [⟨some 43, .mv (.t 0), none⟩, ⟨some 44, .mv (.t 1), none⟩, ⟨some 45, .mv (.t 2), none⟩, ⟨some 46, .call (.c (.fn 40 [])) [(.t 43), (.t 44), (.t 45)], none⟩, ⟨some 42, .mv (.t 46), none⟩, ⟨some 47, .ext (.t 42) 0, none⟩, ⟨some 48, .ext (.t 42) 1, none⟩, ⟨some 11, .mv (.t 47), none⟩, ⟨some 12, .mv (.t 48), none⟩])
        (.seq (.seq (.reg [⟨some 49, .mv (.t 12), none⟩, ⟨some 50, .bin .eql (.t 49) (.c (.x (.int .i64 (2)))), none⟩])
        (.cond (.t 50)
          (.seq (.reg [⟨some 51, .mv (.t 0), none⟩, ⟨some 52, .mv (.t 1), none⟩, ⟨some 53, .mv (.t 2), none⟩, ⟨some 54, .call (.c (.fn 41 [])) [(.t 51), (.t 52), (.t 53)], none⟩])
          (.seq (.reg [⟨some 55, .mv (.t 2), none⟩, ⟨some 56, .bin .sub (.t 55) (.c (.x (.int .i64 (1)))), none⟩, ⟨some 57, .mv (.t 11), none⟩, ⟨some 58, .mv (.t 1), none⟩, ⟨some 59, .bin .sub (.t 57) (.t 58), none⟩, ⟨some 60, .bin .sub (.t 56) (.t 59), none⟩, ⟨some 11, .mv (.t 60), none⟩])
          (.reg [⟨some 12, .mv (.c (.x (.int .i64 (1)))), none⟩])))
          .skip))
        (.seq (.seq (.reg [⟨some 61, .mv (.t 8), none⟩, ⟨some 62, .mv (.t 61), none⟩, ⟨some 63, .mv (.t 9), (some (62, true))⟩, ⟨some 64, .pick (.t 62) (.t 63) (.c (.x (.bool false))), none⟩, ⟨some 65, .mv (.t 64), none⟩, ⟨some 66, .mv (.t 12), (some (65, true))⟩, ⟨some 67, .bin .eql (.t 66) (.c (.x (.int .i64 (1)))), (some (65, true))⟩, ⟨some 68, .pick (.t 65) (.t 67) (.c (.x (.bool false))), none⟩])
        (.cond (.t 68)
          (.seq (.reg [⟨some 69, .mv (.t 0), none⟩, ⟨some 70, .mv (.t 1), none⟩, ⟨some 71, .mv (.t 2), none⟩, ⟨some 72, .call (.c (.fn 42 [])) [(.t 69), (.t 70), (.t 71)], none⟩])
          (.cond (.t 72)
            .ret
            .skip))
          .skip))
        (.seq (.seq (.dreg 12 [] [⟨some 73, .mv (.t 1), none⟩, ⟨some 74, .bin .gtr (.t 73) (.c (.x (.int .i64 (0)))), none⟩, ⟨some 75, .mv (.t 74), none⟩, ⟨some 76, .mv (.t 0), (some (75, true))⟩, ⟨some 77, .mv (.t 1), (some (75, true))⟩, ⟨some 78, .bin .sub (.t 77) (.c (.x (.int .i64 (1)))), (some (75, true))⟩, ⟨some 79, .iad 1 (.t 76) (.t 78), (some (75, true))⟩, ⟨some 80, .ld 1 false (.t 79), (some (75, true))⟩, ⟨some 81, .mv (.t 0), (some (75, true))⟩, ⟨some 82, .mv (.t 11), (some (75, true))⟩, ⟨some 83, .iad 1 (.t 81) (.t 82), (some (75, true))⟩, ⟨some 84, .ld 1 false (.t 83), (some (75, true))⟩, ⟨some 85, .call (.c (.fn 43 [])) [(.t 80), (.t 84)], (some (75, true))⟩, ⟨some 86, .un .not (.t 85), (some (75, true))⟩, ⟨some 87, .pick (.t 75) (.t 86) (.c (.x (.bool false))), none⟩])
        (.cond (.t 87)
          (.seq (.reg [⟨some 88, .mv (.t 0), none⟩, ⟨some 89, .mv (.t 1), none⟩, ⟨some 90, .mv (.t 2), none⟩, ⟨some 91, .mv (.t 11), none⟩, ⟨some 92, .call (.c (.fn 44 [])) [(.t 88), (.t 89), (.t 90), (.t 91)], none⟩, ⟨some 13, .mv (.t 92), none⟩])
          (.seq (.reg [⟨some 93, .mv (.t 13), none⟩, ⟨some 1, .mv (.t 93), none⟩])
          (.exit 1)))
          .skip))
        (.seq (.reg [⟨some 95, .mv (.t 0), none⟩, ⟨some 96, .mv (.t 1), none⟩, ⟨some 97, .mv (.t 2), none⟩, ⟨some 98, .mv (.t 11), none⟩, ⟨some 99, .call (.c (.fn 45 [])) [(.t 95), (.t 96), (.t 97), (.t 98)], none⟩, ⟨some 94, .mv (.t 99), none⟩, ⟨some 100, .ext (.t 94) 0, none⟩, ⟨some 101, .ext (.t 94) 1, none⟩, ⟨some 14, .mv (.t 100), none⟩, ⟨some 15, .mv (.t 101), none⟩])
        (.seq (.reg [⟨some 102, .mv (.t 15), none⟩, ⟨some 9, .mv (.t 102), none⟩])
        (.seq (.reg [⟨some 103, .mv (.t 14), none⟩, ⟨some 104, .mv (.t 1), none⟩, ⟨some 105, .bin .sub (.t 103) (.t 104), none⟩, ⟨some 106, .mv (.t 2), none⟩, ⟨some 107, .mv (.t 14), none⟩, ⟨some 108, .bin .sub (.t 106) (.t 107), none⟩, ⟨some 16, .mv (.t 105), none⟩, ⟨some 17, .mv (.t 108), none⟩])
        (.seq (.reg [⟨some 109, .mv (.t 10), none⟩, ⟨some 110, .bin .quo (.t 109) (.c (.x (.int .i64 (8)))), none⟩, ⟨some 18, .mv (.t 110), none⟩])
        (.seq (.reg [⟨some 111, .mv (.t 16), none⟩, ⟨some 112, .mv (.t 17), none⟩, ⟨some 113, .bin .lss (.t 111) (.t 112), none⟩])
        (.cond (.t 113)
          (.seq (.reg [⟨some 114, .mv (.t 16), none⟩, ⟨some 115, .mv (.t 18), none⟩, ⟨some 116, .bin .geq (.t 114) (.t 115), none⟩, ⟨some 8, .mv (.t 116), none⟩])
          (.seq (.reg [⟨some 117, .mv (.t 0), none⟩, ⟨some 118, .mv (.t 1), none⟩, ⟨some 119, .mv (.t 14), none⟩, ⟨some 120, .mv (.t 3), none⟩, ⟨some 121, .call (.c (.fn 29 [])) [(.t 117), (.t 118), (.t 119), (.t 120)], none⟩])
          (.reg [⟨some 122, .mv (.t 14), none⟩, ⟨some 123, .bin .add (.t 122) (.c (.x (.int .i64 (1)))), none⟩, ⟨some 1, .mv (.t 123), none⟩])))
          (.seq (.reg [⟨some 124, .mv (.t 17), none⟩, ⟨some 125, .mv (.t 18), none⟩, ⟨some 126, .bin .geq (.t 124) (.t 125), none⟩, ⟨some 8, .mv (.t 126), none⟩])
          (.seq (.reg [⟨some 127, .mv (.t 0), none⟩, ⟨some 128, .mv (.t 14), none⟩, ⟨some 129, .bin .add (.t 128) (.c (.x (.int .i64 (1)))), none⟩, ⟨some 130, .mv (.t 2), none⟩, ⟨some 131, .mv (.t 3), none⟩, ⟨some 132, .call (.c (.fn 29 [])) [(.t 127), (.t 129), (.t 130), (.t 131)], none⟩])
          (.reg [⟨some 133, .mv (.t 14), none⟩, ⟨some 2, .mv (.t 133), none⟩]))))))))))))))))))))))⟩
theorem c29 : compFn Try.prog Try.f29 = some i29 := by kernel_rfl
/-- math/bits.Len -/
def i30 : IFn := ⟨8, [.tmp 2], (.seq (.reg [⟨some 2, .mv (.c (.x (.int .i64 (0)))), none⟩])
  (.seq (.cond (.c (.x (.bool false)))
    (.seq (.reg [⟨some 3, .mv (.t 0), none⟩, ⟨some 4, .cvi .u32 (.t 3), none⟩, ⟨some 5, .call (.c (.fn 46 [])) [(.t 4)], none⟩, ⟨some 2, .mv (.t 5), none⟩])
    .ret)
    .skip)
  (.seq (.reg [⟨some 6, .mv (.t 0), none⟩, ⟨some 7, .call (.c (.fn 47 [])) [(.t 6)], none⟩, ⟨some 2, .mv (.t 7), none⟩])
  .ret)))⟩
theorem c30 : compFn Try.prog Try.f30 = some i30 := by kernel_rfl
/-- slices.Equal[[]string,string] -/
def i31 : IFn := ⟨26, [.tmp 4], (.seq (.reg [⟨some 4, .mv (.c (.x (.bool false))), none⟩])
  (.seq (.seq (.reg [⟨some 6, .mv (.t 0), none⟩, ⟨some 7, .len false (.t 6), none⟩, ⟨some 8, .mv (.t 1), none⟩, ⟨some 9, .len false (.t 8), none⟩, ⟨some 10, .bin .neq (.t 7) (.t 9), none⟩])
  (.cond (.t 10)
    (.seq (.reg [⟨some 4, .mv (.c (.x (.bool false))), none⟩])
    .ret)
    .skip))
  (.seq (.seq (.reg [⟨some 11, .mv (.t 0), none⟩, ⟨some 12, .len false (.t 11), none⟩, ⟨some 13, .mv (.c (.x (.int .i64 (0)))), none⟩])
  (.block 0
    (.loop
      (.seq (.reg [⟨some 14, .bin .lss (.t 13) (.t 12), none⟩])
      (.seq (.cond (.t 14)
        .skip
        (.exit 0))
      (.seq (.block 1
        (.seq (.reg [⟨some 15, .mv (.t 13), none⟩, ⟨some 5, .mv (.t 15), none⟩])
        (.seq (.dreg 8 [] [⟨some 16, .mv (.t 0), none⟩, ⟨some 17, .mv (.t 5), none⟩, ⟨some 18, .iad 1 (.t 16) (.t 17), none⟩, ⟨some 19, .ld 1 false (.t 18), none⟩, ⟨some 20, .mv (.t 1), none⟩, ⟨some 21, .mv (.t 5), none⟩, ⟨some 22, .iad 1 (.t 20) (.t 21), none⟩, ⟨some 23, .ld 1 false (.t 22), none⟩, ⟨some 24, .bin .neq (.t 19) (.t 23), none⟩])
        (.cond (.t 24)
          (.seq (.reg [⟨some 4, .mv (.c (.x (.bool false))), none⟩])
          .ret)
          .skip))))
      (.reg [⟨some 25, .bin .add (.t 13) (.c (.x (.int .i64 (1)))), none⟩, ⟨some 13, .mv (.t 25), none⟩])))))))
  (.seq (.reg [⟨some 4, .mv (.c (.x (.bool true))), none⟩])
  .ret))))⟩
theorem c31 : compFn Try.prog Try.f31 = some i31 := by kernel_rfl
/-- bothy/filter.texts -/
def i32 : IFn := ⟨11, [.tmp 2], (.seq (.reg [⟨some 1, .box (.t 0), none⟩, ⟨some 2, .mv (.c (.x .nils)), none⟩])
  (.seq (.reg [⟨some 3, .fad 0 (.t 1), none⟩, ⟨some 4, .ld 1 false (.t 3), none⟩, ⟨some 5, .fad 2 (.t 1), none⟩, ⟨some 6, .ld 1 false (.t 5), none⟩, ⟨some 7, .bsl 9 1 2 [(.t 4), (.t 6)], none⟩, ⟨some 8, .fad 1 (.t 1), none⟩, ⟨some 9, .ld 1 false (.t 8), none⟩, ⟨some 10, .app 9 1 16 (.t 7) (.t 9), none⟩, ⟨some 2, .mv (.t 10), none⟩])
  .ret))⟩
theorem c32 : compFn Try.prog Try.f32 = some i32 := by kernel_rfl
/-- slices.EqualFunc[[]bothy/api.Filter,[]bothy/api.Filter,bothy/api.Filter,bothy/api.Filter] -/
def i33 : IFn := ⟨32, [.tmp 6], (.seq (.reg [⟨some 6, .mv (.c (.x (.bool false))), none⟩])
  (.seq (.seq (.reg [⟨some 10, .mv (.t 0), none⟩, ⟨some 11, .len false (.t 10), none⟩, ⟨some 12, .mv (.t 1), none⟩, ⟨some 13, .len false (.t 12), none⟩, ⟨some 14, .bin .neq (.t 11) (.t 13), none⟩])
  (.cond (.t 14)
    (.seq (.reg [⟨some 6, .mv (.c (.x (.bool false))), none⟩])
    .ret)
    .skip))
  (.seq (.seq (.reg [⟨some 15, .mv (.t 0), none⟩, ⟨some 16, .len false (.t 15), none⟩, ⟨some 17, .mv (.c (.x (.int .i64 (0)))), none⟩])
  (.block 0
    (.loop
      (.seq (.reg [⟨some 18, .bin .lss (.t 17) (.t 16), none⟩])
      (.seq (.cond (.t 18)
        .skip
        (.exit 0))
      (.seq (.block 1
        (.seq (.reg [⟨some 19, .mv (.t 17), none⟩, ⟨some 20, .iad 7 (.t 15) (.t 17), none⟩, ⟨some 21, .ld 7 true (.t 20), none⟩, ⟨some 8, .box (.c (.agg [.x (.int .i64 (0)), .x (.str []), .x (.str []), .x (.str []), .x .nils, .x (.str []), .x .nils])), none⟩, ⟨some 7, .mv (.t 19), none⟩, ⟨none, .sto 7 (.t 8) (.t 21), none⟩])
        (.seq (.reg [⟨some 22, .mv (.t 1), none⟩, ⟨some 23, .mv (.t 7), none⟩, ⟨some 24, .iad 7 (.t 22) (.t 23), none⟩, ⟨some 25, .ld 7 true (.t 24), none⟩, ⟨some 9, .box (.c (.agg [.x (.int .i64 (0)), .x (.str []), .x (.str []), .x (.str []), .x .nils, .x (.str []), .x .nils])), none⟩, ⟨none, .sto 7 (.t 9) (.t 25), none⟩])
        (.seq (.reg [⟨some 26, .mv (.t 2), none⟩, ⟨some 27, .ld 7 true (.t 8), none⟩, ⟨some 28, .ld 7 true (.t 9), none⟩, ⟨some 29, .call (.t 26) [(.t 27), (.t 28)], none⟩, ⟨some 30, .un .not (.t 29), none⟩])
        (.cond (.t 30)
          (.seq (.reg [⟨some 6, .mv (.c (.x (.bool false))), none⟩])
          .ret)
          .skip)))))
      (.reg [⟨some 31, .bin .add (.t 17) (.c (.x (.int .i64 (1)))), none⟩, ⟨some 17, .mv (.t 31), none⟩])))))))
  (.seq (.reg [⟨some 6, .mv (.c (.x (.bool true))), none⟩])
  .ret))))⟩
theorem c33 : compFn Try.prog Try.f33 = some i33 := by kernel_rfl
/-- bothy/filter.same$1 -/
def i34 : IFn := ⟨11, [.tmp 5], (.seq (.reg [⟨some 3, .box (.t 0), none⟩, ⟨some 4, .box (.t 1), none⟩, ⟨some 5, .mv (.c (.x (.bool false))), none⟩])
  (.seq (.reg [⟨some 6, .ld 7 true (.t 3), none⟩, ⟨some 7, .ld 7 true (.t 4), none⟩, ⟨some 8, .ld 1 false (.t 2), none⟩, ⟨some 9, .bin .sub (.t 8) (.c (.x (.int .i64 (1)))), none⟩, ⟨some 10, .call (.c (.fn 25 [])) [(.t 6), (.t 7), (.t 9)], none⟩, ⟨some 5, .mv (.t 10), none⟩])
  .ret))⟩
theorem c34 : compFn Try.prog Try.f34 = some i34 := by kernel_rfl
/-- bothy/filter.fits -/
def i35 : IFn := ⟨74, [.tmp 2], (.seq (.reg [⟨some 1, .box (.t 0), none⟩, ⟨some 2, .mv (.c (.x (.bool false))), none⟩])
  (.seq (.seq (.reg [⟨some 3, .fad 0 (.t 1), none⟩, ⟨some 4, .ld 1 false (.t 3), none⟩])
  (.block 0
    (.seq (.seq (.reg [⟨some 6, .bin .eql (.t 4) (.c (.x (.int .i64 (0)))), none⟩, ⟨some 5, .mv (.t 6), none⟩])
    (.cond (.t 5)
      .skip
      (.seq (.reg [⟨some 7, .bin .eql (.t 4) (.c (.x (.int .i64 (1)))), none⟩, ⟨some 5, .mv (.t 7), none⟩])
      (.cond (.t 5)
        .skip
        (.reg [⟨some 8, .bin .eql (.t 4) (.c (.x (.int .i64 (2)))), none⟩, ⟨some 5, .mv (.t 8), none⟩])))))
    (.cond (.t 5)
      (.seq (.reg [⟨some 9, .fad 1 (.t 1), none⟩, ⟨some 10, .ld 1 false (.t 9), none⟩, ⟨some 11, .bin .eql (.t 10) (.c (.x (.str []))), none⟩, ⟨some 12, .mv (.t 11), none⟩, ⟨some 13, .fad 2 (.t 1), (some (12, true))⟩, ⟨some 14, .ld 1 false (.t 13), (some (12, true))⟩, ⟨some 15, .bin .eql (.t 14) (.c (.x (.str []))), (some (12, true))⟩, ⟨some 16, .pick (.t 12) (.t 15) (.c (.x (.bool false))), none⟩, ⟨some 17, .mv (.t 16), none⟩, ⟨some 18, .fad 3 (.t 1), (some (17, true))⟩, ⟨some 19, .ld 3 true (.t 18), (some (17, true))⟩, ⟨some 20, .call (.c (.fn 48 [])) [(.t 19)], (some (17, true))⟩, ⟨some 21, .pick (.t 17) (.t 20) (.c (.x (.bool false))), none⟩, ⟨some 22, .mv (.t 21), none⟩, ⟨some 23, .fad 0 (.t 1), (some (22, true))⟩, ⟨some 24, .ld 1 false (.t 23), (some (22, true))⟩, ⟨some 25, .bin .neq (.t 24) (.c (.x (.int .i64 (2)))), (some (22, true))⟩, ⟨some 26, .mv (.t 25), (some (22, true))⟩, ⟨some 27, .fad 6 (.t 1), (some (26, false))⟩, ⟨some 28, .ld 1 false (.t 27), (some (26, false))⟩, ⟨some 29, .len false (.t 28), (some (26, false))⟩, ⟨some 30, .bin .eql (.t 29) (.c (.x (.int .i64 (1)))), (some (26, false))⟩, ⟨some 31, .pick (.t 26) (.c (.x (.bool true))) (.t 30), (some (22, true))⟩, ⟨some 32, .pick (.t 22) (.t 31) (.c (.x (.bool false))), none⟩, ⟨some 2, .mv (.t 32), none⟩])
      .ret)
      (.seq (.reg [⟨some 34, .bin .eql (.t 4) (.c (.x (.int .i64 (4)))), none⟩, ⟨some 33, .mv (.t 34), none⟩])
      (.cond (.t 33)
        (.seq (.reg [⟨some 35, .fad 6 (.t 1), none⟩, ⟨some 36, .ld 1 false (.t 35), none⟩, ⟨some 37, .len false (.t 36), none⟩, ⟨some 38, .bin .eql (.t 37) (.c (.x (.int .i64 (0)))), none⟩, ⟨some 39, .mv (.t 38), none⟩, ⟨some 40, .fad 2 (.t 1), (some (39, true))⟩, ⟨some 41, .ld 1 false (.t 40), (some (39, true))⟩, ⟨some 42, .bin .eql (.t 41) (.c (.x (.str []))), (some (39, true))⟩, ⟨some 43, .pick (.t 39) (.t 42) (.c (.x (.bool false))), none⟩, ⟨some 44, .mv (.t 43), none⟩, ⟨some 45, .fad 3 (.t 1), (some (44, true))⟩, ⟨some 46, .ld 3 true (.t 45), (some (44, true))⟩, ⟨some 47, .call (.c (.fn 49 [])) [(.t 46)], (some (44, true))⟩, ⟨some 48, .pick (.t 44) (.t 47) (.c (.x (.bool false))), none⟩, ⟨some 2, .mv (.t 48), none⟩])
        .ret)
        (.seq (.reg [⟨some 50, .bin .eql (.t 4) (.c (.x (.int .i64 (7)))), none⟩, ⟨some 49, .mv (.t 50), none⟩])
        (.cond (.t 49)
          (.seq (.reg [⟨some 51, .fad 6 (.t 1), none⟩, ⟨some 52, .ld 1 false (.t 51), none⟩, ⟨some 53, .len false (.t 52), none⟩, ⟨some 54, .bin .eql (.t 53) (.c (.x (.int .i64 (0)))), none⟩, ⟨some 55, .mv (.t 54), none⟩, ⟨some 56, .fad 2 (.t 1), (some (55, true))⟩, ⟨some 57, .ld 1 false (.t 56), (some (55, true))⟩, ⟨some 58, .bin .eql (.t 57) (.c (.x (.str []))), (some (55, true))⟩, ⟨some 59, .pick (.t 55) (.t 58) (.c (.x (.bool false))), none⟩, ⟨some 60, .mv (.t 59), none⟩, ⟨some 61, .fad 3 (.t 1), (some (60, true))⟩, ⟨some 62, .ld 3 true (.t 61), (some (60, true))⟩, ⟨some 63, .call (.c (.fn 48 [])) [(.t 62)], (some (60, true))⟩, ⟨some 64, .pick (.t 60) (.t 63) (.c (.x (.bool false))), none⟩, ⟨some 2, .mv (.t 64), none⟩])
          .ret)
          .skip))))))))
  (.seq (.reg [⟨some 65, .fad 6 (.t 1), none⟩, ⟨some 66, .ld 1 false (.t 65), none⟩, ⟨some 67, .len false (.t 66), none⟩, ⟨some 68, .bin .eql (.t 67) (.c (.x (.int .i64 (0)))), none⟩, ⟨some 69, .mv (.t 68), none⟩, ⟨some 70, .fad 3 (.t 1), (some (69, true))⟩, ⟨some 71, .ld 3 true (.t 70), (some (69, true))⟩, ⟨some 72, .call (.c (.fn 48 [])) [(.t 71)], (some (69, true))⟩, ⟨some 73, .pick (.t 69) (.t 72) (.c (.x (.bool false))), none⟩, ⟨some 2, .mv (.t 73), none⟩])
  .ret)))⟩
theorem c35 : compFn Try.prog Try.f35 = some i35 := by kernel_rfl
/-- bothy/filter.typed -/
def i36 : IFn := ⟨51, [.tmp 2], (.seq (.reg [⟨some 2, .mv (.c (.x (.bool false))), none⟩])
  (.seq (.reg [⟨some 7, .mv (.t 0), none⟩, ⟨some 8, .bin .neq (.t 7) (.c (.x (.str []))), none⟩, ⟨some 9, .mv (.t 8), none⟩, ⟨some 10, .mv (.t 0), (some (9, true))⟩, ⟨some 11, .len true (.t 10), (some (9, true))⟩, ⟨some 12, .bin .leq (.t 11) (.c (.x (.int .i64 (64)))), (some (9, true))⟩, ⟨some 13, .pick (.t 9) (.t 12) (.c (.x (.bool false))), none⟩, ⟨some 3, .mv (.t 13), none⟩])
  (.seq (.seq (.reg [⟨some 14, .mv (.t 0), none⟩, ⟨some 15, .call (.c (.fn 28 [])) [(.t 14)], none⟩, ⟨some 16, .s2b 5 (.t 15), none⟩, ⟨some 17, .len false (.t 16), none⟩, ⟨some 18, .mv (.c (.x (.int .i64 (0)))), none⟩])
  (.block 0
    (.loop
      (.seq (.reg [⟨some 19, .bin .lss (.t 18) (.t 17), none⟩])
      (.seq (.cond (.t 19)
        .skip
        (.exit 0))
      (.seq (.block 1
        (.seq (.reg [⟨some 20, .mv (.t 18), none⟩, ⟨some 21, .iad 1 (.t 16) (.t 18), none⟩, ⟨some 22, .ld 1 false (.t 21), none⟩, ⟨some 4, .mv (.t 20), none⟩, ⟨some 5, .mv (.t 22), none⟩])
        (.seq (.reg [⟨some 23, .mv (.t 5), none⟩, ⟨some 24, .bin .geq (.t 23) (.c (.x (.int .u8 (97)))), none⟩, ⟨some 25, .mv (.t 24), none⟩, ⟨some 26, .mv (.t 5), (some (25, true))⟩, ⟨some 27, .bin .leq (.t 26) (.c (.x (.int .u8 (122)))), (some (25, true))⟩, ⟨some 28, .pick (.t 25) (.t 27) (.c (.x (.bool false))), none⟩, ⟨some 6, .mv (.t 28), none⟩])
        (.reg [⟨some 29, .mv (.t 3), none⟩, ⟨some 30, .mv (.t 29), none⟩, ⟨some 31, .mv (.t 6), (some (30, true))⟩, ⟨some 32, .mv (.t 31), (some (30, true))⟩, ⟨some 33, .mv (.t 4), (some (32, false))⟩, ⟨some 34, .bin .gtr (.t 33) (.c (.x (.int .i64 (0)))), (some (32, false))⟩, ⟨some 35, .mv (.t 34), (some (32, false))⟩, ⟨some 36, .mv (.t 5), (some (35, true))⟩, ⟨some 37, .bin .geq (.t 36) (.c (.x (.int .u8 (48)))), (some (35, true))⟩, ⟨some 38, .mv (.t 37), (some (35, true))⟩, ⟨some 39, .mv (.t 5), (some (38, true))⟩, ⟨some 40, .bin .leq (.t 39) (.c (.x (.int .u8 (57)))), (some (38, true))⟩, ⟨some 41, .pick (.t 38) (.t 40) (.c (.x (.bool false))), (some (35, true))⟩, ⟨some 42, .mv (.t 41), (some (35, true))⟩, ⟨some 43, .mv (.t 5), (some (42, false))⟩, ⟨some 44, .bin .eql (.t 43) (.c (.x (.int .u8 (45)))), (some (42, false))⟩, ⟨some 45, .pick (.t 42) (.c (.x (.bool true))) (.t 44), (some (35, true))⟩, ⟨some 46, .pick (.t 35) (.t 45) (.c (.x (.bool false))), (some (32, false))⟩, ⟨some 47, .pick (.t 32) (.c (.x (.bool true))) (.t 46), (some (30, true))⟩, ⟨some 48, .pick (.t 30) (.t 47) (.c (.x (.bool false))), none⟩, ⟨some 3, .mv (.t 48), none⟩]))))
      (.reg [⟨some 49, .bin .add (.t 18) (.c (.x (.int .i64 (1)))), none⟩, ⟨some 18, .mv (.t 49), none⟩])))))))
  (.seq (.reg [⟨some 50, .mv (.t 3), none⟩, ⟨some 2, .mv (.t 50), none⟩])
  .ret))))⟩
theorem c36 : compFn Try.prog Try.f36 = some i36 := by kernel_rfl
/-- slices.insertionSortOrdered[string] -/
def i37 : IFn := ⟨49, [], (.seq (.reg [⟨some 8, .mv (.t 1), none⟩, ⟨some 9, .bin .add (.t 8) (.c (.x (.int .i64 (1)))), none⟩, ⟨some 6, .mv (.t 9), none⟩])
  (.block 0
    (.loop
      (.seq (.seq (.reg [⟨some 10, .mv (.t 6), none⟩, ⟨some 11, .mv (.t 2), none⟩, ⟨some 12, .bin .lss (.t 10) (.t 11), none⟩])
      (.cond (.t 12)
        .skip
        (.exit 0)))
      (.seq (.block 1
        (.seq (.reg [⟨some 15, .mv (.t 6), none⟩, ⟨some 7, .mv (.t 15), none⟩])
        (.block 2
          (.loop
            (.seq (.seq (.dreg 13 [] [⟨some 16, .mv (.t 7), none⟩, ⟨some 17, .mv (.t 1), none⟩, ⟨some 18, .bin .gtr (.t 16) (.t 17), none⟩, ⟨some 19, .mv (.t 18), none⟩, ⟨some 20, .mv (.t 0), (some (19, true))⟩, ⟨some 21, .mv (.t 7), (some (19, true))⟩, ⟨some 22, .iad 1 (.t 20) (.t 21), (some (19, true))⟩, ⟨some 23, .ld 1 false (.t 22), (some (19, true))⟩, ⟨some 24, .mv (.t 0), (some (19, true))⟩, ⟨some 25, .mv (.t 7), (some (19, true))⟩, ⟨some 26, .bin .sub (.t 25) (.c (.x (.int .i64 (1)))), (some (19, true))⟩, ⟨some 27, .iad 1 (.t 24) (.t 26), (some (19, true))⟩, ⟨some 28, .ld 1 false (.t 27), (some (19, true))⟩, ⟨some 29, .call (.c (.fn 43 [])) [(.t 23), (.t 28)], (some (19, true))⟩, ⟨some 30, .pick (.t 19) (.t 29) (.c (.x (.bool false))), none⟩])
            (.cond (.t 30)
              .skip
              (.exit 2)))
            (.seq (.block 3
              (.dreg 14 [] [⟨some 33, .mv (.t 0), none⟩, ⟨some 34, .mv (.t 7), none⟩, ⟨some 35, .mv (.t 0), none⟩, ⟨some 36, .mv (.t 7), none⟩, ⟨some 37, .bin .sub (.t 36) (.c (.x (.int .i64 (1)))), none⟩, ⟨some 38, .mv (.t 0), none⟩, ⟨some 39, .mv (.t 7), none⟩, ⟨some 40, .bin .sub (.t 39) (.c (.x (.int .i64 (1)))), none⟩, ⟨some 41, .iad 1 (.t 38) (.t 40), none⟩, ⟨some 42, .ld 1 false (.t 41), none⟩, ⟨some 43, .mv (.t 0), none⟩, ⟨some 44, .mv (.t 7), none⟩, ⟨some 45, .iad 1 (.t 43) (.t 44), none⟩, ⟨some 46, .ld 1 false (.t 45), none⟩, ⟨some 47, .iad 1 (.t 33) (.t 34), none⟩, ⟨none, .sto 1 (.t 47) (.t 42), none⟩, ⟨some 48, .iad 1 (.t 35) (.t 37), none⟩, ⟨none, .sto 1 (.t 48) (.t 46), none⟩]))
            (.reg [⟨some 31, .mv (.t 7), none⟩, ⟨some 32, .bin .sub (.t 31) (.c (.x (.int .i64 (1)))), none⟩, ⟨some 7, .mv (.t 32), none⟩])))))))
      (.reg [⟨some 13, .mv (.t 6), none⟩, ⟨some 14, .bin .add (.t 13) (.c (.x (.int .i64 (1)))), none⟩, ⟨some 6, .mv (.t 14), none⟩]))))))⟩
theorem c37 : compFn Try.prog Try.f37 = some i37 := by kernel_rfl
/-- slices.heapSortOrdered[string] -/
def i38 : IFn := ⟨56, [], (.seq (.reg [⟨some 11, .mv (.t 1), none⟩, ⟨some 6, .mv (.t 11), none⟩])
  (.seq (.reg [⟨some 7, .mv (.c (.x (.int .i64 (0)))), none⟩])
  (.seq (.reg [⟨some 12, .mv (.t 2), none⟩, ⟨some 13, .mv (.t 1), none⟩, ⟨some 14, .bin .sub (.t 12) (.t 13), none⟩, ⟨some 8, .mv (.t 14), none⟩])
  (.seq (.seq (.reg [⟨some 15, .mv (.t 8), none⟩, ⟨some 16, .bin .sub (.t 15) (.c (.x (.int .i64 (1)))), none⟩, ⟨some 17, .bin .quo (.t 16) (.c (.x (.int .i64 (2)))), none⟩, ⟨some 9, .mv (.t 17), none⟩])
  (.block 0
    (.loop
      (.seq (.seq (.reg [⟨some 18, .mv (.t 9), none⟩, ⟨some 19, .bin .geq (.t 18) (.c (.x (.int .i64 (0)))), none⟩])
      (.cond (.t 19)
        .skip
        (.exit 0)))
      (.seq (.block 1
        (.reg [⟨some 22, .mv (.t 0), none⟩, ⟨some 23, .mv (.t 9), none⟩, ⟨some 24, .mv (.t 8), none⟩, ⟨some 25, .mv (.t 6), none⟩, ⟨some 26, .call (.c (.fn 50 [])) [(.t 22), (.t 23), (.t 24), (.t 25)], none⟩]))
      (.reg [⟨some 20, .mv (.t 9), none⟩, ⟨some 21, .bin .sub (.t 20) (.c (.x (.int .i64 (1)))), none⟩, ⟨some 9, .mv (.t 21), none⟩]))))))
  (.seq (.reg [⟨some 27, .mv (.t 8), none⟩, ⟨some 28, .bin .sub (.t 27) (.c (.x (.int .i64 (1)))), none⟩, ⟨some 10, .mv (.t 28), none⟩])
  (.block 2
    (.loop
      (.seq (.seq (.reg [⟨some 29, .mv (.t 10), none⟩, ⟨some 30, .bin .geq (.t 29) (.c (.x (.int .i64 (0)))), none⟩])
      (.cond (.t 30)
        .skip
        (.exit 2)))
      (.seq (.block 3
        (.seq (.dreg 16 [] [⟨some 33, .mv (.t 0), none⟩, ⟨some 34, .mv (.t 6), none⟩, ⟨some 35, .mv (.t 0), none⟩, ⟨some 36, .mv (.t 6), none⟩, ⟨some 37, .mv (.t 10), none⟩, ⟨some 38, .bin .add (.t 36) (.t 37), none⟩, ⟨some 39, .mv (.t 0), none⟩, ⟨some 40, .mv (.t 6), none⟩, ⟨some 41, .mv (.t 10), none⟩, ⟨some 42, .bin .add (.t 40) (.t 41), none⟩, ⟨some 43, .iad 1 (.t 39) (.t 42), none⟩, ⟨some 44, .ld 1 false (.t 43), none⟩, ⟨some 45, .mv (.t 0), none⟩, ⟨some 46, .mv (.t 6), none⟩, ⟨some 47, .iad 1 (.t 45) (.t 46), none⟩, ⟨some 48, .ld 1 false (.t 47), none⟩, ⟨some 49, .iad 1 (.t 33) (.t 34), none⟩, ⟨none, .sto 1 (.t 49) (.t 44), none⟩, ⟨some 50, .iad 1 (.t 35) (.t 38), none⟩, ⟨none, .sto 1 (.t 50) (.t 48), none⟩])
        (.reg [⟨some 51, .mv (.t 0), none⟩, ⟨some 52, .mv (.t 7), none⟩, ⟨some 53, .mv (.t 10), none⟩, ⟨some 54, .mv (.t 6), none⟩, ⟨some 55, .call (.c (.fn 50 [])) [(.t 51), (.t 52), (.t 53), (.t 54)], none⟩])))
      (.reg [⟨some 31, .mv (.t 10), none⟩, ⟨some 32, .bin .sub (.t 31) (.c (.x (.int .i64 (1)))), none⟩, ⟨some 10, .mv (.t 32), none⟩]))))))))))⟩
theorem c38 : compFn Try.prog Try.f38 = some i38 := by kernel_rfl
/-- slices.breakPatternsOrdered[string] -/
def i39 : IFn := ⟨65, [], (.seq (.reg [⟨some 11, .mv (.t 2), none⟩, ⟨some 12, .mv (.t 1), none⟩, ⟨some 13, .bin .sub (.t 11) (.t 12), none⟩, ⟨some 6, .mv (.t 13), none⟩])
  (.seq (.reg [⟨some 14, .mv (.t 6), none⟩, ⟨some 15, .bin .geq (.t 14) (.c (.x (.int .i64 (8)))), none⟩])
  (.cond (.t 15)
    (.seq (.reg [⟨some 16, .mv (.t 6), none⟩, ⟨some 17, .cvi .u64 (.t 16), none⟩, ⟨some 7, .box (.c (.x (.int .u64 (0)))), none⟩, ⟨none, .sto 1 (.t 7) (.t 17), none⟩])
    (.seq (.reg [⟨some 18, .mv (.t 6), none⟩, ⟨some 19, .call (.c (.fn 51 [])) [(.t 18)], none⟩, ⟨some 8, .mv (.t 19), none⟩])
    (.seq (.reg [⟨some 20, .mv (.t 1), none⟩, ⟨some 21, .mv (.t 6), none⟩, ⟨some 22, .bin .quo (.t 21) (.c (.x (.int .i64 (4)))), none⟩, ⟨some 23, .bin .mul (.t 22) (.c (.x (.int .i64 (2)))), none⟩, ⟨some 24, .bin .add (.t 20) (.t 23), none⟩, ⟨some 25, .bin .sub (.t 24) (.c (.x (.int .i64 (1)))), none⟩, ⟨some 9, .mv (.t 25), none⟩])
    (.block 0
      (.loop
        (.seq (.seq (.reg [⟨some 26, .mv (.t 9), none⟩, ⟨some 27, .mv (.t 1), none⟩, ⟨some 28, .mv (.t 6), none⟩, ⟨some 29, .bin .quo (.t 28) (.c (.x (.int .i64 (4)))), none⟩, ⟨some 30, .bin .mul (.t 29) (.c (.x (.int .i64 (2)))), none⟩, ⟨some 31, .bin .add (.t 27) (.t 30), none⟩, ⟨some 32, .bin .add (.t 31) (.c (.x (.int .i64 (1)))), none⟩, ⟨some 33, .bin .leq (.t 26) (.t 32), none⟩])
        (.cond (.t 33)
          .skip
          (.exit 0)))
        (.seq (.block 1
          (.seq (.reg [⟨some 36, .call (.c (.fn 52 [])) [(.t 7)], none⟩, ⟨some 37, .mv (.t 8), none⟩, ⟨some 38, .bin .sub (.t 37) (.c (.x (.int .u64 (1)))), none⟩, ⟨some 39, .bin .and (.t 36) (.t 38), none⟩, ⟨some 40, .cvi .i64 (.t 39), none⟩, ⟨some 10, .mv (.t 40), none⟩])
          (.seq (.seq (.reg [⟨some 41, .mv (.t 10), none⟩, ⟨some 42, .mv (.t 6), none⟩, ⟨some 43, .bin .geq (.t 41) (.t 42), none⟩])
          (.cond (.t 43)
            (.reg [⟨some 44, .mv (.t 10), none⟩, ⟨some 45, .mv (.t 6), none⟩, ⟨some 46, .bin .sub (.t 44) (.t 45), none⟩, ⟨some 10, .mv (.t 46), none⟩])
            .skip))
          (.dreg 16 [] [⟨some 47, .mv (.t 0), none⟩, ⟨some 48, .mv (.t 9), none⟩, ⟨some 49, .mv (.t 0), none⟩, ⟨some 50, .mv (.t 1), none⟩, ⟨some 51, .mv (.t 10), none⟩, ⟨some 52, .bin .add (.t 50) (.t 51), none⟩, ⟨some 53, .mv (.t 0), none⟩, ⟨some 54, .mv (.t 1), none⟩, ⟨some 55, .mv (.t 10), none⟩, ⟨some 56, .bin .add (.t 54) (.t 55), none⟩, ⟨some 57, .iad 1 (.t 53) (.t 56), none⟩, ⟨some 58, .ld 1 false (.t 57), none⟩, ⟨some 59, .mv (.t 0), none⟩, ⟨some 60, .mv (.t 9), none⟩, ⟨some 61, .iad 1 (.t 59) (.t 60), none⟩, ⟨some 62, .ld 1 false (.t 61), none⟩, ⟨some 63, .iad 1 (.t 47) (.t 48), none⟩, ⟨none, .sto 1 (.t 63) (.t 58), none⟩, ⟨some 64, .iad 1 (.t 49) (.t 52), none⟩, ⟨none, .sto 1 (.t 64) (.t 62), none⟩]))))
        (.reg [⟨some 34, .mv (.t 9), none⟩, ⟨some 35, .bin .add (.t 34) (.c (.x (.int .i64 (1)))), none⟩, ⟨some 9, .mv (.t 35), none⟩]))))))))
    .skip)))⟩
theorem c39 : compFn Try.prog Try.f39 = some i39 := by kernel_rfl
/-- slices.choosePivotOrdered[string] -/
def i40 : IFn := ⟨57, [.tmp 6, .tmp 7], (.seq (.reg [⟨some 6, .mv (.c (.x (.int .i64 (0)))), none⟩, ⟨some 7, .mv (.c (.x (.int .i64 (0)))), none⟩])
  (.seq (.reg [⟨some 13, .mv (.t 2), none⟩, ⟨some 14, .mv (.t 1), none⟩, ⟨some 15, .bin .sub (.t 13) (.t 14), none⟩, ⟨some 8, .mv (.t 15), none⟩])
  (.seq (.reg [⟨some 9, .box (.c (.x (.int .i64 (0)))), none⟩])
  (.seq (.reg [⟨some 16, .mv (.t 1), none⟩, ⟨some 17, .mv (.t 8), none⟩, ⟨some 18, .bin .quo (.t 17) (.c (.x (.int .i64 (4)))), none⟩, ⟨some 19, .bin .mul (.t 18) (.c (.x (.int .i64 (1)))), none⟩, ⟨some 20, .bin .add (.t 16) (.t 19), none⟩, ⟨some 10, .mv (.t 20), none⟩])
  (.seq (.reg [⟨some 21, .mv (.t 1), none⟩, ⟨some 22, .mv (.t 8), none⟩, ⟨some 23, .bin .quo (.t 22) (.c (.x (.int .i64 (4)))), none⟩, ⟨some 24, .bin .mul (.t 23) (.c (.x (.int .i64 (2)))), none⟩, ⟨some 25, .bin .add (.t 21) (.t 24), none⟩, ⟨some 11, .mv (.t 25), none⟩])
  (.seq (.reg [⟨some 26, .mv (.t 1), none⟩, ⟨some 27, .mv (.t 8), none⟩, ⟨some 28, .bin .quo (.t 27) (.c (.x (.int .i64 (4)))), none⟩, ⟨some 29, .bin .mul (.t 28) (.c (.x (.int .i64 (3)))), none⟩, ⟨some 30, .bin .add (.t 26) (.t 29), none⟩, ⟨some 12, .mv (.t 30), none⟩])
  (.seq (.seq (.reg [⟨some 31, .mv (.t 8), none⟩, ⟨some 32, .bin .geq (.t 31) (.c (.x (.int .i64 (8)))), none⟩])
  (.cond (.t 32)
    (.seq (.seq (.reg [⟨some 33, .mv (.t 8), none⟩, ⟨some 34, .bin .geq (.t 33) (.c (.x (.int .i64 (50)))), none⟩])
    (.cond (.t 34)
      (.seq (.reg [⟨some 35, .mv (.t 0), none⟩, ⟨some 36, .mv (.t 10), none⟩, ⟨some 37, .call (.c (.fn 53 [])) [(.t 35), (.t 36), (.t 9)], none⟩, ⟨some 10, .mv (.t 37), none⟩])
      (.seq (.reg [⟨some 38, .mv (.t 0), none⟩, ⟨some 39, .mv (.t 11), none⟩, ⟨some 40, .call (.c (.fn 53 [])) [(.t 38), (.t 39), (.t 9)], none⟩, ⟨some 11, .mv (.t 40), none⟩])
      (.reg [⟨some 41, .mv (.t 0), none⟩, ⟨some 42, .mv (.t 12), none⟩, ⟨some 43, .call (.c (.fn 53 [])) [(.t 41), (.t 42), (.t 9)], none⟩, ⟨some 12, .mv (.t 43), none⟩])))
      .skip))
    (.reg [⟨some 44, .mv (.t 0), none⟩, ⟨some 45, .mv (.t 10), none⟩, ⟨some 46, .mv (.t 11), none⟩, ⟨some 47, .mv (.t 12), none⟩, ⟨some 48, .call (.c (.fn 54 [])) [(.t 44), (.t 45), (.t 46), (.t 47), (.t 9)], none⟩, ⟨some 11, .mv (.t 48), none⟩]))
    .skip))
  (.seq (.reg [⟨some 49, .ld 1 false (.t 9), none⟩])
  (.block 0
    (.seq (.reg [⟨some 52, .bin .eql (.t 49) (.c (.x (.int .i64 (0)))), none⟩, ⟨some 51, .mv (.t 52), none⟩])
    (.cond (.t 51)
      (.seq (.reg [⟨some 53, .mv (.t 11), none⟩, ⟨some 6, .mv (.t 53), none⟩, ⟨some 7, .mv (.c (.x (.int .i64 (1)))), none⟩])
      .ret)
      (.seq (.reg [⟨some 55, .bin .eql (.t 49) (.c (.x (.int .i64 (12)))), none⟩, ⟨some 54, .mv (.t 55), none⟩])
      (.cond (.t 54)
        (.seq (.reg [⟨some 56, .mv (.t 11), none⟩, ⟨some 6, .mv (.t 56), none⟩, ⟨some 7, .mv (.c (.x (.int .i64 (2)))), none⟩])
        .ret)
        (.seq (.reg [⟨some 50, .mv (.t 11), none⟩, ⟨some 6, .mv (.t 50), none⟩, ⟨some 7, .mv (.c (.x (.int .i64 (0)))), none⟩])
        .ret))))))))))))))⟩
theorem c40 : compFn Try.prog Try.f40 = some i40 := by kernel_rfl
/-- slices.reverseRangeOrdered[string] -/
def i41 : IFn := ⟨32, [], (.seq (.reg [⟨some 8, .mv (.t 1), none⟩, ⟨some 6, .mv (.t 8), none⟩])
  (.seq (.reg [⟨some 9, .mv (.t 2), none⟩, ⟨some 10, .bin .sub (.t 9) (.c (.x (.int .i64 (1)))), none⟩, ⟨some 7, .mv (.t 10), none⟩])
  (.block 0
    (.loop
      (.seq (.seq (.reg [⟨some 11, .mv (.t 6), none⟩, ⟨some 12, .mv (.t 7), none⟩, ⟨some 13, .bin .lss (.t 11) (.t 12), none⟩])
      (.cond (.t 13)
        .skip
        (.exit 0)))
      (.block 1
        (.seq (.dreg 12 [] [⟨some 14, .mv (.t 0), none⟩, ⟨some 15, .mv (.t 6), none⟩, ⟨some 16, .mv (.t 0), none⟩, ⟨some 17, .mv (.t 7), none⟩, ⟨some 18, .mv (.t 0), none⟩, ⟨some 19, .mv (.t 7), none⟩, ⟨some 20, .iad 1 (.t 18) (.t 19), none⟩, ⟨some 21, .ld 1 false (.t 20), none⟩, ⟨some 22, .mv (.t 0), none⟩, ⟨some 23, .mv (.t 6), none⟩, ⟨some 24, .iad 1 (.t 22) (.t 23), none⟩, ⟨some 25, .ld 1 false (.t 24), none⟩, ⟨some 26, .iad 1 (.t 14) (.t 15), none⟩, ⟨none, .sto 1 (.t 26) (.t 21), none⟩, ⟨some 27, .iad 1 (.t 16) (.t 17), none⟩, ⟨none, .sto 1 (.t 27) (.t 25), none⟩])
        (.seq (.reg [⟨some 28, .mv (.t 6), none⟩, ⟨some 29, .bin .add (.t 28) (.c (.x (.int .i64 (1)))), none⟩, ⟨some 6, .mv (.t 29), none⟩])
        (.reg [⟨some 30, .mv (.t 7), none⟩, ⟨some 31, .bin .sub (.t 30) (.c (.x (.int .i64 (1)))), none⟩, ⟨some 7, .mv (.t 31), none⟩])))))))))⟩
theorem c41 : compFn Try.prog Try.f41 = some i41 := by kernel_rfl
/-- slices.partialInsertionSortOrdered[string] -/
def i42 : IFn := ⟨133, [.tmp 6], (.seq (.reg [⟨some 6, .mv (.c (.x (.bool false))), none⟩])
  (.seq (.reg [⟨some 11, .mv (.t 1), none⟩, ⟨some 12, .bin .add (.t 11) (.c (.x (.int .i64 (1)))), none⟩, ⟨some 7, .mv (.t 12), none⟩])
  (.seq (.seq (.reg [⟨some 8, .mv (.c (.x (.int .i64 (0)))), none⟩])
  (.block 0
    (.loop
      (.seq (.seq (.reg [⟨some 13, .mv (.t 8), none⟩, ⟨some 14, .bin .lss (.t 13) (.c (.x (.int .i64 (5)))), none⟩])
      (.cond (.t 14)
        .skip
        (.exit 0)))
      (.seq (.block 1
        (.seq (.block 2
          (.loop
            (.seq (.seq (.dreg 13 [] [⟨some 17, .mv (.t 7), none⟩, ⟨some 18, .mv (.t 2), none⟩, ⟨some 19, .bin .lss (.t 17) (.t 18), none⟩, ⟨some 20, .mv (.t 19), none⟩, ⟨some 21, .mv (.t 0), (some (20, true))⟩, ⟨some 22, .mv (.t 7), (some (20, true))⟩, ⟨some 23, .iad 1 (.t 21) (.t 22), (some (20, true))⟩, ⟨some 24, .ld 1 false (.t 23), (some (20, true))⟩, ⟨some 25, .mv (.t 0), (some (20, true))⟩, ⟨some 26, .mv (.t 7), (some (20, true))⟩, ⟨some 27, .bin .sub (.t 26) (.c (.x (.int .i64 (1)))), (some (20, true))⟩, ⟨some 28, .iad 1 (.t 25) (.t 27), (some (20, true))⟩, ⟨some 29, .ld 1 false (.t 28), (some (20, true))⟩, ⟨some 30, .call (.c (.fn 43 [])) [(.t 24), (.t 29)], (some (20, true))⟩, ⟨some 31, .un .not (.t 30), (some (20, true))⟩, ⟨some 32, .pick (.t 20) (.t 31) (.c (.x (.bool false))), none⟩])
            (.cond (.t 32)
              .skip
              (.exit 2)))
            (.block 3
              (.reg [⟨some 33, .mv (.t 7), none⟩, ⟨some 34, .bin .add (.t 33) (.c (.x (.int .i64 (1)))), none⟩, ⟨some 7, .mv (.t 34), none⟩])))))
        (.seq (.seq (.reg [⟨some 35, .mv (.t 7), none⟩, ⟨some 36, .mv (.t 2), none⟩, ⟨some 37, .bin .eql (.t 35) (.t 36), none⟩])
        (.cond (.t 37)
          (.seq (.reg [⟨some 6, .mv (.c (.x (.bool true))), none⟩])
          .ret)
          .skip))
        (.seq (.seq (.reg [⟨some 38, .mv (.t 2), none⟩, ⟨some 39, .mv (.t 1), none⟩, ⟨some 40, .bin .sub (.t 38) (.t 39), none⟩, ⟨some 41, .bin .lss (.t 40) (.c (.x (.int .i64 (50)))), none⟩])
        (.cond (.t 41)
          (.seq (.reg [⟨some 6, .mv (.c (.x (.bool false))), none⟩])
          .ret)
          .skip))
        (.seq (.dreg 14 [] [⟨some 42, .mv (.t 0), none⟩, ⟨some 43, .mv (.t 7), none⟩, ⟨some 44, .mv (.t 0), none⟩, ⟨some 45, .mv (.t 7), none⟩, ⟨some 46, .bin .sub (.t 45) (.c (.x (.int .i64 (1)))), none⟩, ⟨some 47, .mv (.t 0), none⟩, ⟨some 48, .mv (.t 7), none⟩, ⟨some 49, .bin .sub (.t 48) (.c (.x (.int .i64 (1)))), none⟩, ⟨some 50, .iad 1 (.t 47) (.t 49), none⟩, ⟨some 51, .ld 1 false (.t 50), none⟩, ⟨some 52, .mv (.t 0), none⟩, ⟨some 53, .mv (.t 7), none⟩, ⟨some 54, .iad 1 (.t 52) (.t 53), none⟩, ⟨some 55, .ld 1 false (.t 54), none⟩, ⟨some 56, .iad 1 (.t 42) (.t 43), none⟩, ⟨none, .sto 1 (.t 56) (.t 51), none⟩, ⟨some 57, .iad 1 (.t 44) (.t 46), none⟩, ⟨none, .sto 1 (.t 57) (.t 55), none⟩])
        (.seq (.seq (.reg [⟨some 58, .mv (.t 7), none⟩, ⟨some 59, .mv (.t 1), none⟩, ⟨some 60, .bin .sub (.t 58) (.t 59), none⟩, ⟨some 61, .bin .geq (.t 60) (.c (.x (.int .i64 (2)))), none⟩])
        (.cond (.t 61)
          (.seq (.reg [⟨some 62, .mv (.t 7), none⟩, ⟨some 63, .bin .sub (.t 62) (.c (.x (.int .i64 (1)))), none⟩, ⟨some 9, .mv (.t 63), none⟩])
          (.block 4
            (.loop
              (.seq (.seq (.reg [⟨some 64, .mv (.t 9), none⟩, ⟨some 65, .bin .geq (.t 64) (.c (.x (.int .i64 (1)))), none⟩])
              (.cond (.t 65)
                .skip
                (.exit 4)))
              (.seq (.block 5
                (.seq (.seq (.dreg 9 [] [⟨some 68, .mv (.t 0), none⟩, ⟨some 69, .mv (.t 9), none⟩, ⟨some 70, .iad 1 (.t 68) (.t 69), none⟩, ⟨some 71, .ld 1 false (.t 70), none⟩, ⟨some 72, .mv (.t 0), none⟩, ⟨some 73, .mv (.t 9), none⟩, ⟨some 74, .bin .sub (.t 73) (.c (.x (.int .i64 (1)))), none⟩, ⟨some 75, .iad 1 (.t 72) (.t 74), none⟩, ⟨some 76, .ld 1 false (.t 75), none⟩, ⟨some 77, .call (.c (.fn 43 [])) [(.t 71), (.t 76)], none⟩, ⟨some 78, .un .not (.t 77), none⟩])
                (.cond (.t 78)
                  (.exit 4)
                  .skip))
                (.dreg 14 [] [⟨some 79, .mv (.t 0), none⟩, ⟨some 80, .mv (.t 9), none⟩, ⟨some 81, .mv (.t 0), none⟩, ⟨some 82, .mv (.t 9), none⟩, ⟨some 83, .bin .sub (.t 82) (.c (.x (.int .i64 (1)))), none⟩, ⟨some 84, .mv (.t 0), none⟩, ⟨some 85, .mv (.t 9), none⟩, ⟨some 86, .bin .sub (.t 85) (.c (.x (.int .i64 (1)))), none⟩, ⟨some 87, .iad 1 (.t 84) (.t 86), none⟩, ⟨some 88, .ld 1 false (.t 87), none⟩, ⟨some 89, .mv (.t 0), none⟩, ⟨some 90, .mv (.t 9), none⟩, ⟨some 91, .iad 1 (.t 89) (.t 90), none⟩, ⟨some 92, .ld 1 false (.t 91), none⟩, ⟨some 93, .iad 1 (.t 79) (.t 80), none⟩, ⟨none, .sto 1 (.t 93) (.t 88), none⟩, ⟨some 94, .iad 1 (.t 81) (.t 83), none⟩, ⟨none, .sto 1 (.t 94) (.t 92), none⟩])))
              (.reg [⟨some 66, .mv (.t 9), none⟩, ⟨some 67, .bin .sub (.t 66) (.c (.x (.int .i64 (1)))), none⟩, ⟨some 9, .mv (.t 67), none⟩]))))))
          .skip))
        (.seq (.reg [⟨some 95, .mv (.t 2), none⟩, ⟨some 96, .mv (.t 7), none⟩, ⟨some 97, .bin .sub (.t 95) (.t 96), none⟩, ⟨some 98, .bin .geq (.t 97) (.c (.x (.int .i64 (2)))), none⟩])
        (.cond (.t 98)
          (.seq (.reg [⟨some 99, .mv (.t 7), none⟩, ⟨some 100, .bin .add (.t 99) (.c (.x (.int .i64 (1)))), none⟩, ⟨some 10, .mv (.t 100), none⟩])
          (.block 6
            (.loop
              (.seq (.seq (.reg [⟨some 101, .mv (.t 10), none⟩, ⟨some 102, .mv (.t 2), none⟩, ⟨some 103, .bin .lss (.t 101) (.t 102), none⟩])
              (.cond (.t 103)
                .skip
                (.exit 6)))
              (.seq (.block 7
                (.seq (.seq (.dreg 9 [] [⟨some 106, .mv (.t 0), none⟩, ⟨some 107, .mv (.t 10), none⟩, ⟨some 108, .iad 1 (.t 106) (.t 107), none⟩, ⟨some 109, .ld 1 false (.t 108), none⟩, ⟨some 110, .mv (.t 0), none⟩, ⟨some 111, .mv (.t 10), none⟩, ⟨some 112, .bin .sub (.t 111) (.c (.x (.int .i64 (1)))), none⟩, ⟨some 113, .iad 1 (.t 110) (.t 112), none⟩, ⟨some 114, .ld 1 false (.t 113), none⟩, ⟨some 115, .call (.c (.fn 43 [])) [(.t 109), (.t 114)], none⟩, ⟨some 116, .un .not (.t 115), none⟩])
                (.cond (.t 116)
                  (.exit 6)
                  .skip))
                (.dreg 14 [] [⟨some 117, .mv (.t 0), none⟩, ⟨some 118, .mv (.t 10), none⟩, ⟨some 119, .mv (.t 0), none⟩, ⟨some 120, .mv (.t 10), none⟩, ⟨some 121, .bin .sub (.t 120) (.c (.x (.int .i64 (1)))), none⟩, ⟨some 122, .mv (.t 0), none⟩, ⟨some 123, .mv (.t 10), none⟩, ⟨some 124, .bin .sub (.t 123) (.c (.x (.int .i64 (1)))), none⟩, ⟨some 125, .iad 1 (.t 122) (.t 124), none⟩, ⟨some 126, .ld 1 false (.t 125), none⟩, ⟨some 127, .mv (.t 0), none⟩, ⟨some 128, .mv (.t 10), none⟩, ⟨some 129, .iad 1 (.t 127) (.t 128), none⟩, ⟨some 130, .ld 1 false (.t 129), none⟩, ⟨some 131, .iad 1 (.t 117) (.t 118), none⟩, ⟨none, .sto 1 (.t 131) (.t 126), none⟩, ⟨some 132, .iad 1 (.t 119) (.t 121), none⟩, ⟨none, .sto 1 (.t 132) (.t 130), none⟩])))
              (.reg [⟨some 104, .mv (.t 10), none⟩, ⟨some 105, .bin .add (.t 104) (.c (.x (.int .i64 (1)))), none⟩, ⟨some 10, .mv (.t 105), none⟩]))))))
          .skip))))))))
      (.reg [⟨some 15, .mv (.t 8), none⟩, ⟨some 16, .bin .add (.t 15) (.c (.x (.int .i64 (1)))), none⟩, ⟨some 8, .mv (.t 16), none⟩]))))))
  (.seq (.reg [⟨some 6, .mv (.c (.x (.bool false))), none⟩])
  .ret))))⟩
theorem c42 : compFn Try.prog Try.f42 = some i42 := by kernel_rfl
/-- cmp.Less[string] -/
def i43 : IFn := ⟨17, [.tmp 4], (.seq (.reg [⟨some 4, .mv (.c (.x (.bool false))), none⟩])
  (.seq (.reg [⟨some 5, .mv (.t 0), none⟩, ⟨some 6, .call (.c (.fn 55 [])) [(.t 5)], none⟩, ⟨some 7, .mv (.t 6), none⟩, ⟨some 8, .mv (.t 1), (some (7, true))⟩, ⟨some 9, .call (.c (.fn 55 [])) [(.t 8)], (some (7, true))⟩, ⟨some 10, .un .not (.t 9), (some (7, true))⟩, ⟨some 11, .pick (.t 7) (.t 10) (.c (.x (.bool false))), none⟩, ⟨some 12, .mv (.t 11), none⟩, ⟨some 13, .mv (.t 0), (some (12, false))⟩, ⟨some 14, .mv (.t 1), (some (12, false))⟩, ⟨some 15, .bin .lss (.t 13) (.t 14), (some (12, false))⟩, ⟨some 16, .pick (.t 12) (.c (.x (.bool true))) (.t 15), none⟩, ⟨some 4, .mv (.t 16), none⟩])
  .ret))⟩
theorem c43 : compFn Try.prog Try.f43 = some i43 := by kernel_rfl
/-- slices.partitionEqualOrdered[string] -/
def i44 : IFn := ⟨84, [.tmp 8], (.seq (.reg [⟨some 8, .mv (.c (.x (.int .i64 (0)))), none⟩])
  (.seq (.dreg 12 [] [⟨some 11, .mv (.t 0), none⟩, ⟨some 12, .mv (.t 1), none⟩, ⟨some 13, .mv (.t 0), none⟩, ⟨some 14, .mv (.t 3), none⟩, ⟨some 15, .mv (.t 0), none⟩, ⟨some 16, .mv (.t 3), none⟩, ⟨some 17, .iad 1 (.t 15) (.t 16), none⟩, ⟨some 18, .ld 1 false (.t 17), none⟩, ⟨some 19, .mv (.t 0), none⟩, ⟨some 20, .mv (.t 1), none⟩, ⟨some 21, .iad 1 (.t 19) (.t 20), none⟩, ⟨some 22, .ld 1 false (.t 21), none⟩, ⟨some 23, .iad 1 (.t 11) (.t 12), none⟩, ⟨none, .sto 1 (.t 23) (.t 18), none⟩, ⟨some 24, .iad 1 (.t 13) (.t 14), none⟩, ⟨none, .sto 1 (.t 24) (.t 22), none⟩])
  (.seq (.reg [⟨some 25, .mv (.t 1), none⟩, ⟨some 26, .bin .add (.t 25) (.c (.x (.int .i64 (1)))), none⟩, ⟨some 27, .mv (.t 2), none⟩, ⟨some 28, .bin .sub (.t 27) (.c (.x (.int .i64 (1)))), none⟩, ⟨some 9, .mv (.t 26), none⟩, ⟨some 10, .mv (.t 28), none⟩])
  (.seq (.block 0
    (.loop
      (.block 1
        (.seq (.block 2
          (.loop
            (.seq (.seq (.dreg 12 [] [⟨some 29, .mv (.t 9), none⟩, ⟨some 30, .mv (.t 10), none⟩, ⟨some 31, .bin .leq (.t 29) (.t 30), none⟩, ⟨some 32, .mv (.t 31), none⟩, ⟨some 33, .mv (.t 0), (some (32, true))⟩, ⟨some 34, .mv (.t 1), (some (32, true))⟩, ⟨some 35, .iad 1 (.t 33) (.t 34), (some (32, true))⟩, ⟨some 36, .ld 1 false (.t 35), (some (32, true))⟩, ⟨some 37, .mv (.t 0), (some (32, true))⟩, ⟨some 38, .mv (.t 9), (some (32, true))⟩, ⟨some 39, .iad 1 (.t 37) (.t 38), (some (32, true))⟩, ⟨some 40, .ld 1 false (.t 39), (some (32, true))⟩, ⟨some 41, .call (.c (.fn 43 [])) [(.t 36), (.t 40)], (some (32, true))⟩, ⟨some 42, .un .not (.t 41), (some (32, true))⟩, ⟨some 43, .pick (.t 32) (.t 42) (.c (.x (.bool false))), none⟩])
            (.cond (.t 43)
              .skip
              (.exit 2)))
            (.block 3
              (.reg [⟨some 44, .mv (.t 9), none⟩, ⟨some 45, .bin .add (.t 44) (.c (.x (.int .i64 (1)))), none⟩, ⟨some 9, .mv (.t 45), none⟩])))))
        (.seq (.block 4
          (.loop
            (.seq (.seq (.dreg 12 [] [⟨some 46, .mv (.t 9), none⟩, ⟨some 47, .mv (.t 10), none⟩, ⟨some 48, .bin .leq (.t 46) (.t 47), none⟩, ⟨some 49, .mv (.t 48), none⟩, ⟨some 50, .mv (.t 0), (some (49, true))⟩, ⟨some 51, .mv (.t 1), (some (49, true))⟩, ⟨some 52, .iad 1 (.t 50) (.t 51), (some (49, true))⟩, ⟨some 53, .ld 1 false (.t 52), (some (49, true))⟩, ⟨some 54, .mv (.t 0), (some (49, true))⟩, ⟨some 55, .mv (.t 10), (some (49, true))⟩, ⟨some 56, .iad 1 (.t 54) (.t 55), (some (49, true))⟩, ⟨some 57, .ld 1 false (.t 56), (some (49, true))⟩, ⟨some 58, .call (.c (.fn 43 [])) [(.t 53), (.t 57)], (some (49, true))⟩, ⟨some 59, .pick (.t 49) (.t 58) (.c (.x (.bool false))), none⟩])
            (.cond (.t 59)
              .skip
              (.exit 4)))
            (.block 5
              (.reg [⟨some 60, .mv (.t 10), none⟩, ⟨some 61, .bin .sub (.t 60) (.c (.x (.int .i64 (1)))), none⟩, ⟨some 10, .mv (.t 61), none⟩])))))
        (.seq (.seq (.reg [⟨some 62, .mv (.t 9), none⟩, ⟨some 63, .mv (.t 10), none⟩, ⟨some 64, .bin .gtr (.t 62) (.t 63), none⟩])
        (.cond (.t 64)
          (.exit 0)
          .skip))
        (.seq (.dreg 12 [] [⟨some 65, .mv (.t 0), none⟩, ⟨some 66, .mv (.t 9), none⟩, ⟨some 67, .mv (.t 0), none⟩, ⟨some 68, .mv (.t 10), none⟩, ⟨some 69, .mv (.t 0), none⟩, ⟨some 70, .mv (.t 10), none⟩, ⟨some 71, .iad 1 (.t 69) (.t 70), none⟩, ⟨some 72, .ld 1 false (.t 71), none⟩, ⟨some 73, .mv (.t 0), none⟩, ⟨some 74, .mv (.t 9), none⟩, ⟨some 75, .iad 1 (.t 73) (.t 74), none⟩, ⟨some 76, .ld 1 false (.t 75), none⟩, ⟨some 77, .iad 1 (.t 65) (.t 66), none⟩, ⟨none, .sto 1 (.t 77) (.t 72), none⟩, ⟨some 78, .iad 1 (.t 67) (.t 68), none⟩, ⟨none, .sto 1 (.t 78) (.t 76), none⟩])
        (.seq (.reg [⟨some 79, .mv (.t 9), none⟩, ⟨some 80, .bin .add (.t 79) (.c (.x (.int .i64 (1)))), none⟩, ⟨some 9, .mv (.t 80), none⟩])
        (.reg [⟨some 81, .mv (.t 10), none⟩, ⟨some 82, .bin .sub (.t 81) (.c (.x (.int .i64 (1)))), none⟩, ⟨some 10, .mv (.t 82), none⟩])))))))))
  (.seq (.reg [⟨some 83, .mv (.t 9), none⟩, ⟨some 8, .mv (.t 83), none⟩])
  .ret)))))⟩
theorem c44 : compFn Try.prog Try.f44 = some i44 := by kernel_rfl
/-- slices.partitionOrdered[string] -/
def i45 : IFn := ⟨168, [.tmp 8, .tmp 9], (.seq (.reg [⟨some 8, .mv (.c (.x (.int .i64 (0)))), none⟩, ⟨some 9, .mv (.c (.x (.bool false))), none⟩])
  (.seq (.dreg 12 [] [⟨some 12, .mv (.t 0), none⟩, ⟨some 13, .mv (.t 1), none⟩, ⟨some 14, .mv (.t 0), none⟩, ⟨some 15, .mv (.t 3), none⟩, ⟨some 16, .mv (.t 0), none⟩, ⟨some 17, .mv (.t 3), none⟩, ⟨some 18, .iad 1 (.t 16) (.t 17), none⟩, ⟨some 19, .ld 1 false (.t 18), none⟩, ⟨some 20, .mv (.t 0), none⟩, ⟨some 21, .mv (.t 1), none⟩, ⟨some 22, .iad 1 (.t 20) (.t 21), none⟩, ⟨some 23, .ld 1 false (.t 22), none⟩, ⟨some 24, .iad 1 (.t 12) (.t 13), none⟩, ⟨none, .sto 1 (.t 24) (.t 19), none⟩, ⟨some 25, .iad 1 (.t 14) (.t 15), none⟩, ⟨none, .sto 1 (.t 25) (.t 23), none⟩])
  (.seq (.reg [⟨some 26, .mv (.t 1), none⟩, ⟨some 27, .bin .add (.t 26) (.c (.x (.int .i64 (1)))), none⟩, ⟨some 28, .mv (.t 2), none⟩, ⟨some 29, .bin .sub (.t 28) (.c (.x (.int .i64 (1)))), none⟩, ⟨some 10, .mv (.t 27), none⟩, ⟨some 11, .mv (.t 29), none⟩])
  (.seq (.block 0
    (.loop
      (.seq (.seq (.dreg 12 [] [⟨some 30, .mv (.t 10), none⟩, ⟨some 31, .mv (.t 11), none⟩, ⟨some 32, .bin .leq (.t 30) (.t 31), none⟩, ⟨some 33, .mv (.t 32), none⟩, ⟨some 34, .mv (.t 0), (some (33, true))⟩, ⟨some 35, .mv (.t 10), (some (33, true))⟩, ⟨some 36, .iad 1 (.t 34) (.t 35), (some (33, true))⟩, ⟨some 37, .ld 1 false (.t 36), (some (33, true))⟩, ⟨some 38, .mv (.t 0), (some (33, true))⟩, ⟨some 39, .mv (.t 1), (some (33, true))⟩, ⟨some 40, .iad 1 (.t 38) (.t 39), (some (33, true))⟩, ⟨some 41, .ld 1 false (.t 40), (some (33, true))⟩, ⟨some 42, .call (.c (.fn 43 [])) [(.t 37), (.t 41)], (some (33, true))⟩, ⟨some 43, .pick (.t 33) (.t 42) (.c (.x (.bool false))), none⟩])
      (.cond (.t 43)
        .skip
        (.exit 0)))
      (.block 1
        (.reg [⟨some 44, .mv (.t 10), none⟩, ⟨some 45, .bin .add (.t 44) (.c (.x (.int .i64 (1)))), none⟩, ⟨some 10, .mv (.t 45), none⟩])))))
  (.seq (.block 2
    (.loop
      (.seq (.seq (.dreg 12 [] [⟨some 46, .mv (.t 10), none⟩, ⟨some 47, .mv (.t 11), none⟩, ⟨some 48, .bin .leq (.t 46) (.t 47), none⟩, ⟨some 49, .mv (.t 48), none⟩, ⟨some 50, .mv (.t 0), (some (49, true))⟩, ⟨some 51, .mv (.t 11), (some (49, true))⟩, ⟨some 52, .iad 1 (.t 50) (.t 51), (some (49, true))⟩, ⟨some 53, .ld 1 false (.t 52), (some (49, true))⟩, ⟨some 54, .mv (.t 0), (some (49, true))⟩, ⟨some 55, .mv (.t 1), (some (49, true))⟩, ⟨some 56, .iad 1 (.t 54) (.t 55), (some (49, true))⟩, ⟨some 57, .ld 1 false (.t 56), (some (49, true))⟩, ⟨some 58, .call (.c (.fn 43 [])) [(.t 53), (.t 57)], (some (49, true))⟩, ⟨some 59, .un .not (.t 58), (some (49, true))⟩, ⟨some 60, .pick (.t 49) (.t 59) (.c (.x (.bool false))), none⟩])
      (.cond (.t 60)
        .skip
        (.exit 2)))
      (.block 3
        (.reg [⟨some 61, .mv (.t 11), none⟩, ⟨some 62, .bin .sub (.t 61) (.c (.x (.int .i64 (1)))), none⟩, ⟨some 11, .mv (.t 62), none⟩])))))
  (.seq (.seq (.reg [⟨some 63, .mv (.t 10), none⟩, ⟨some 64, .mv (.t 11), none⟩, ⟨some 65, .bin .gtr (.t 63) (.t 64), none⟩])
  (.cond (.t 65)
    (.seq (.dreg 12 [] [⟨some 66, .mv (.t 0), none⟩, ⟨some 67, .mv (.t 11), none⟩, ⟨some 68, .mv (.t 0), none⟩, ⟨some 69, .mv (.t 1), none⟩, ⟨some 70, .mv (.t 0), none⟩, ⟨some 71, .mv (.t 1), none⟩, ⟨some 72, .iad 1 (.t 70) (.t 71), none⟩, ⟨some 73, .ld 1 false (.t 72), none⟩, ⟨some 74, .mv (.t 0), none⟩, ⟨some 75, .mv (.t 11), none⟩, ⟨some 76, .iad 1 (.t 74) (.t 75), none⟩, ⟨some 77, .ld 1 false (.t 76), none⟩, ⟨some 78, .iad 1 (.t 66) (.t 67), none⟩, ⟨none, .sto 1 (.t 78) (.t 73), none⟩, ⟨some 79, .iad 1 (.t 68) (.t 69), none⟩, ⟨none, .sto 1 (.t 79) (.t 77), none⟩])
    (.seq (.reg [⟨some 80, .mv (.t 11), none⟩, ⟨some 8, .mv (.t 80), none⟩, ⟨some 9, .mv (.c (.x (.bool true))), none⟩])
    .ret))
    .skip))
  (.seq (.dreg 12 [] [⟨some 81, .mv (.t 0), none⟩, ⟨some 82, .mv (.t 10), none⟩, ⟨some 83, .mv (.t 0), none⟩, ⟨some 84, .mv (.t 11), none⟩, ⟨some 85, .mv (.t 0), none⟩, ⟨some 86, .mv (.t 11), none⟩, ⟨some 87, .iad 1 (.t 85) (.t 86), none⟩, ⟨some 88, .ld 1 false (.t 87), none⟩, ⟨some 89, .mv (.t 0), none⟩, ⟨some 90, .mv (.t 10), none⟩, ⟨some 91, .iad 1 (.t 89) (.t 90), none⟩, ⟨some 92, .ld 1 false (.t 91), none⟩, ⟨some 93, .iad 1 (.t 81) (.t 82), none⟩, ⟨none, .sto 1 (.t 93) (.t 88), none⟩, ⟨some 94, .iad 1 (.t 83) (.t 84), none⟩, ⟨none, .sto 1 (.t 94) (.t 92), none⟩])
  (.seq (.reg [⟨some 95, .mv (.t 10), none⟩, ⟨some 96, .bin .add (.t 95) (.c (.x (.int .i64 (1)))), none⟩, ⟨some 10, .mv (.t 96), none⟩])
  (.seq (.reg [⟨some 97, .mv (.t 11), none⟩, ⟨some 98, .bin .sub (.t 97) (.c (.x (.int .i64 (1)))), none⟩, ⟨some 11, .mv (.t 98), none⟩])
  (.seq (.block 4
    (.loop
      (.block 5
        (.seq (.block 6
          (.loop
            (.seq (.seq (.dreg 12 [] [⟨some 99, .mv (.t 10), none⟩, ⟨some 100, .mv (.t 11), none⟩, ⟨some 101, .bin .leq (.t 99) (.t 100), none⟩, ⟨some 102, .mv (.t 101), none⟩, ⟨some 103, .mv (.t 0), (some (102, true))⟩, ⟨some 104, .mv (.t 10), (some (102, true))⟩, ⟨some 105, .iad 1 (.t 103) (.t 104), (some (102, true))⟩, ⟨some 106, .ld 1 false (.t 105), (some (102, true))⟩, ⟨some 107, .mv (.t 0), (some (102, true))⟩, ⟨some 108, .mv (.t 1), (some (102, true))⟩, ⟨some 109, .iad 1 (.t 107) (.t 108), (some (102, true))⟩, ⟨some 110, .ld 1 false (.t 109), (some (102, true))⟩, ⟨some 111, .call (.c (.fn 43 [])) [(.t 106), (.t 110)], (some (102, true))⟩, ⟨some 112, .pick (.t 102) (.t 111) (.c (.x (.bool false))), none⟩])
            (.cond (.t 112)
              .skip
              (.exit 6)))
            (.block 7
              (.reg [⟨some 113, .mv (.t 10), none⟩, ⟨some 114, .bin .add (.t 113) (.c (.x (.int .i64 (1)))), none⟩, ⟨some 10, .mv (.t 114), none⟩])))))
        (.seq (.block 8
          (.loop
            (.seq (.seq (.dreg 12 [] [⟨some 115, .mv (.t 10), none⟩, ⟨some 116, .mv (.t 11), none⟩, ⟨some 117, .bin .leq (.t 115) (.t 116), none⟩, ⟨some 118, .mv (.t 117), none⟩, ⟨some 119, .mv (.t 0), (some (118, true))⟩, ⟨some 120, .mv (.t 11), (some (118, true))⟩, ⟨some 121, .iad 1 (.t 119) (.t 120), (some (118, true))⟩, ⟨some 122, .ld 1 false (.t 121), (some (118, true))⟩, ⟨some 123, .mv (.t 0), (some (118, true))⟩, ⟨some 124, .mv (.t 1), (some (118, true))⟩, ⟨some 125, .iad 1 (.t 123) (.t 124), (some (118, true))⟩, ⟨some 126, .ld 1 false (.t 125), (some (118, true))⟩, ⟨some 127, .call (.c (.fn 43 [])) [(.t 122), (.t 126)], (some (118, true))⟩, ⟨some 128, .un .not (.t 127), (some (118, true))⟩, ⟨some 129, .pick (.t 118) (.t 128) (.c (.x (.bool false))), none⟩])
            (.cond (.t 129)
              .skip
              (.exit 8)))
            (.block 9
              (.reg [⟨some 130, .mv (.t 11), none⟩, ⟨some 131, .bin .sub (.t 130) (.c (.x (.int .i64 (1)))), none⟩, ⟨some 11, .mv (.t 131), none⟩])))))
        (.seq (.seq (.reg [⟨some 132, .mv (.t 10), none⟩, ⟨some 133, .mv (.t 11), none⟩, ⟨some 134, .bin .gtr (.t 132) (.t 133), none⟩])
        (.cond (.t 134)
          (.exit 4)
          .skip))
        (.seq (.dreg 12 [] [⟨some 135, .mv (.t 0), none⟩, ⟨some 136, .mv (.t 10), none⟩, ⟨some 137, .mv (.t 0), none⟩, ⟨some 138, .mv (.t 11), none⟩, ⟨some 139, .mv (.t 0), none⟩, ⟨some 140, .mv (.t 11), none⟩, ⟨some 141, .iad 1 (.t 139) (.t 140), none⟩, ⟨some 142, .ld 1 false (.t 141), none⟩, ⟨some 143, .mv (.t 0), none⟩, ⟨some 144, .mv (.t 10), none⟩, ⟨some 145, .iad 1 (.t 143) (.t 144), none⟩, ⟨some 146, .ld 1 false (.t 145), none⟩, ⟨some 147, .iad 1 (.t 135) (.t 136), none⟩, ⟨none, .sto 1 (.t 147) (.t 142), none⟩, ⟨some 148, .iad 1 (.t 137) (.t 138), none⟩, ⟨none, .sto 1 (.t 148) (.t 146), none⟩])
        (.seq (.reg [⟨some 149, .mv (.t 10), none⟩, ⟨some 150, .bin .add (.t 149) (.c (.x (.int .i64 (1)))), none⟩, ⟨some 10, .mv (.t 150), none⟩])
        (.reg [⟨some 151, .mv (.t 11), none⟩, ⟨some 152, .bin .sub (.t 151) (.c (.x (.int .i64 (1)))), none⟩, ⟨some 11, .mv (.t 152), none⟩])))))))))
  (.seq (.dreg 12 [] [⟨some 153, .mv (.t 0), none⟩, ⟨some 154, .mv (.t 11), none⟩, ⟨some 155, .mv (.t 0), none⟩, ⟨some 156, .mv (.t 1), none⟩, ⟨some 157, .mv (.t 0), none⟩, ⟨some 158, .mv (.t 1), none⟩, ⟨some 159, .iad 1 (.t 157) (.t 158), none⟩, ⟨some 160, .ld 1 false (.t 159), none⟩, ⟨some 161, .mv (.t 0), none⟩, ⟨some 162, .mv (.t 11), none⟩, ⟨some 163, .iad 1 (.t 161) (.t 162), none⟩, ⟨some 164, .ld 1 false (.t 163), none⟩, ⟨some 165, .iad 1 (.t 153) (.t 154), none⟩, ⟨none, .sto 1 (.t 165) (.t 160), none⟩, ⟨some 166, .iad 1 (.t 155) (.t 156), none⟩, ⟨none, .sto 1 (.t 166) (.t 164), none⟩])
  (.seq (.reg [⟨some 167, .mv (.t 11), none⟩, ⟨some 8, .mv (.t 167), none⟩, ⟨some 9, .mv (.c (.x (.bool false))), none⟩])
  .ret))))))))))))⟩
theorem c45 : compFn Try.prog Try.f45 = some i45 := by kernel_rfl
/-- math/bits.Len32 -/
def i46 : IFn := ⟨19, [.tmp 2], (.seq (.reg [⟨some 2, .mv (.c (.x (.int .i64 (0)))), none⟩])
  (.seq (.seq (.reg [⟨some 3, .mv (.t 0), none⟩, ⟨some 4, .bin .geq (.t 3) (.c (.x (.int .u32 (65536)))), none⟩])
  (.cond (.t 4)
    (.seq (.reg [⟨some 5, .mv (.t 0), none⟩, ⟨some 6, .bin .shr (.t 5) (.c (.x (.int .u64 (16)))), none⟩, ⟨some 0, .mv (.t 6), none⟩])
    (.reg [⟨some 2, .mv (.c (.x (.int .i64 (16)))), none⟩]))
    .skip))
  (.seq (.seq (.reg [⟨some 7, .mv (.t 0), none⟩, ⟨some 8, .bin .geq (.t 7) (.c (.x (.int .u32 (256)))), none⟩])
  (.cond (.t 8)
    (.seq (.reg [⟨some 9, .mv (.t 0), none⟩, ⟨some 10, .bin .shr (.t 9) (.c (.x (.int .u64 (8)))), none⟩, ⟨some 0, .mv (.t 10), none⟩])
    (.reg [⟨some 11, .mv (.t 2), none⟩, ⟨some 12, .bin .add (.t 11) (.c (.x (.int .i64 (8)))), none⟩, ⟨some 2, .mv (.t 12), none⟩]))
    .skip))
  (.seq (.reg [⟨some 13, .mv (.t 2), none⟩, ⟨some 14, .mv (.t 0), none⟩, ⟨some 15, .cvi .u8 (.t 14), none⟩, ⟨some 16, .idx (.c (.x (.str [0, 1, 2, 2, 3, 3, 3, 3, 4, 4, 4, 4, 4, 4, 4, 4, 5, 5, 5, 5, 5, 5, 5, 5, 5, 5, 5, 5, 5, 5, 5, 5, 6, 6, 6, 6, 6, 6, 6, 6, 6, 6, 6, 6, 6, 6, 6, 6, 6, 6, 6, 6, 6, 6, 6, 6, 6, 6, 6, 6, 6, 6, 6, 6, 7, 7, 7, 7, 7, 7, 7, 7, 7, 7, 7, 7, 7, 7, 7, 7, 7, 7, 7, 7, 7, 7, 7, 7, 7, 7, 7, 7, 7, 7, 7, 7, 7, 7, 7, 7, 7, 7, 7, 7, 7, 7, 7, 7, 7, 7, 7, 7, 7, 7, 7, 7, 7, 7, 7, 7, 7, 7, 7, 7, 7, 7, 7, 7, 8, 8, 8, 8, 8, 8, 8, 8, 8, 8, 8, 8, 8, 8, 8, 8, 8, 8, 8, 8, 8, 8, 8, 8, 8, 8, 8, 8, 8, 8, 8, 8, 8, 8, 8, 8, 8, 8, 8, 8, 8, 8, 8, 8, 8, 8, 8, 8, 8, 8, 8, 8, 8, 8, 8, 8, 8, 8, 8, 8, 8, 8, 8, 8, 8, 8, 8, 8, 8, 8, 8, 8, 8, 8, 8, 8, 8, 8, 8, 8, 8, 8, 8, 8, 8, 8, 8, 8, 8, 8, 8, 8, 8, 8, 8, 8, 8, 8, 8, 8, 8, 8, 8, 8, 8, 8, 8, 8, 8, 8, 8, 8, 8, 8, 8, 8, 8, 8, 8, 8, 8, 8, 8, 8, 8, 8, 8, 8]))) (.t 15), none⟩, ⟨some 17, .cvi .i64 (.t 16), none⟩, ⟨some 18, .bin .add (.t 13) (.t 17), none⟩, ⟨some 2, .mv (.t 18), none⟩])
  .ret))))⟩
theorem c46 : compFn Try.prog Try.f46 = some i46 := by kernel_rfl
/-- math/bits.Len64 -/
def i47 : IFn := ⟨25, [.tmp 2], (.seq (.reg [⟨some 2, .mv (.c (.x (.int .i64 (0)))), none⟩])
  (.seq (.seq (.reg [⟨some 3, .mv (.t 0), none⟩, ⟨some 4, .bin .geq (.t 3) (.c (.x (.int .u64 (4294967296)))), none⟩])
  (.cond (.t 4)
    (.seq (.reg [⟨some 5, .mv (.t 0), none⟩, ⟨some 6, .bin .shr (.t 5) (.c (.x (.int .u64 (32)))), none⟩, ⟨some 0, .mv (.t 6), none⟩])
    (.reg [⟨some 2, .mv (.c (.x (.int .i64 (32)))), none⟩]))
    .skip))
  (.seq (.seq (.reg [⟨some 7, .mv (.t 0), none⟩, ⟨some 8, .bin .geq (.t 7) (.c (.x (.int .u64 (65536)))), none⟩])
  (.cond (.t 8)
    (.seq (.reg [⟨some 9, .mv (.t 0), none⟩, ⟨some 10, .bin .shr (.t 9) (.c (.x (.int .u64 (16)))), none⟩, ⟨some 0, .mv (.t 10), none⟩])
    (.reg [⟨some 11, .mv (.t 2), none⟩, ⟨some 12, .bin .add (.t 11) (.c (.x (.int .i64 (16)))), none⟩, ⟨some 2, .mv (.t 12), none⟩]))
    .skip))
  (.seq (.seq (.reg [⟨some 13, .mv (.t 0), none⟩, ⟨some 14, .bin .geq (.t 13) (.c (.x (.int .u64 (256)))), none⟩])
  (.cond (.t 14)
    (.seq (.reg [⟨some 15, .mv (.t 0), none⟩, ⟨some 16, .bin .shr (.t 15) (.c (.x (.int .u64 (8)))), none⟩, ⟨some 0, .mv (.t 16), none⟩])
    (.reg [⟨some 17, .mv (.t 2), none⟩, ⟨some 18, .bin .add (.t 17) (.c (.x (.int .i64 (8)))), none⟩, ⟨some 2, .mv (.t 18), none⟩]))
    .skip))
  (.seq (.reg [⟨some 19, .mv (.t 2), none⟩, ⟨some 20, .mv (.t 0), none⟩, ⟨some 21, .cvi .u8 (.t 20), none⟩, ⟨some 22, .idx (.c (.x (.str [0, 1, 2, 2, 3, 3, 3, 3, 4, 4, 4, 4, 4, 4, 4, 4, 5, 5, 5, 5, 5, 5, 5, 5, 5, 5, 5, 5, 5, 5, 5, 5, 6, 6, 6, 6, 6, 6, 6, 6, 6, 6, 6, 6, 6, 6, 6, 6, 6, 6, 6, 6, 6, 6, 6, 6, 6, 6, 6, 6, 6, 6, 6, 6, 7, 7, 7, 7, 7, 7, 7, 7, 7, 7, 7, 7, 7, 7, 7, 7, 7, 7, 7, 7, 7, 7, 7, 7, 7, 7, 7, 7, 7, 7, 7, 7, 7, 7, 7, 7, 7, 7, 7, 7, 7, 7, 7, 7, 7, 7, 7, 7, 7, 7, 7, 7, 7, 7, 7, 7, 7, 7, 7, 7, 7, 7, 7, 7, 8, 8, 8, 8, 8, 8, 8, 8, 8, 8, 8, 8, 8, 8, 8, 8, 8, 8, 8, 8, 8, 8, 8, 8, 8, 8, 8, 8, 8, 8, 8, 8, 8, 8, 8, 8, 8, 8, 8, 8, 8, 8, 8, 8, 8, 8, 8, 8, 8, 8, 8, 8, 8, 8, 8, 8, 8, 8, 8, 8, 8, 8, 8, 8, 8, 8, 8, 8, 8, 8, 8, 8, 8, 8, 8, 8, 8, 8, 8, 8, 8, 8, 8, 8, 8, 8, 8, 8, 8, 8, 8, 8, 8, 8, 8, 8, 8, 8, 8, 8, 8, 8, 8, 8, 8, 8, 8, 8, 8, 8, 8, 8, 8, 8, 8, 8, 8, 8, 8, 8, 8, 8, 8, 8, 8, 8, 8, 8]))) (.t 21), none⟩, ⟨some 23, .cvi .i64 (.t 22), none⟩, ⟨some 24, .bin .add (.t 19) (.t 23), none⟩, ⟨some 2, .mv (.t 24), none⟩])
  .ret)))))⟩
theorem c47 : compFn Try.prog Try.f47 = some i47 := by kernel_rfl
/-- bothy/filter.none -/
def i48 : IFn := ⟨17, [.tmp 2], (.seq (.reg [⟨some 1, .box (.t 0), none⟩, ⟨some 2, .mv (.c (.x (.bool false))), none⟩])
  (.seq (.reg [⟨some 3, .fad 0 (.t 1), none⟩, ⟨some 4, .ld 1 false (.t 3), none⟩, ⟨some 5, .bin .eql (.t 4) (.c (.x (.str []))), none⟩, ⟨some 6, .mv (.t 5), none⟩, ⟨some 7, .fad 2 (.t 1), (some (6, true))⟩, ⟨some 8, .ld 1 false (.t 7), (some (6, true))⟩, ⟨some 9, .bin .eql (.t 8) (.c (.x (.str []))), (some (6, true))⟩, ⟨some 10, .pick (.t 6) (.t 9) (.c (.x (.bool false))), none⟩, ⟨some 11, .mv (.t 10), none⟩, ⟨some 12, .fad 1 (.t 1), (some (11, true))⟩, ⟨some 13, .ld 1 false (.t 12), (some (11, true))⟩, ⟨some 14, .len false (.t 13), (some (11, true))⟩, ⟨some 15, .bin .eql (.t 14) (.c (.x (.int .i64 (0)))), (some (11, true))⟩, ⟨some 16, .pick (.t 11) (.t 15) (.c (.x (.bool false))), none⟩, ⟨some 2, .mv (.t 16), none⟩])
  .ret))⟩
theorem c48 : compFn Try.prog Try.f48 = some i48 := by kernel_rfl
/-- bothy/filter.parts -/
def i49 : IFn := ⟨29, [.tmp 2], (.seq (.reg [⟨some 1, .box (.t 0), none⟩, ⟨some 2, .mv (.c (.x (.bool false))), none⟩])
  (.seq (.reg [⟨some 3, .fad 1 (.t 1), none⟩, ⟨some 4, .ld 1 false (.t 3), none⟩, ⟨some 5, .len false (.t 4), none⟩, ⟨some 6, .bin .leq (.t 5) (.c (.x (.int .i64 (16)))), none⟩, ⟨some 7, .mv (.t 6), none⟩, ⟨some 8, .fad 1 (.t 1), (some (7, true))⟩, ⟨some 9, .ld 1 false (.t 8), (some (7, true))⟩, ⟨some 10, .call (.c (.fn 56 [])) [(.t 9), (.c (.x (.str [])))], (some (7, true))⟩, ⟨some 11, .un .not (.t 10), (some (7, true))⟩, ⟨some 12, .pick (.t 7) (.t 11) (.c (.x (.bool false))), none⟩, ⟨some 13, .mv (.t 12), none⟩, ⟨some 14, .fad 0 (.t 1), (some (13, true))⟩, ⟨some 15, .ld 1 false (.t 14), (some (13, true))⟩, ⟨some 16, .bin .neq (.t 15) (.c (.x (.str []))), (some (13, true))⟩, ⟨some 17, .mv (.t 16), (some (13, true))⟩, ⟨some 18, .fad 2 (.t 1), (some (17, false))⟩, ⟨some 19, .ld 1 false (.t 18), (some (17, false))⟩, ⟨some 20, .bin .neq (.t 19) (.c (.x (.str []))), (some (17, false))⟩, ⟨some 21, .pick (.t 17) (.c (.x (.bool true))) (.t 20), (some (13, true))⟩, ⟨some 22, .mv (.t 21), (some (13, true))⟩, ⟨some 23, .fad 1 (.t 1), (some (22, false))⟩, ⟨some 24, .ld 1 false (.t 23), (some (22, false))⟩, ⟨some 25, .len false (.t 24), (some (22, false))⟩, ⟨some 26, .bin .gtr (.t 25) (.c (.x (.int .i64 (0)))), (some (22, false))⟩, ⟨some 27, .pick (.t 22) (.c (.x (.bool true))) (.t 26), (some (13, true))⟩, ⟨some 28, .pick (.t 13) (.t 27) (.c (.x (.bool false))), none⟩, ⟨some 2, .mv (.t 28), none⟩])
  .ret))⟩
theorem c49 : compFn Try.prog Try.f49 = some i49 := by kernel_rfl
/-- slices.siftDownOrdered[string] -/
def i50 : IFn := ⟨76, [], (.seq (.reg [⟨some 10, .mv (.t 1), none⟩, ⟨some 8, .mv (.t 10), none⟩])
  (.block 0
    (.loop
      (.block 1
        (.seq (.reg [⟨some 11, .mv (.t 8), none⟩, ⟨some 12, .bin .mul (.c (.x (.int .i64 (2)))) (.t 11), none⟩, ⟨some 13, .bin .add (.t 12) (.c (.x (.int .i64 (1)))), none⟩, ⟨some 9, .mv (.t 13), none⟩])
        (.seq (.seq (.reg [⟨some 14, .mv (.t 9), none⟩, ⟨some 15, .mv (.t 2), none⟩, ⟨some 16, .bin .geq (.t 14) (.t 15), none⟩])
        (.cond (.t 16)
          (.exit 0)
          .skip))
        (.seq (.seq (.dreg 18 [] [⟨some 17, .mv (.t 9), none⟩, ⟨some 18, .bin .add (.t 17) (.c (.x (.int .i64 (1)))), none⟩, ⟨some 19, .mv (.t 2), none⟩, ⟨some 20, .bin .lss (.t 18) (.t 19), none⟩, ⟨some 21, .mv (.t 20), none⟩, ⟨some 22, .mv (.t 0), (some (21, true))⟩, ⟨some 23, .mv (.t 3), (some (21, true))⟩, ⟨some 24, .mv (.t 9), (some (21, true))⟩, ⟨some 25, .bin .add (.t 23) (.t 24), (some (21, true))⟩, ⟨some 26, .iad 1 (.t 22) (.t 25), (some (21, true))⟩, ⟨some 27, .ld 1 false (.t 26), (some (21, true))⟩, ⟨some 28, .mv (.t 0), (some (21, true))⟩, ⟨some 29, .mv (.t 3), (some (21, true))⟩, ⟨some 30, .mv (.t 9), (some (21, true))⟩, ⟨some 31, .bin .add (.t 29) (.t 30), (some (21, true))⟩, ⟨some 32, .bin .add (.t 31) (.c (.x (.int .i64 (1)))), (some (21, true))⟩, ⟨some 33, .iad 1 (.t 28) (.t 32), (some (21, true))⟩, ⟨some 34, .ld 1 false (.t 33), (some (21, true))⟩, ⟨some 35, .call (.c (.fn 43 [])) [(.t 27), (.t 34)], (some (21, true))⟩, ⟨some 36, .pick (.t 21) (.t 35) (.c (.x (.bool false))), none⟩])
        (.cond (.t 36)
          (.reg [⟨some 37, .mv (.t 9), none⟩, ⟨some 38, .bin .add (.t 37) (.c (.x (.int .i64 (1)))), none⟩, ⟨some 9, .mv (.t 38), none⟩])
          .skip))
        (.seq (.seq (.dreg 12 [] [⟨some 39, .mv (.t 0), none⟩, ⟨some 40, .mv (.t 3), none⟩, ⟨some 41, .mv (.t 8), none⟩, ⟨some 42, .bin .add (.t 40) (.t 41), none⟩, ⟨some 43, .iad 1 (.t 39) (.t 42), none⟩, ⟨some 44, .ld 1 false (.t 43), none⟩, ⟨some 45, .mv (.t 0), none⟩, ⟨some 46, .mv (.t 3), none⟩, ⟨some 47, .mv (.t 9), none⟩, ⟨some 48, .bin .add (.t 46) (.t 47), none⟩, ⟨some 49, .iad 1 (.t 45) (.t 48), none⟩, ⟨some 50, .ld 1 false (.t 49), none⟩, ⟨some 51, .call (.c (.fn 43 [])) [(.t 44), (.t 50)], none⟩, ⟨some 52, .un .not (.t 51), none⟩])
        (.cond (.t 52)
          .ret
          .skip))
        (.seq (.dreg 20 [] [⟨some 53, .mv (.t 0), none⟩, ⟨some 54, .mv (.t 3), none⟩, ⟨some 55, .mv (.t 8), none⟩, ⟨some 56, .bin .add (.t 54) (.t 55), none⟩, ⟨some 57, .mv (.t 0), none⟩, ⟨some 58, .mv (.t 3), none⟩, ⟨some 59, .mv (.t 9), none⟩, ⟨some 60, .bin .add (.t 58) (.t 59), none⟩, ⟨some 61, .mv (.t 0), none⟩, ⟨some 62, .mv (.t 3), none⟩, ⟨some 63, .mv (.t 9), none⟩, ⟨some 64, .bin .add (.t 62) (.t 63), none⟩, ⟨some 65, .iad 1 (.t 61) (.t 64), none⟩, ⟨some 66, .ld 1 false (.t 65), none⟩, ⟨some 67, .mv (.t 0), none⟩, ⟨some 68, .mv (.t 3), none⟩, ⟨some 69, .mv (.t 8), none⟩, ⟨some 70, .bin .add (.t 68) (.t 69), none⟩, ⟨some 71, .iad 1 (.t 67) (.t 70), none⟩, ⟨some 72, .ld 1 false (.t 71), none⟩, ⟨some 73, .iad 1 (.t 53) (.t 56), none⟩, ⟨none, .sto 1 (.t 73) (.t 66), none⟩, ⟨some 74, .iad 1 (.t 57) (.t 60), none⟩, ⟨none, .sto 1 (.t 74) (.t 72), none⟩])
        (.reg [⟨some 75, .mv (.t 9), none⟩, ⟨some 8, .mv (.t 75), none⟩]))))))))))⟩
theorem c50 : compFn Try.prog Try.f50 = some i50 := by kernel_rfl
/-- slices.nextPowerOfTwo -/
def i51 : IFn := ⟨7, [.tmp 2], (.seq (.reg [⟨some 2, .mv (.c (.x (.int .u64 (0)))), none⟩])
  (.seq (.reg [⟨some 3, .mv (.t 0), none⟩, ⟨some 4, .cvi .u64 (.t 3), none⟩, ⟨some 5, .call (.c (.fn 30 [])) [(.t 4)], none⟩, ⟨some 6, .bin .shl (.c (.x (.int .u64 (1)))) (.t 5), none⟩, ⟨some 2, .mv (.t 6), none⟩])
  .ret))⟩
theorem c51 : compFn Try.prog Try.f51 = some i51 := by kernel_rfl
/-- (*slices.xorshift).Next -/
def i52 : IFn := ⟨33, [.tmp 2], (.seq (.reg [⟨some 2, .mv (.c (.x (.int .u64 (0)))), none⟩])
  (.seq (.dreg 6 [] [⟨some 3, .mv (.t 0), none⟩, ⟨some 4, .nck (.t 3), none⟩, ⟨some 5, .ld 1 false (.t 4), none⟩, ⟨some 6, .mv (.t 0), none⟩, ⟨some 7, .nck (.t 6), none⟩, ⟨some 8, .ld 1 false (.t 7), none⟩, ⟨some 9, .bin .shl (.t 8) (.c (.x (.int .u64 (13)))), none⟩, ⟨some 10, .bin .xor (.t 5) (.t 9), none⟩, ⟨some 11, .nck (.t 3), none⟩, ⟨none, .sto 1 (.t 11) (.t 10), none⟩])
  (.seq (.dreg 6 [] [⟨some 12, .mv (.t 0), none⟩, ⟨some 13, .nck (.t 12), none⟩, ⟨some 14, .ld 1 false (.t 13), none⟩, ⟨some 15, .mv (.t 0), none⟩, ⟨some 16, .nck (.t 15), none⟩, ⟨some 17, .ld 1 false (.t 16), none⟩, ⟨some 18, .bin .shr (.t 17) (.c (.x (.int .u64 (7)))), none⟩, ⟨some 19, .bin .xor (.t 14) (.t 18), none⟩, ⟨some 20, .nck (.t 12), none⟩, ⟨none, .sto 1 (.t 20) (.t 19), none⟩])
  (.seq (.dreg 6 [] [⟨some 21, .mv (.t 0), none⟩, ⟨some 22, .nck (.t 21), none⟩, ⟨some 23, .ld 1 false (.t 22), none⟩, ⟨some 24, .mv (.t 0), none⟩, ⟨some 25, .nck (.t 24), none⟩, ⟨some 26, .ld 1 false (.t 25), none⟩, ⟨some 27, .bin .shl (.t 26) (.c (.x (.int .u64 (17)))), none⟩, ⟨some 28, .bin .xor (.t 23) (.t 27), none⟩, ⟨some 29, .nck (.t 21), none⟩, ⟨none, .sto 1 (.t 29) (.t 28), none⟩])
  (.seq (.reg [⟨some 30, .mv (.t 0), none⟩, ⟨some 31, .nck (.t 30), none⟩, ⟨some 32, .ld 1 false (.t 31), none⟩, ⟨some 2, .mv (.t 32), none⟩])
  .ret)))))⟩
theorem c52 : compFn Try.prog Try.f52 = some i52 := by kernel_rfl
/-- slices.medianAdjacentOrdered[string] -/
def i53 : IFn := ⟨15, [.tmp 6], (.seq (.reg [⟨some 6, .mv (.c (.x (.int .i64 (0)))), none⟩])
  (.seq (.reg [⟨some 7, .mv (.t 0), none⟩, ⟨some 8, .mv (.t 1), none⟩, ⟨some 9, .bin .sub (.t 8) (.c (.x (.int .i64 (1)))), none⟩, ⟨some 10, .mv (.t 1), none⟩, ⟨some 11, .mv (.t 1), none⟩, ⟨some 12, .bin .add (.t 11) (.c (.x (.int .i64 (1)))), none⟩, ⟨some 13, .mv (.t 2), none⟩, ⟨some 14, .call (.c (.fn 54 [])) [(.t 7), (.t 9), (.t 10), (.t 12), (.t 13)], none⟩, ⟨some 6, .mv (.t 14), none⟩])
  .ret))⟩
theorem c53 : compFn Try.prog Try.f53 = some i53 := by kernel_rfl
/-- slices.medianOrdered[string] -/
def i54 : IFn := ⟨36, [.tmp 10], (.seq (.reg [⟨some 10, .mv (.c (.x (.int .i64 (0)))), none⟩])
  (.seq (.reg [⟨some 12, .mv (.t 0), none⟩, ⟨some 13, .mv (.t 1), none⟩, ⟨some 14, .mv (.t 2), none⟩, ⟨some 15, .mv (.t 4), none⟩, ⟨some 16, .call (.c (.fn 57 [])) [(.t 12), (.t 13), (.t 14), (.t 15)], none⟩, ⟨some 11, .mv (.t 16), none⟩, ⟨some 17, .ext (.t 11) 0, none⟩, ⟨some 18, .ext (.t 11) 1, none⟩, ⟨some 1, .mv (.t 17), none⟩, ⟨some 2, .mv (.t 18), none⟩])
  (.seq (.reg [⟨some 20, .mv (.t 0), none⟩, ⟨some 21, .mv (.t 2), none⟩, ⟨some 22, .mv (.t 3), none⟩, ⟨some 23, .mv (.t 4), none⟩, ⟨some 24, .call (.c (.fn 57 [])) [(.t 20), (.t 21), (.t 22), (.t 23)], none⟩, ⟨some 19, .mv (.t 24), none⟩, ⟨some 25, .ext (.t 19) 0, none⟩, ⟨some 26, .ext (.t 19) 1, none⟩, ⟨some 2, .mv (.t 25), none⟩, ⟨some 3, .mv (.t 26), none⟩])
  (.seq (.reg [⟨some 28, .mv (.t 0), none⟩, ⟨some 29, .mv (.t 1), none⟩, ⟨some 30, .mv (.t 2), none⟩, ⟨some 31, .mv (.t 4), none⟩, ⟨some 32, .call (.c (.fn 57 [])) [(.t 28), (.t 29), (.t 30), (.t 31)], none⟩, ⟨some 27, .mv (.t 32), none⟩, ⟨some 33, .ext (.t 27) 0, none⟩, ⟨some 34, .ext (.t 27) 1, none⟩, ⟨some 1, .mv (.t 33), none⟩, ⟨some 2, .mv (.t 34), none⟩])
  (.seq (.reg [⟨some 35, .mv (.t 2), none⟩, ⟨some 10, .mv (.t 35), none⟩])
  .ret)))))⟩
theorem c54 : compFn Try.prog Try.f54 = some i54 := by kernel_rfl
/-- cmp.isNaN[string] -/
def i55 : IFn := ⟨6, [.tmp 2], (.seq (.reg [⟨some 2, .mv (.c (.x (.bool false))), none⟩])
  (.seq (.reg [⟨some 3, .mv (.t 0), none⟩, ⟨some 4, .mv (.t 0), none⟩, ⟨some 5, .bin .neq (.t 3) (.t 4), none⟩, ⟨some 2, .mv (.t 5), none⟩])
  .ret))⟩
theorem c55 : compFn Try.prog Try.f55 = some i55 := by kernel_rfl
/-- slices.Contains[[]string,string] -/
def i56 : IFn := ⟨9, [.tmp 4], (.seq (.reg [⟨some 4, .mv (.c (.x (.bool false))), none⟩])
  (.seq (.reg [⟨some 5, .mv (.t 0), none⟩, ⟨some 6, .mv (.t 1), none⟩, ⟨some 7, .call (.c (.fn 58 [])) [(.t 5), (.t 6)], none⟩, ⟨some 8, .bin .geq (.t 7) (.c (.x (.int .i64 (0)))), none⟩, ⟨some 4, .mv (.t 8), none⟩])
  .ret))⟩
theorem c56 : compFn Try.prog Try.f56 = some i56 := by kernel_rfl
/-- slices.order2Ordered[string] -/
def i57 : IFn := ⟨28, [.tmp 8, .tmp 9], (.seq (.reg [⟨some 8, .mv (.c (.x (.int .i64 (0)))), none⟩, ⟨some 9, .mv (.c (.x (.int .i64 (0)))), none⟩])
  (.seq (.seq (.dreg 8 [] [⟨some 10, .mv (.t 0), none⟩, ⟨some 11, .mv (.t 2), none⟩, ⟨some 12, .iad 1 (.t 10) (.t 11), none⟩, ⟨some 13, .ld 1 false (.t 12), none⟩, ⟨some 14, .mv (.t 0), none⟩, ⟨some 15, .mv (.t 1), none⟩, ⟨some 16, .iad 1 (.t 14) (.t 15), none⟩, ⟨some 17, .ld 1 false (.t 16), none⟩, ⟨some 18, .call (.c (.fn 43 [])) [(.t 13), (.t 17)], none⟩])
  (.cond (.t 18)
    (.seq (.reg [⟨some 19, .mv (.t 3), none⟩, ⟨some 20, .nck (.t 19), none⟩, ⟨some 21, .ld 1 false (.t 20), none⟩, ⟨some 22, .bin .add (.t 21) (.c (.x (.int .i64 (1)))), none⟩, ⟨some 23, .nck (.t 19), none⟩, ⟨none, .sto 1 (.t 23) (.t 22), none⟩])
    (.seq (.reg [⟨some 24, .mv (.t 2), none⟩, ⟨some 25, .mv (.t 1), none⟩, ⟨some 8, .mv (.t 24), none⟩, ⟨some 9, .mv (.t 25), none⟩])
    .ret))
    .skip))
  (.seq (.reg [⟨some 26, .mv (.t 1), none⟩, ⟨some 27, .mv (.t 2), none⟩, ⟨some 8, .mv (.t 26), none⟩, ⟨some 9, .mv (.t 27), none⟩])
  .ret)))⟩
theorem c57 : compFn Try.prog Try.f57 = some i57 := by kernel_rfl
/-- slices.Index[[]string,string] -/
def i58 : IFn := ⟨19, [.tmp 4], (.seq (.reg [⟨some 4, .mv (.c (.x (.int .i64 (0)))), none⟩])
  (.seq (.seq (.reg [⟨some 6, .mv (.t 0), none⟩, ⟨some 7, .len false (.t 6), none⟩, ⟨some 8, .mv (.c (.x (.int .i64 (0)))), none⟩])
  (.block 0
    (.loop
      (.seq (.reg [⟨some 9, .bin .lss (.t 8) (.t 7), none⟩])
      (.seq (.cond (.t 9)
        .skip
        (.exit 0))
      (.seq (.block 1
        (.seq (.reg [⟨some 10, .mv (.t 8), none⟩, ⟨some 5, .mv (.t 10), none⟩])
        (.seq (.reg [⟨some 11, .mv (.t 1), none⟩, ⟨some 12, .mv (.t 0), none⟩, ⟨some 13, .mv (.t 5), none⟩, ⟨some 14, .iad 1 (.t 12) (.t 13), none⟩, ⟨some 15, .ld 1 false (.t 14), none⟩, ⟨some 16, .bin .eql (.t 11) (.t 15), none⟩])
        (.cond (.t 16)
          (.seq (.reg [⟨some 17, .mv (.t 5), none⟩, ⟨some 4, .mv (.t 17), none⟩])
          .ret)
          .skip))))
      (.reg [⟨some 18, .bin .add (.t 8) (.c (.x (.int .i64 (1)))), none⟩, ⟨some 8, .mv (.t 18), none⟩])))))))
  (.seq (.reg [⟨some 4, .mv (.c (.x (.int .i64 (-1)))), none⟩])
  .ret)))⟩
theorem c58 : compFn Try.prog Try.f58 = some i58 := by kernel_rfl
def G : FuncId → Option IFn
  | 3 => some i3
  | 4 => some i4
  | 5 => some i5
  | 6 => some i6
  | 7 => some i7
  | 8 => some i8
  | 9 => some i9
  | 10 => some i10
  | 11 => some i11
  | 12 => some i12
  | 13 => some i13
  | 14 => some i14
  | 15 => some i15
  | 16 => some i16
  | 17 => some i17
  | 18 => some i18
  | 19 => some i19
  | 20 => some i20
  | 21 => some i21
  | 22 => some i22
  | 23 => some i23
  | 24 => some i24
  | 25 => some i25
  | 26 => some i26
  | 27 => some i27
  | 28 => some i28
  | 29 => some i29
  | 30 => some i30
  | 31 => some i31
  | 32 => some i32
  | 33 => some i33
  | 34 => some i34
  | 35 => some i35
  | 36 => some i36
  | 37 => some i37
  | 38 => some i38
  | 39 => some i39
  | 40 => some i40
  | 41 => some i41
  | 42 => some i42
  | 43 => some i43
  | 44 => some i44
  | 45 => some i45
  | 46 => some i46
  | 47 => some i47
  | 48 => some i48
  | 49 => some i49
  | 50 => some i50
  | 51 => some i51
  | 52 => some i52
  | 53 => some i53
  | 54 => some i54
  | 55 => some i55
  | 56 => some i56
  | 57 => some i57
  | 58 => some i58
  | _ => none
theorem G_ok : GOk Try.prog G := by
  intro f p h
  unfold G at h
  split at h
  · cases h; exact ⟨Try.f3, Try.func3, by decide, c3⟩
  · cases h; exact ⟨Try.f4, Try.func4, by decide, c4⟩
  · cases h; exact ⟨Try.f5, Try.func5, by decide, c5⟩
  · cases h; exact ⟨Try.f6, Try.func6, by decide, c6⟩
  · cases h; exact ⟨Try.f7, Try.func7, by decide, c7⟩
  · cases h; exact ⟨Try.f8, Try.func8, by decide, c8⟩
  · cases h; exact ⟨Try.f9, Try.func9, by decide, c9⟩
  · cases h; exact ⟨Try.f10, Try.func10, by decide, c10⟩
  · cases h; exact ⟨Try.f11, Try.func11, by decide, c11⟩
  · cases h; exact ⟨Try.f12, Try.func12, by decide, c12⟩
  · cases h; exact ⟨Try.f13, Try.func13, by decide, c13⟩
  · cases h; exact ⟨Try.f14, Try.func14, by decide, c14⟩
  · cases h; exact ⟨Try.f15, Try.func15, by decide, c15⟩
  · cases h; exact ⟨Try.f16, Try.func16, by decide, c16⟩
  · cases h; exact ⟨Try.f17, Try.func17, by decide, c17⟩
  · cases h; exact ⟨Try.f18, Try.func18, by decide, c18⟩
  · cases h; exact ⟨Try.f19, Try.func19, by decide, c19⟩
  · cases h; exact ⟨Try.f20, Try.func20, by decide, c20⟩
  · cases h; exact ⟨Try.f21, Try.func21, by decide, c21⟩
  · cases h; exact ⟨Try.f22, Try.func22, by decide, c22⟩
  · cases h; exact ⟨Try.f23, Try.func23, by decide, c23⟩
  · cases h; exact ⟨Try.f24, Try.func24, by decide, c24⟩
  · cases h; exact ⟨Try.f25, Try.func25, by decide, c25⟩
  · cases h; exact ⟨Try.f26, Try.func26, by decide, c26⟩
  · cases h; exact ⟨Try.f27, Try.func27, by decide, c27⟩
  · cases h; exact ⟨Try.f28, Try.func28, by decide, c28⟩
  · cases h; exact ⟨Try.f29, Try.func29, by decide, c29⟩
  · cases h; exact ⟨Try.f30, Try.func30, by decide, c30⟩
  · cases h; exact ⟨Try.f31, Try.func31, by decide, c31⟩
  · cases h; exact ⟨Try.f32, Try.func32, by decide, c32⟩
  · cases h; exact ⟨Try.f33, Try.func33, by decide, c33⟩
  · cases h; exact ⟨Try.f34, Try.func34, by decide, c34⟩
  · cases h; exact ⟨Try.f35, Try.func35, by decide, c35⟩
  · cases h; exact ⟨Try.f36, Try.func36, by decide, c36⟩
  · cases h; exact ⟨Try.f37, Try.func37, by decide, c37⟩
  · cases h; exact ⟨Try.f38, Try.func38, by decide, c38⟩
  · cases h; exact ⟨Try.f39, Try.func39, by decide, c39⟩
  · cases h; exact ⟨Try.f40, Try.func40, by decide, c40⟩
  · cases h; exact ⟨Try.f41, Try.func41, by decide, c41⟩
  · cases h; exact ⟨Try.f42, Try.func42, by decide, c42⟩
  · cases h; exact ⟨Try.f43, Try.func43, by decide, c43⟩
  · cases h; exact ⟨Try.f44, Try.func44, by decide, c44⟩
  · cases h; exact ⟨Try.f45, Try.func45, by decide, c45⟩
  · cases h; exact ⟨Try.f46, Try.func46, by decide, c46⟩
  · cases h; exact ⟨Try.f47, Try.func47, by decide, c47⟩
  · cases h; exact ⟨Try.f48, Try.func48, by decide, c48⟩
  · cases h; exact ⟨Try.f49, Try.func49, by decide, c49⟩
  · cases h; exact ⟨Try.f50, Try.func50, by decide, c50⟩
  · cases h; exact ⟨Try.f51, Try.func51, by decide, c51⟩
  · cases h; exact ⟨Try.f52, Try.func52, by decide, c52⟩
  · cases h; exact ⟨Try.f53, Try.func53, by decide, c53⟩
  · cases h; exact ⟨Try.f54, Try.func54, by decide, c54⟩
  · cases h; exact ⟨Try.f55, Try.func55, by decide, c55⟩
  · cases h; exact ⟨Try.f56, Try.func56, by decide, c56⟩
  · cases h; exact ⟨Try.f57, Try.func57, by decide, c57⟩
  · cases h; exact ⟨Try.f58, Try.func58, by decide, c58⟩
  · cases h
end Go.Proofs.Ytmlpbojoekmfaaa
