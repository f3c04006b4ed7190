/- The code of functions, as the abstract evaluator reads it. Printed by gen_ic.py. -/
import Derived.Test.YtecfcamlnfmebaaProg
import Derived.Test.YtecfcamlnfmebaaAb28
namespace Go.Proofs.Ytecfcamlnfmebaa
open Go.RowKit Go.Bo Go.Ab
/-- bothy/bothylaw14.ThreeTells -/
def i3 : IFn := ⟨47, [.tmp 2], (.seq (.reg [⟨some 2, .mv (.c (.x (.bool false))), none⟩])
  (.seq (.seq (.reg [⟨some 4, .mv (.t 0), none⟩, ⟨some 5, .len false (.t 4), none⟩, ⟨some 6, .bin .gtr (.t 5) (.c (.x (.int .i64 (40)))), none⟩])
  (.cond (.t 6)
    (.seq (.reg [⟨some 7, .call (.c (.fn 13 [])) [], none⟩, ⟨some 2, .mv (.t 7), none⟩])
    .ret)
    .skip))
  (.seq (.seq (.reg [⟨some 3, .mv (.c (.x (.int .i64 (0)))), none⟩])
  (.block 0
    (.loop
      (.seq (.seq (.reg [⟨some 8, .mv (.t 3), none⟩, ⟨some 9, .mv (.t 0), none⟩, ⟨some 10, .len false (.t 9), none⟩, ⟨some 11, .bin .lss (.t 8) (.t 10), none⟩])
      (.cond (.t 11)
        .skip
        (.exit 0)))
      (.seq (.block 1
        (.seq (.dreg 9 [] [⟨some 14, .mv (.t 0), none⟩, ⟨some 15, .mv (.t 3), none⟩, ⟨some 16, .iad 1 (.t 14) (.t 15), none⟩, ⟨some 17, .ld 1 false (.t 16), none⟩, ⟨some 18, .call (.c (.fn 14 [])) [(.t 17)], none⟩, ⟨some 19, .mv (.t 0), none⟩, ⟨some 20, .mv (.t 3), none⟩, ⟨some 21, .iad 1 (.t 19) (.t 20), none⟩, ⟨some 22, .ld 1 false (.t 21), none⟩, ⟨some 23, .call (.c (.fn 15 [])) [(.t 22)], none⟩, ⟨some 24, .bin .neq (.t 18) (.t 23), none⟩])
        (.cond (.t 24)
          (.seq (.reg [⟨some 2, .mv (.c (.x (.bool false))), none⟩])
          .ret)
          .skip)))
      (.reg [⟨some 12, .mv (.t 3), none⟩, ⟨some 13, .bin .add (.t 12) (.c (.x (.int .i64 (1)))), none⟩, ⟨some 3, .mv (.t 13), none⟩]))))))
  (.seq (.reg [⟨some 25, .mv (.t 0), none⟩, ⟨some 26, .call (.c (.fn 16 [])) [(.t 25)], none⟩, ⟨some 27, .mv (.t 0), none⟩, ⟨some 28, .call (.c (.fn 17 [])) [(.t 27)], none⟩, ⟨some 29, .bin .eql (.t 26) (.t 28), none⟩, ⟨some 30, .mv (.t 29), none⟩, ⟨some 31, .mv (.t 0), (some (30, true))⟩, ⟨some 32, .call (.c (.fn 18 [])) [(.t 31)], (some (30, true))⟩, ⟨some 33, .mv (.t 0), (some (30, true))⟩, ⟨some 34, .call (.c (.fn 19 [])) [(.t 33)], (some (30, true))⟩, ⟨some 35, .bin .eql (.t 32) (.t 34), (some (30, true))⟩, ⟨some 36, .pick (.t 30) (.t 35) (.c (.x (.bool false))), none⟩, ⟨some 37, .mv (.t 36), none⟩, ⟨some 38, .mv (.t 0), (some (37, true))⟩, ⟨some 39, .call (.c (.fn 20 [])) [(.t 38)], (some (37, true))⟩, ⟨some 40, .mv (.t 0), (some (37, true))⟩, ⟨some 41, .call (.c (.fn 21 [])) [(.t 40)], (some (37, true))⟩, ⟨some 42, .bin .eql (.t 39) (.t 41), (some (37, true))⟩, ⟨some 43, .pick (.t 37) (.t 42) (.c (.x (.bool false))), none⟩, ⟨some 44, .mv (.t 43), none⟩, ⟨some 45, .call (.c (.fn 13 [])) [], (some (44, true))⟩, ⟨some 46, .pick (.t 44) (.t 45) (.c (.x (.bool false))), none⟩, ⟨some 2, .mv (.t 46), none⟩])
  .ret))))⟩
theorem c3 : compFn Try.prog Try.f3 = some i3 := by kernel_rfl
/-- bothy/bothylaw14.ThreeTurned -/
def i4 : IFn := ⟨78, [.tmp 4], (.seq (.reg [⟨some 4, .mv (.c (.x (.bool false))), none⟩])
  (.seq (.seq (.reg [⟨some 8, .mv (.t 0), none⟩, ⟨some 9, .len false (.t 8), none⟩, ⟨some 10, .bin .gtr (.t 9) (.c (.x (.int .i64 (30)))), none⟩, ⟨some 11, .mv (.t 10), none⟩, ⟨some 12, .mv (.t 1), (some (11, false))⟩, ⟨some 13, .len false (.t 12), (some (11, false))⟩, ⟨some 14, .bin .gtr (.t 13) (.c (.x (.int .i64 (30)))), (some (11, false))⟩, ⟨some 15, .pick (.t 11) (.c (.x (.bool true))) (.t 14), none⟩])
  (.cond (.t 15)
    (.seq (.reg [⟨some 16, .call (.c (.fn 13 [])) [], none⟩, ⟨some 4, .mv (.t 16), none⟩])
    .ret)
    .skip))
  (.seq (.reg [⟨some 5, .mv (.c (.x .nils)), none⟩])
  (.seq (.seq (.reg [⟨some 6, .mv (.c (.x (.int .i64 (0)))), none⟩])
  (.block 0
    (.loop
      (.seq (.seq (.reg [⟨some 17, .mv (.t 6), none⟩, ⟨some 18, .mv (.t 0), none⟩, ⟨some 19, .len false (.t 18), none⟩, ⟨some 20, .bin .lss (.t 17) (.t 19), none⟩])
      (.cond (.t 20)
        .skip
        (.exit 0)))
      (.seq (.block 1
        (.reg [⟨some 23, .mv (.t 5), none⟩, ⟨some 24, .mv (.t 0), none⟩, ⟨some 25, .mv (.t 6), none⟩, ⟨some 26, .iad 1 (.t 24) (.t 25), none⟩, ⟨some 27, .ld 1 false (.t 26), none⟩, ⟨some 28, .call (.c (.fn 14 [])) [(.t 27)], none⟩, ⟨some 29, .bsl 3 1 1 [(.t 28)], none⟩, ⟨some 30, .app 3 1 8 (.t 23) (.t 29), none⟩, ⟨some 5, .mv (.t 30), none⟩]))
      (.reg [⟨some 21, .mv (.t 6), none⟩, ⟨some 22, .bin .add (.t 21) (.c (.x (.int .i64 (1)))), none⟩, ⟨some 6, .mv (.t 22), none⟩]))))))
  (.seq (.reg [⟨some 31, .mv (.t 0), none⟩, ⟨some 32, .mv (.t 0), none⟩, ⟨some 33, .len false (.t 32), none⟩, ⟨some 34, .mv (.t 0), none⟩, ⟨some 35, .len false (.t 34), none⟩, ⟨some 36, .slc 1 (.t 31) none (some (.t 33)) (some (.t 35)), none⟩, ⟨some 37, .mv (.t 1), none⟩, ⟨some 38, .app 3 1 8 (.t 36) (.t 37), none⟩, ⟨some 7, .mv (.t 38), none⟩])
  (.seq (.reg [⟨some 39, .mv (.t 0), none⟩, ⟨some 40, .call (.c (.fn 16 [])) [(.t 39)], none⟩, ⟨some 41, .call (.c (.fn 14 [])) [(.t 40)], none⟩, ⟨some 42, .mv (.t 5), none⟩, ⟨some 43, .call (.c (.fn 18 [])) [(.t 42)], none⟩, ⟨some 44, .bin .eql (.t 41) (.t 43), none⟩, ⟨some 45, .mv (.t 44), none⟩, ⟨some 46, .mv (.t 0), (some (45, true))⟩, ⟨some 47, .call (.c (.fn 18 [])) [(.t 46)], (some (45, true))⟩, ⟨some 48, .call (.c (.fn 14 [])) [(.t 47)], (some (45, true))⟩, ⟨some 49, .mv (.t 5), (some (45, true))⟩, ⟨some 50, .call (.c (.fn 16 [])) [(.t 49)], (some (45, true))⟩, ⟨some 51, .bin .eql (.t 48) (.t 50), (some (45, true))⟩, ⟨some 52, .pick (.t 45) (.t 51) (.c (.x (.bool false))), none⟩, ⟨some 53, .mv (.t 52), none⟩, ⟨some 54, .mv (.t 0), (some (53, true))⟩, ⟨some 55, .call (.c (.fn 16 [])) [(.t 54)], (some (53, true))⟩, ⟨some 56, .mv (.t 1), (some (53, true))⟩, ⟨some 57, .call (.c (.fn 16 [])) [(.t 56)], (some (53, true))⟩, ⟨some 58, .bsl 3 1 2 [(.t 55), (.t 57)], (some (53, true))⟩, ⟨some 59, .call (.c (.fn 16 [])) [(.t 58)], (some (53, true))⟩, ⟨some 60, .mv (.t 7), (some (53, true))⟩, ⟨some 61, .call (.c (.fn 16 [])) [(.t 60)], (some (53, true))⟩, ⟨some 62, .bin .eql (.t 59) (.t 61), (some (53, true))⟩, ⟨some 63, .pick (.t 53) (.t 62) (.c (.x (.bool false))), none⟩, ⟨some 64, .mv (.t 63), none⟩, ⟨some 65, .mv (.t 0), (some (64, true))⟩, ⟨some 66, .call (.c (.fn 18 [])) [(.t 65)], (some (64, true))⟩, ⟨some 67, .mv (.t 1), (some (64, true))⟩, ⟨some 68, .call (.c (.fn 18 [])) [(.t 67)], (some (64, true))⟩, ⟨some 69, .bsl 3 1 2 [(.t 66), (.t 68)], (some (64, true))⟩, ⟨some 70, .call (.c (.fn 18 [])) [(.t 69)], (some (64, true))⟩, ⟨some 71, .mv (.t 7), (some (64, true))⟩, ⟨some 72, .call (.c (.fn 18 [])) [(.t 71)], (some (64, true))⟩, ⟨some 73, .bin .eql (.t 70) (.t 72), (some (64, true))⟩, ⟨some 74, .pick (.t 64) (.t 73) (.c (.x (.bool false))), none⟩, ⟨some 75, .mv (.t 74), none⟩, ⟨some 76, .call (.c (.fn 13 [])) [], (some (75, true))⟩, ⟨some 77, .pick (.t 75) (.t 76) (.c (.x (.bool false))), none⟩, ⟨some 4, .mv (.t 77), none⟩])
  .ret))))))⟩
theorem c4 : compFn Try.prog Try.f4 = some i4 := by kernel_rfl
/-- bothy/bothylaw49.LimitsPlay -/
def i5 : IFn := ⟨180, [.tmp 6], (.seq (.reg [⟨some 6, .mv (.c (.x (.bool false))), none⟩])
  (.seq (.seq (.reg [⟨some 17, .mv (.t 2), none⟩, ⟨some 18, .len false (.t 17), none⟩, ⟨some 19, .bin .gtr (.t 18) (.c (.x (.int .i64 (40)))), none⟩])
  (.cond (.t 19)
    (.seq (.reg [⟨some 20, .call (.c (.fn 22 [])) [], none⟩, ⟨some 6, .mv (.t 20), none⟩])
    .ret)
    .skip))
  (.seq (.reg [⟨some 22, .mv (.t 0), none⟩, ⟨some 23, .mv (.t 1), none⟩, ⟨some 24, .call (.c (.fn 23 [])) [(.t 22), (.t 23)], none⟩, ⟨some 21, .mv (.t 24), none⟩, ⟨some 25, .ext (.t 21) 0, none⟩, ⟨some 26, .ext (.t 21) 1, none⟩, ⟨some 7, .mv (.t 25), none⟩, ⟨some 8, .mv (.t 26), none⟩])
  (.seq (.seq (.reg [⟨some 27, .mv (.t 0), none⟩, ⟨some 28, .bin .lss (.t 27) (.c (.x (.int .i64 (1)))), none⟩, ⟨some 29, .mv (.t 28), none⟩, ⟨some 30, .mv (.t 0), (some (29, false))⟩, ⟨some 31, .bin .gtr (.t 30) (.c (.x (.int .i64 (1048576)))), (some (29, false))⟩, ⟨some 32, .pick (.t 29) (.c (.x (.bool true))) (.t 31), none⟩, ⟨some 33, .mv (.t 32), none⟩, ⟨some 34, .mv (.t 1), (some (33, false))⟩, ⟨some 35, .bin .lss (.t 34) (.c (.x (.int .i64 (1)))), (some (33, false))⟩, ⟨some 36, .pick (.t 33) (.c (.x (.bool true))) (.t 35), none⟩, ⟨some 37, .mv (.t 36), none⟩, ⟨some 38, .mv (.t 1), (some (37, false))⟩, ⟨some 39, .bin .gtr (.t 38) (.c (.x (.int .i64 (1073741824)))), (some (37, false))⟩, ⟨some 40, .pick (.t 37) (.c (.x (.bool true))) (.t 39), none⟩])
  (.cond (.t 40)
    (.seq (.reg [⟨some 41, .mv (.t 7), none⟩, ⟨some 42, .eq .ptr false (.t 41) (.c (.x .nilp)), none⟩, ⟨some 43, .mv (.t 42), none⟩, ⟨some 44, .mv (.t 8), (some (43, true))⟩, ⟨some 45, .bin .eql (.t 44) (.c (.x (.int .i64 (1)))), (some (43, true))⟩, ⟨some 46, .pick (.t 43) (.t 45) (.c (.x (.bool false))), none⟩, ⟨some 47, .mv (.t 46), none⟩, ⟨some 48, .call (.c (.fn 22 [])) [], (some (47, true))⟩, ⟨some 49, .pick (.t 47) (.t 48) (.c (.x (.bool false))), none⟩, ⟨some 6, .mv (.t 49), none⟩])
    .ret)
    .skip))
  (.seq (.seq (.reg [⟨some 50, .mv (.t 7), none⟩, ⟨some 51, .eq .ptr false (.t 50) (.c (.x .nilp)), none⟩, ⟨some 52, .mv (.t 51), none⟩, ⟨some 53, .mv (.t 8), (some (52, false))⟩, ⟨some 54, .bin .neq (.t 53) (.c (.x (.int .i64 (0)))), (some (52, false))⟩, ⟨some 55, .pick (.t 52) (.c (.x (.bool true))) (.t 54), none⟩])
  (.cond (.t 55)
    (.seq (.reg [⟨some 6, .mv (.c (.x (.bool false))), none⟩])
    .ret)
    .skip))
  (.seq (.reg [⟨some 9, .mv (.c (.x .nils)), none⟩])
  (.seq (.seq (.reg [⟨some 10, .mv (.c (.x (.int .i64 (0)))), none⟩])
  (.block 0
    (.loop
      (.seq (.seq (.reg [⟨some 56, .mv (.t 10), none⟩, ⟨some 57, .mv (.t 2), none⟩, ⟨some 58, .len false (.t 57), none⟩, ⟨some 59, .bin .lss (.t 56) (.t 58), none⟩])
      (.cond (.t 59)
        .skip
        (.exit 0)))
      (.seq (.block 1
        (.seq (.reg [⟨some 62, .mv (.t 2), none⟩, ⟨some 63, .mv (.t 10), none⟩, ⟨some 64, .iad 3 (.t 62) (.t 63), none⟩, ⟨some 65, .ld 3 true (.t 64), none⟩, ⟨some 11, .box (.c (.agg [.x (.str []), .x (.int .i64 (0)), .x (.int .i64 (0))])), none⟩, ⟨none, .sto 3 (.t 11) (.t 65), none⟩])
        (.seq (.seq (.reg [⟨some 66, .fad 0 (.t 11), none⟩, ⟨some 67, .ld 1 false (.t 66), none⟩, ⟨some 68, .len true (.t 67), none⟩, ⟨some 69, .bin .gtr (.t 68) (.c (.x (.int .i64 (100)))), none⟩])
        (.cond (.t 69)
          (.exit 1)
          .skip))
        (.seq (.reg [⟨some 70, .mv (.t 9), none⟩, ⟨some 71, .fad 0 (.t 11), none⟩, ⟨some 72, .ld 1 false (.t 71), none⟩, ⟨some 73, .call (.c (.fn 24 [])) [(.t 70), (.t 72)], none⟩, ⟨some 12, .mv (.t 73), none⟩])
        (.seq (.seq (.reg [⟨some 74, .mv (.t 12), none⟩, ⟨some 75, .bin .lss (.t 74) (.c (.x (.int .i64 (0)))), none⟩])
        (.cond (.t 75)
          (.seq (.reg [⟨some 76, .mv (.t 9), none⟩, ⟨some 77, .fad 0 (.t 11), none⟩, ⟨some 78, .ld 1 false (.t 77), none⟩, ⟨some 79, .mv (.t 1), none⟩, ⟨some 80, .build [.x (.str []), .x (.int .i64 (0)), .x (.int .i64 (0))] [(0, 1, (.t 78)), (1, 1, (.t 79)), (2, 1, (.c (.x (.int .i64 (0)))))], none⟩, ⟨some 81, .bsl 39 3 1 [(.t 80)], none⟩, ⟨some 82, .app 39 3 32 (.t 76) (.t 81), none⟩, ⟨some 9, .mv (.t 82), none⟩])
          (.reg [⟨some 83, .mv (.t 9), none⟩, ⟨some 84, .len false (.t 83), none⟩, ⟨some 85, .bin .sub (.t 84) (.c (.x (.int .i64 (1)))), none⟩, ⟨some 12, .mv (.t 85), none⟩]))
          .skip))
        (.seq (.reg [⟨some 86, .mv (.t 9), none⟩, ⟨some 87, .mv (.t 12), none⟩, ⟨some 88, .iad 3 (.t 86) (.t 87), none⟩, ⟨some 89, .ld 3 true (.t 88), none⟩, ⟨some 13, .box (.c (.agg [.x (.str []), .x (.int .i64 (0)), .x (.int .i64 (0))])), none⟩, ⟨none, .sto 3 (.t 13) (.t 89), none⟩])
        (.seq (.reg [⟨some 90, .fad 1 (.t 11), none⟩, ⟨some 91, .ld 1 false (.t 90), none⟩, ⟨some 92, .fad 2 (.t 13), none⟩, ⟨some 93, .ld 1 false (.t 92), none⟩, ⟨some 94, .bin .geq (.t 91) (.t 93), none⟩, ⟨some 95, .mv (.t 94), none⟩, ⟨some 96, .fad 1 (.t 11), (some (95, true))⟩, ⟨some 97, .ld 1 false (.t 96), (some (95, true))⟩, ⟨some 98, .bin .geq (.t 97) (.c (.x (.int .i64 (0)))), (some (95, true))⟩, ⟨some 99, .pick (.t 95) (.t 98) (.c (.x (.bool false))), none⟩, ⟨some 100, .mv (.t 99), none⟩, ⟨some 101, .fad 1 (.t 11), (some (100, true))⟩, ⟨some 102, .ld 1 false (.t 101), (some (100, true))⟩, ⟨some 103, .bin .leq (.t 102) (.c (.x (.int .i64 (1099511627776)))), (some (100, true))⟩, ⟨some 104, .pick (.t 100) (.t 103) (.c (.x (.bool false))), none⟩, ⟨some 14, .mv (.t 104), none⟩])
        (.seq (.reg [⟨some 15, .mv (.c (.x (.int .i64 (0)))), none⟩])
        (.seq (.seq (.reg [⟨some 105, .mv (.t 14), none⟩])
        (.cond (.t 105)
          (.seq (.reg [⟨some 106, .mv (.t 1), none⟩, ⟨some 15, .mv (.t 106), none⟩])
          (.seq (.reg [⟨some 107, .fad 1 (.t 11), none⟩, ⟨some 108, .ld 1 false (.t 107), none⟩, ⟨some 109, .fad 2 (.t 13), none⟩, ⟨some 110, .ld 1 false (.t 109), none⟩, ⟨some 111, .bin .sub (.t 108) (.t 110), none⟩, ⟨some 112, .bin .leq (.t 111) (.c (.x (.int .i64 (1073741824)))), none⟩])
          (.cond (.t 112)
            (.reg [⟨some 113, .mv (.t 1), none⟩, ⟨some 114, .fad 1 (.t 13), none⟩, ⟨some 115, .ld 1 false (.t 114), none⟩, ⟨some 116, .fad 1 (.t 11), none⟩, ⟨some 117, .ld 1 false (.t 116), none⟩, ⟨some 118, .fad 2 (.t 13), none⟩, ⟨some 119, .ld 1 false (.t 118), none⟩, ⟨some 120, .bin .sub (.t 117) (.t 119), none⟩, ⟨some 121, .mv (.t 0), none⟩, ⟨some 122, .bin .mul (.t 120) (.t 121), none⟩, ⟨some 123, .bin .add (.t 115) (.t 122), none⟩, ⟨some 124, .mnx false (.t 113) (.t 123), none⟩, ⟨some 15, .mv (.t 124), none⟩])
            .skip)))
          .skip))
        (.seq (.seq (.reg [⟨some 125, .mv (.t 7), none⟩, ⟨some 126, .fad 0 (.t 11), none⟩, ⟨some 127, .ld 1 false (.t 126), none⟩, ⟨some 128, .fad 1 (.t 11), none⟩, ⟨some 129, .ld 1 false (.t 128), none⟩, ⟨some 130, .call (.c (.fn 25 [])) [(.t 125), (.t 127), (.t 129)], none⟩, ⟨some 131, .mv (.t 15), none⟩, ⟨some 132, .bin .neq (.t 130) (.t 131), none⟩])
        (.cond (.t 132)
          (.seq (.reg [⟨some 6, .mv (.c (.x (.bool false))), none⟩])
          .ret)
          .skip))
        (.seq (.reg [⟨some 133, .mv (.t 14), none⟩, ⟨some 134, .mv (.t 133), none⟩, ⟨some 135, .fad 2 (.t 11), (some (134, true))⟩, ⟨some 136, .ld 1 false (.t 135), (some (134, true))⟩, ⟨some 137, .bin .geq (.t 136) (.c (.x (.int .i64 (1)))), (some (134, true))⟩, ⟨some 138, .pick (.t 134) (.t 137) (.c (.x (.bool false))), none⟩, ⟨some 139, .mv (.t 138), none⟩, ⟨some 140, .fad 2 (.t 11), (some (139, true))⟩, ⟨some 141, .ld 1 false (.t 140), (some (139, true))⟩, ⟨some 142, .mv (.t 15), (some (139, true))⟩, ⟨some 143, .bin .leq (.t 141) (.t 142), (some (139, true))⟩, ⟨some 144, .pick (.t 139) (.t 143) (.c (.x (.bool false))), none⟩, ⟨some 16, .mv (.t 144), none⟩])
        (.seq (.seq (.reg [⟨some 145, .mv (.t 7), none⟩, ⟨some 146, .fad 0 (.t 11), none⟩, ⟨some 147, .ld 1 false (.t 146), none⟩, ⟨some 148, .fad 1 (.t 11), none⟩, ⟨some 149, .ld 1 false (.t 148), none⟩, ⟨some 150, .fad 2 (.t 11), none⟩, ⟨some 151, .ld 1 false (.t 150), none⟩, ⟨some 152, .call (.c (.fn 26 [])) [(.t 145), (.t 147), (.t 149), (.t 151)], none⟩, ⟨some 153, .mv (.t 16), none⟩, ⟨some 154, .eq .bool true (.t 152) (.t 153), none⟩])
        (.cond (.t 154)
          (.seq (.reg [⟨some 6, .mv (.c (.x (.bool false))), none⟩])
          .ret)
          .skip))
        (.seq (.reg [⟨some 155, .mv (.t 14), none⟩, ⟨some 156, .mv (.t 155), none⟩, ⟨some 157, .fad 2 (.t 11), (some (156, true))⟩, ⟨some 158, .ld 1 false (.t 157), (some (156, true))⟩, ⟨some 159, .bin .geq (.t 158) (.c (.x (.int .i64 (1)))), (some (156, true))⟩, ⟨some 160, .pick (.t 156) (.t 159) (.c (.x (.bool false))), none⟩])
        (.cond (.t 160)
          (.seq (.reg [⟨some 161, .mv (.t 9), none⟩, ⟨some 162, .mv (.t 12), none⟩, ⟨some 163, .fad 0 (.t 11), none⟩, ⟨some 164, .ld 1 false (.t 163), none⟩, ⟨some 165, .mv (.t 15), none⟩, ⟨some 166, .fad 1 (.t 11), none⟩, ⟨some 167, .ld 1 false (.t 166), none⟩, ⟨some 168, .build [.x (.str []), .x (.int .i64 (0)), .x (.int .i64 (0))] [(0, 1, (.t 164)), (1, 1, (.t 165)), (2, 1, (.t 167))], none⟩, ⟨some 169, .iad 3 (.t 161) (.t 162), none⟩, ⟨none, .sto 3 (.t 169) (.t 168), none⟩])
          (.seq (.reg [⟨some 170, .mv (.t 16), none⟩])
          (.cond (.t 170)
            (.reg [⟨some 171, .mv (.t 9), none⟩, ⟨some 172, .mv (.t 12), none⟩, ⟨some 173, .mv (.t 15), none⟩, ⟨some 174, .fad 2 (.t 11), none⟩, ⟨some 175, .ld 1 false (.t 174), none⟩, ⟨some 176, .bin .sub (.t 173) (.t 175), none⟩, ⟨some 177, .iad 3 (.t 171) (.t 172), none⟩, ⟨some 178, .fad 1 (.t 177), none⟩, ⟨none, .sto 1 (.t 178) (.t 176), none⟩])
            .skip)))
          .skip))))))))))))))
      (.reg [⟨some 60, .mv (.t 10), none⟩, ⟨some 61, .bin .add (.t 60) (.c (.x (.int .i64 (1)))), none⟩, ⟨some 10, .mv (.t 61), none⟩]))))))
  (.seq (.reg [⟨some 179, .call (.c (.fn 22 [])) [], none⟩, ⟨some 6, .mv (.t 179), none⟩])
  .ret))))))))⟩
theorem c5 : compFn Try.prog Try.f5 = some i5 := by kernel_rfl
/-- bothy/bothylaw49.LimitsHold -/
def i6 : IFn := ⟨87, [.tmp 6], (.seq (.reg [⟨some 6, .mv (.c (.x (.bool false))), none⟩])
  (.seq (.seq (.reg [⟨some 13, .mv (.t 2), none⟩, ⟨some 14, .len false (.t 13), none⟩, ⟨some 15, .bin .gtr (.t 14) (.c (.x (.int .i64 (60)))), none⟩, ⟨some 16, .mv (.t 15), none⟩, ⟨some 17, .mv (.t 0), (some (16, false))⟩, ⟨some 18, .bin .lss (.t 17) (.c (.x (.int .u8 (1)))), (some (16, false))⟩, ⟨some 19, .pick (.t 16) (.c (.x (.bool true))) (.t 18), none⟩, ⟨some 20, .mv (.t 19), none⟩, ⟨some 21, .mv (.t 1), (some (20, false))⟩, ⟨some 22, .bin .lss (.t 21) (.c (.x (.int .u8 (1)))), (some (20, false))⟩, ⟨some 23, .pick (.t 20) (.c (.x (.bool true))) (.t 22), none⟩])
  (.cond (.t 23)
    (.seq (.reg [⟨some 24, .call (.c (.fn 22 [])) [], none⟩, ⟨some 6, .mv (.t 24), none⟩])
    .ret)
    .skip))
  (.seq (.reg [⟨some 26, .mv (.t 0), none⟩, ⟨some 27, .cvi .i64 (.t 26), none⟩, ⟨some 28, .mv (.t 1), none⟩, ⟨some 29, .cvi .i64 (.t 28), none⟩, ⟨some 30, .call (.c (.fn 23 [])) [(.t 27), (.t 29)], none⟩, ⟨some 25, .mv (.t 30), none⟩, ⟨some 31, .ext (.t 25) 0, none⟩, ⟨some 32, .ext (.t 25) 1, none⟩, ⟨some 7, .mv (.t 31), none⟩, ⟨some 8, .mv (.t 32), none⟩])
  (.seq (.seq (.reg [⟨some 33, .mv (.t 7), none⟩, ⟨some 34, .eq .ptr false (.t 33) (.c (.x .nilp)), none⟩])
  (.cond (.t 34)
    (.seq (.reg [⟨some 6, .mv (.c (.x (.bool false))), none⟩])
    .ret)
    .skip))
  (.seq (.reg [⟨some 9, .mv (.c (.x (.int .i64 (0)))), none⟩, ⟨some 10, .mv (.c (.x (.int .i64 (0)))), none⟩])
  (.seq (.seq (.reg [⟨some 11, .mv (.c (.x (.int .i64 (0)))), none⟩])
  (.block 0
    (.loop
      (.seq (.seq (.reg [⟨some 35, .mv (.t 11), none⟩, ⟨some 36, .mv (.t 2), none⟩, ⟨some 37, .len false (.t 36), none⟩, ⟨some 38, .bin .lss (.t 35) (.t 37), none⟩])
      (.cond (.t 38)
        .skip
        (.exit 0)))
      (.seq (.block 1
        (.seq (.reg [⟨some 41, .mv (.t 9), none⟩, ⟨some 42, .mv (.t 2), none⟩, ⟨some 43, .mv (.t 11), none⟩, ⟨some 44, .iad 2 (.t 42) (.t 43), none⟩, ⟨some 45, .iada 1 2 (.t 44) (.c (.x (.int .i64 (0)))), none⟩, ⟨some 46, .ld 1 false (.t 45), none⟩, ⟨some 47, .bin .rem (.t 46) (.c (.x (.int .u8 (8)))), none⟩, ⟨some 48, .cvi .i64 (.t 47), none⟩, ⟨some 49, .bin .add (.t 41) (.t 48), none⟩, ⟨some 9, .mv (.t 49), none⟩])
        (.seq (.seq (.reg [⟨some 50, .mv (.t 7), none⟩, ⟨some 51, .mv (.t 9), none⟩, ⟨some 52, .mv (.t 2), none⟩, ⟨some 53, .mv (.t 11), none⟩, ⟨some 54, .iad 2 (.t 52) (.t 53), none⟩, ⟨some 55, .iada 1 2 (.t 54) (.c (.x (.int .i64 (1)))), none⟩, ⟨some 56, .ld 1 false (.t 55), none⟩, ⟨some 57, .cvi .i64 (.t 56), none⟩, ⟨some 58, .call (.c (.fn 26 [])) [(.t 50), (.c (.x (.str [97]))), (.t 51), (.t 57)], none⟩])
        (.cond (.t 58)
          (.reg [⟨some 59, .mv (.t 10), none⟩, ⟨some 60, .mv (.t 2), none⟩, ⟨some 61, .mv (.t 11), none⟩, ⟨some 62, .iad 2 (.t 60) (.t 61), none⟩, ⟨some 63, .iada 1 2 (.t 62) (.c (.x (.int .i64 (1)))), none⟩, ⟨some 64, .ld 1 false (.t 63), none⟩, ⟨some 65, .cvi .i64 (.t 64), none⟩, ⟨some 66, .bin .add (.t 59) (.t 65), none⟩, ⟨some 10, .mv (.t 66), none⟩])
          .skip))
        (.seq (.reg [⟨some 67, .mv (.t 10), none⟩, ⟨some 68, .mv (.t 1), none⟩, ⟨some 69, .cvi .i64 (.t 68), none⟩, ⟨some 70, .mv (.t 9), none⟩, ⟨some 71, .mv (.t 0), none⟩, ⟨some 72, .cvi .i64 (.t 71), none⟩, ⟨some 73, .bin .mul (.t 70) (.t 72), none⟩, ⟨some 74, .bin .add (.t 69) (.t 73), none⟩, ⟨some 75, .bin .gtr (.t 67) (.t 74), none⟩])
        (.cond (.t 75)
          (.seq (.reg [⟨some 6, .mv (.c (.x (.bool false))), none⟩])
          .ret)
          .skip)))))
      (.reg [⟨some 39, .mv (.t 11), none⟩, ⟨some 40, .bin .add (.t 39) (.c (.x (.int .i64 (1)))), none⟩, ⟨some 11, .mv (.t 40), none⟩]))))))
  (.seq (.reg [⟨some 12, .mv (.c (.x .nilp)), none⟩])
  (.seq (.reg [⟨some 76, .mv (.t 12), none⟩, ⟨some 77, .call (.c (.fn 26 [])) [(.t 76), (.c (.x (.str [97]))), (.c (.x (.int .i64 (0)))), (.c (.x (.int .i64 (1))))], none⟩, ⟨some 78, .un .not (.t 77), none⟩, ⟨some 79, .mv (.t 78), none⟩, ⟨some 80, .mv (.t 12), (some (79, true))⟩, ⟨some 81, .call (.c (.fn 25 [])) [(.t 80), (.c (.x (.str [97]))), (.c (.x (.int .i64 (0))))], (some (79, true))⟩, ⟨some 82, .bin .eql (.t 81) (.c (.x (.int .i64 (0)))), (some (79, true))⟩, ⟨some 83, .pick (.t 79) (.t 82) (.c (.x (.bool false))), none⟩, ⟨some 84, .mv (.t 83), none⟩, ⟨some 85, .call (.c (.fn 22 [])) [], (some (84, true))⟩, ⟨some 86, .pick (.t 84) (.t 85) (.c (.x (.bool false))), none⟩, ⟨some 6, .mv (.t 86), none⟩])
  .ret))))))))⟩
theorem c6 : compFn Try.prog Try.f6 = some i6 := by kernel_rfl
/-- bothy/bothylaw02.NumTells -/
def i7 : IFn := ⟨91, [.tmp 4], (.seq (.reg [⟨some 4, .mv (.c (.x (.bool false))), none⟩])
  (.seq (.seq (.reg [⟨some 17, .mv (.t 1), none⟩, ⟨some 18, .len true (.t 17), none⟩, ⟨some 19, .bin .gtr (.t 18) (.c (.x (.int .i64 (100)))), none⟩])
  (.cond (.t 19)
    (.seq (.reg [⟨some 20, .call (.c (.fn 27 [])) [], none⟩, ⟨some 4, .mv (.t 20), none⟩])
    .ret)
    .skip))
  (.seq (.reg [⟨some 22, .mv (.t 0), none⟩, ⟨some 23, .call (.c (.fn 28 [])) [(.t 22)], none⟩, ⟨some 21, .mv (.t 23), none⟩, ⟨some 24, .ext (.t 21) 0, none⟩, ⟨some 25, .ext (.t 21) 1, none⟩, ⟨some 5, .mv (.t 24), none⟩, ⟨some 6, .mv (.t 25), none⟩])
  (.seq (.reg [⟨some 27, .mv (.t 0), none⟩, ⟨some 28, .call (.c (.fn 29 [])) [(.t 27)], none⟩, ⟨some 26, .mv (.t 28), none⟩, ⟨some 29, .ext (.t 26) 0, none⟩, ⟨some 30, .ext (.t 26) 1, none⟩, ⟨some 7, .mv (.t 29), none⟩, ⟨some 8, .mv (.t 30), none⟩])
  (.seq (.reg [⟨some 32, .mv (.t 1), none⟩, ⟨some 33, .call (.c (.fn 30 [])) [(.t 32)], none⟩, ⟨some 31, .mv (.t 33), none⟩, ⟨some 34, .ext (.t 31) 0, none⟩, ⟨some 35, .ext (.t 31) 1, none⟩, ⟨some 9, .mv (.t 34), none⟩, ⟨some 10, .mv (.t 35), none⟩])
  (.seq (.reg [⟨some 37, .mv (.t 1), none⟩, ⟨some 38, .call (.c (.fn 31 [])) [(.t 37)], none⟩, ⟨some 36, .mv (.t 38), none⟩, ⟨some 39, .ext (.t 36) 0, none⟩, ⟨some 40, .ext (.t 36) 1, none⟩, ⟨some 11, .mv (.t 39), none⟩, ⟨some 12, .mv (.t 40), none⟩])
  (.seq (.reg [⟨some 42, .mv (.t 1), none⟩, ⟨some 43, .call (.c (.fn 32 [])) [(.t 42)], none⟩, ⟨some 41, .mv (.t 43), none⟩, ⟨some 44, .ext (.t 41) 0, none⟩, ⟨some 45, .ext (.t 41) 1, none⟩, ⟨some 13, .mv (.t 44), none⟩, ⟨some 14, .mv (.t 45), none⟩])
  (.seq (.reg [⟨some 47, .mv (.t 1), none⟩, ⟨some 48, .call (.c (.fn 33 [])) [(.t 47)], none⟩, ⟨some 46, .mv (.t 48), none⟩, ⟨some 49, .ext (.t 46) 0, none⟩, ⟨some 50, .ext (.t 46) 1, none⟩, ⟨some 15, .mv (.t 49), none⟩, ⟨some 16, .mv (.t 50), none⟩])
  (.seq (.reg [⟨some 51, .mv (.t 5), none⟩, ⟨some 52, .mv (.t 7), none⟩, ⟨some 53, .bin .eql (.t 51) (.t 52), none⟩, ⟨some 54, .mv (.t 53), none⟩, ⟨some 55, .mv (.t 6), (some (54, true))⟩, ⟨some 56, .mv (.t 8), (some (54, true))⟩, ⟨some 57, .bin .eql (.t 55) (.t 56), (some (54, true))⟩, ⟨some 58, .pick (.t 54) (.t 57) (.c (.x (.bool false))), none⟩, ⟨some 59, .mv (.t 58), none⟩, ⟨some 60, .mv (.t 9), (some (59, true))⟩, ⟨some 61, .mv (.t 11), (some (59, true))⟩, ⟨some 62, .bin .eql (.t 60) (.t 61), (some (59, true))⟩, ⟨some 63, .pick (.t 59) (.t 62) (.c (.x (.bool false))), none⟩, ⟨some 64, .mv (.t 63), none⟩, ⟨some 65, .mv (.t 10), (some (64, true))⟩, ⟨some 66, .mv (.t 12), (some (64, true))⟩, ⟨some 67, .bin .eql (.t 65) (.t 66), (some (64, true))⟩, ⟨some 68, .pick (.t 64) (.t 67) (.c (.x (.bool false))), none⟩, ⟨some 69, .mv (.t 68), none⟩, ⟨some 70, .mv (.t 13), (some (69, true))⟩, ⟨some 71, .mv (.t 15), (some (69, true))⟩, ⟨some 72, .eq .bool false (.t 70) (.t 71), (some (69, true))⟩, ⟨some 73, .pick (.t 69) (.t 72) (.c (.x (.bool false))), none⟩, ⟨some 74, .mv (.t 73), none⟩, ⟨some 75, .mv (.t 14), (some (74, true))⟩, ⟨some 76, .mv (.t 16), (some (74, true))⟩, ⟨some 77, .bin .eql (.t 75) (.t 76), (some (74, true))⟩, ⟨some 78, .pick (.t 74) (.t 77) (.c (.x (.bool false))), none⟩, ⟨some 79, .mv (.t 78), none⟩, ⟨some 80, .mv (.t 0), (some (79, true))⟩, ⟨some 81, .bin .gtr (.t 80) (.c (.x (.int .i64 (0)))), (some (79, true))⟩, ⟨some 82, .call (.c (.fn 34 [])) [(.t 81)], (some (79, true))⟩, ⟨some 83, .mv (.t 0), (some (79, true))⟩, ⟨some 84, .bin .gtr (.t 83) (.c (.x (.int .i64 (0)))), (some (79, true))⟩, ⟨some 85, .call (.c (.fn 35 [])) [(.t 84)], (some (79, true))⟩, ⟨some 86, .bin .eql (.t 82) (.t 85), (some (79, true))⟩, ⟨some 87, .pick (.t 79) (.t 86) (.c (.x (.bool false))), none⟩, ⟨some 88, .mv (.t 87), none⟩, ⟨some 89, .call (.c (.fn 27 [])) [], (some (88, true))⟩, ⟨some 90, .pick (.t 88) (.t 89) (.c (.x (.bool false))), none⟩, ⟨some 4, .mv (.t 90), none⟩])
  .ret)))))))))⟩
theorem c7 : compFn Try.prog Try.f7 = some i7 := by kernel_rfl
/-- bothy/bothylaw02.NumBack -/
def i8 : IFn := ⟨71, [.tmp 4], (.seq (.reg [⟨some 4, .mv (.c (.x (.bool false))), none⟩])
  (.seq (.seq (.reg [⟨some 13, .mv (.t 1), none⟩, ⟨some 14, .len true (.t 13), none⟩, ⟨some 15, .bin .gtr (.t 14) (.c (.x (.int .i64 (100)))), none⟩])
  (.cond (.t 15)
    (.seq (.reg [⟨some 16, .call (.c (.fn 27 [])) [], none⟩, ⟨some 4, .mv (.t 16), none⟩])
    .ret)
    .skip))
  (.seq (.reg [⟨some 18, .mv (.t 0), none⟩, ⟨some 19, .cvi .i64 (.t 18), none⟩, ⟨some 20, .call (.c (.fn 28 [])) [(.t 19)], none⟩, ⟨some 17, .mv (.t 20), none⟩, ⟨some 21, .ext (.t 17) 0, none⟩, ⟨some 22, .ext (.t 17) 1, none⟩, ⟨some 5, .mv (.t 21), none⟩, ⟨some 6, .mv (.t 22), none⟩])
  (.seq (.reg [⟨some 24, .mv (.t 5), none⟩, ⟨some 25, .call (.c (.fn 30 [])) [(.t 24)], none⟩, ⟨some 23, .mv (.t 25), none⟩, ⟨some 26, .ext (.t 23) 0, none⟩, ⟨some 27, .ext (.t 23) 1, none⟩, ⟨some 7, .mv (.t 26), none⟩, ⟨some 8, .mv (.t 27), none⟩])
  (.seq (.reg [⟨some 29, .mv (.t 1), none⟩, ⟨some 30, .call (.c (.fn 30 [])) [(.t 29)], none⟩, ⟨some 28, .mv (.t 30), none⟩, ⟨some 31, .ext (.t 28) 0, none⟩, ⟨some 32, .ext (.t 28) 1, none⟩, ⟨some 9, .mv (.t 31), none⟩, ⟨some 10, .mv (.t 32), none⟩])
  (.seq (.reg [⟨some 34, .mv (.t 9), none⟩, ⟨some 35, .call (.c (.fn 28 [])) [(.t 34)], none⟩, ⟨some 33, .mv (.t 35), none⟩, ⟨some 36, .ext (.t 33) 0, none⟩, ⟨some 37, .ext (.t 33) 1, none⟩, ⟨some 11, .mv (.t 36), none⟩, ⟨some 12, .mv (.t 37), none⟩])
  (.seq (.reg [⟨some 38, .mv (.t 6), none⟩, ⟨some 39, .bin .eql (.t 38) (.c (.x (.int .i64 (0)))), none⟩, ⟨some 40, .mv (.t 39), none⟩, ⟨some 41, .mv (.t 7), (some (40, true))⟩, ⟨some 42, .mv (.t 0), (some (40, true))⟩, ⟨some 43, .cvi .i64 (.t 42), (some (40, true))⟩, ⟨some 44, .bin .eql (.t 41) (.t 43), (some (40, true))⟩, ⟨some 45, .pick (.t 40) (.t 44) (.c (.x (.bool false))), none⟩, ⟨some 46, .mv (.t 45), none⟩, ⟨some 47, .mv (.t 8), (some (46, true))⟩, ⟨some 48, .bin .eql (.t 47) (.c (.x (.int .i64 (0)))), (some (46, true))⟩, ⟨some 49, .pick (.t 46) (.t 48) (.c (.x (.bool false))), none⟩, ⟨some 50, .mv (.t 49), none⟩, ⟨some 51, .mv (.t 5), (some (50, true))⟩, ⟨some 52, .len true (.t 51), (some (50, true))⟩, ⟨some 53, .bin .leq (.t 52) (.c (.x (.int .i64 (4)))), (some (50, true))⟩, ⟨some 54, .pick (.t 50) (.t 53) (.c (.x (.bool false))), none⟩, ⟨some 55, .mv (.t 54), none⟩, ⟨some 56, .mv (.t 10), (some (55, true))⟩, ⟨some 57, .bin .neq (.t 56) (.c (.x (.int .i64 (0)))), (some (55, true))⟩, ⟨some 58, .mv (.t 57), (some (55, true))⟩, ⟨some 59, .mv (.t 11), (some (58, false))⟩, ⟨some 60, .mv (.t 1), (some (58, false))⟩, ⟨some 61, .bin .eql (.t 59) (.t 60), (some (58, false))⟩, ⟨some 62, .mv (.t 61), (some (58, false))⟩, ⟨some 63, .mv (.t 12), (some (62, true))⟩, ⟨some 64, .bin .eql (.t 63) (.c (.x (.int .i64 (0)))), (some (62, true))⟩, ⟨some 65, .pick (.t 62) (.t 64) (.c (.x (.bool false))), (some (58, false))⟩, ⟨some 66, .pick (.t 58) (.c (.x (.bool true))) (.t 65), (some (55, true))⟩, ⟨some 67, .pick (.t 55) (.t 66) (.c (.x (.bool false))), none⟩, ⟨some 68, .mv (.t 67), none⟩, ⟨some 69, .call (.c (.fn 27 [])) [], (some (68, true))⟩, ⟨some 70, .pick (.t 68) (.t 69) (.c (.x (.bool false))), none⟩, ⟨some 4, .mv (.t 70), none⟩])
  .ret)))))))⟩
theorem c8 : compFn Try.prog Try.f8 = some i8 := by kernel_rfl
/-- bothy/bothylaw02.NumOrder -/
def i9 : IFn := ⟨70, [.tmp 4], (.seq (.reg [⟨some 4, .mv (.c (.x (.bool false))), none⟩])
  (.seq (.reg [⟨some 10, .mv (.t 0), none⟩, ⟨some 11, .cvi .i64 (.t 10), none⟩, ⟨some 12, .call (.c (.fn 28 [])) [(.t 11)], none⟩, ⟨some 9, .mv (.t 12), none⟩, ⟨some 13, .ext (.t 9) 0, none⟩, ⟨some 14, .ext (.t 9) 1, none⟩, ⟨some 5, .mv (.t 13), none⟩, ⟨some 6, .mv (.t 14), none⟩])
  (.seq (.reg [⟨some 16, .mv (.t 1), none⟩, ⟨some 17, .cvi .i64 (.t 16), none⟩, ⟨some 18, .call (.c (.fn 28 [])) [(.t 17)], none⟩, ⟨some 15, .mv (.t 18), none⟩, ⟨some 19, .ext (.t 15) 0, none⟩, ⟨some 20, .ext (.t 15) 1, none⟩, ⟨some 7, .mv (.t 19), none⟩, ⟨some 8, .mv (.t 20), none⟩])
  (.seq (.seq (.reg [⟨some 21, .mv (.t 6), none⟩, ⟨some 22, .bin .neq (.t 21) (.c (.x (.int .i64 (0)))), none⟩, ⟨some 23, .mv (.t 22), none⟩, ⟨some 24, .mv (.t 8), (some (23, false))⟩, ⟨some 25, .bin .neq (.t 24) (.c (.x (.int .i64 (0)))), (some (23, false))⟩, ⟨some 26, .pick (.t 23) (.c (.x (.bool true))) (.t 25), none⟩])
  (.cond (.t 26)
    (.seq (.reg [⟨some 4, .mv (.c (.x (.bool false))), none⟩])
    .ret)
    .skip))
  (.seq (.seq (.reg [⟨some 27, .mv (.t 0), none⟩, ⟨some 28, .bin .geq (.t 27) (.c (.x (.int .i32 (0)))), none⟩, ⟨some 29, .mv (.t 28), none⟩, ⟨some 30, .mv (.t 1), (some (29, true))⟩, ⟨some 31, .mv (.t 0), (some (29, true))⟩, ⟨some 32, .bin .geq (.t 30) (.t 31), (some (29, true))⟩, ⟨some 33, .pick (.t 29) (.t 32) (.c (.x (.bool false))), none⟩, ⟨some 34, .mv (.t 33), none⟩, ⟨some 35, .mv (.t 0), (some (34, false))⟩, ⟨some 36, .bin .lss (.t 35) (.c (.x (.int .i32 (0)))), (some (34, false))⟩, ⟨some 37, .mv (.t 36), (some (34, false))⟩, ⟨some 38, .mv (.t 1), (some (37, true))⟩, ⟨some 39, .mv (.t 0), (some (37, true))⟩, ⟨some 40, .bin .leq (.t 38) (.t 39), (some (37, true))⟩, ⟨some 41, .pick (.t 37) (.t 40) (.c (.x (.bool false))), (some (34, false))⟩, ⟨some 42, .pick (.t 34) (.c (.x (.bool true))) (.t 41), none⟩])
  (.cond (.t 42)
    (.seq (.reg [⟨some 43, .mv (.t 5), none⟩, ⟨some 44, .len true (.t 43), none⟩, ⟨some 45, .mv (.t 7), none⟩, ⟨some 46, .len true (.t 45), none⟩, ⟨some 47, .bin .leq (.t 44) (.t 46), none⟩, ⟨some 48, .mv (.t 47), none⟩, ⟨some 49, .mv (.t 5), (some (48, true))⟩, ⟨some 50, .mv (.t 7), (some (48, true))⟩, ⟨some 51, .bin .eql (.t 49) (.t 50), (some (48, true))⟩, ⟨some 52, .mv (.t 0), (some (48, true))⟩, ⟨some 53, .mv (.t 1), (some (48, true))⟩, ⟨some 54, .bin .eql (.t 52) (.t 53), (some (48, true))⟩, ⟨some 55, .eq .bool false (.t 51) (.t 54), (some (48, true))⟩, ⟨some 56, .pick (.t 48) (.t 55) (.c (.x (.bool false))), none⟩, ⟨some 57, .mv (.t 56), none⟩, ⟨some 58, .call (.c (.fn 27 [])) [], (some (57, true))⟩, ⟨some 59, .pick (.t 57) (.t 58) (.c (.x (.bool false))), none⟩, ⟨some 4, .mv (.t 59), none⟩])
    .ret)
    .skip))
  (.seq (.reg [⟨some 60, .mv (.t 5), none⟩, ⟨some 61, .mv (.t 7), none⟩, ⟨some 62, .bin .eql (.t 60) (.t 61), none⟩, ⟨some 63, .mv (.t 0), none⟩, ⟨some 64, .mv (.t 1), none⟩, ⟨some 65, .bin .eql (.t 63) (.t 64), none⟩, ⟨some 66, .eq .bool false (.t 62) (.t 65), none⟩, ⟨some 67, .mv (.t 66), none⟩, ⟨some 68, .call (.c (.fn 27 [])) [], (some (67, true))⟩, ⟨some 69, .pick (.t 67) (.t 68) (.c (.x (.bool false))), none⟩, ⟨some 4, .mv (.t 69), none⟩])
  .ret))))))⟩
theorem c9 : compFn Try.prog Try.f9 = some i9 := by kernel_rfl
/-- bothy/bothylaw46.SyncPlays -/
def i10 : IFn := ⟨148, [.tmp 6], (.seq (.reg [⟨some 6, .mv (.c (.x (.bool false))), none⟩])
  (.seq (.seq (.reg [⟨some 18, .mv (.t 1), none⟩, ⟨some 19, .len false (.t 18), none⟩, ⟨some 20, .bin .gtr (.t 19) (.c (.x (.int .i64 (30)))), none⟩, ⟨some 21, .mv (.t 20), none⟩, ⟨some 22, .mv (.t 2), (some (21, false))⟩, ⟨some 23, .len false (.t 22), (some (21, false))⟩, ⟨some 24, .bin .gtr (.t 23) (.c (.x (.int .i64 (30)))), (some (21, false))⟩, ⟨some 25, .pick (.t 21) (.c (.x (.bool true))) (.t 24), none⟩])
  (.cond (.t 25)
    (.seq (.reg [⟨some 26, .call (.c (.fn 36 [])) [], none⟩, ⟨some 6, .mv (.t 26), none⟩])
    .ret)
    .skip))
  (.seq (.reg [⟨some 28, .mv (.t 0), none⟩, ⟨some 29, .call (.c (.fn 37 [])) [(.t 28)], none⟩, ⟨some 27, .mv (.t 29), none⟩, ⟨some 30, .ext (.t 27) 0, none⟩, ⟨some 31, .ext (.t 27) 1, none⟩, ⟨some 7, .mv (.t 30), none⟩, ⟨some 8, .mv (.t 31), none⟩])
  (.seq (.seq (.reg [⟨some 32, .mv (.t 0), none⟩, ⟨some 33, .bin .lss (.t 32) (.c (.x (.int .i64 (1)))), none⟩, ⟨some 34, .mv (.t 33), none⟩, ⟨some 35, .mv (.t 0), (some (34, false))⟩, ⟨some 36, .bin .gtr (.t 35) (.c (.x (.int .i64 (1024)))), (some (34, false))⟩, ⟨some 37, .pick (.t 34) (.c (.x (.bool true))) (.t 36), none⟩])
  (.cond (.t 37)
    (.seq (.reg [⟨some 38, .mv (.t 7), none⟩, ⟨some 39, .eq .ptr false (.t 38) (.c (.x .nilp)), none⟩, ⟨some 40, .mv (.t 39), none⟩, ⟨some 41, .mv (.t 8), (some (40, true))⟩, ⟨some 42, .bin .eql (.t 41) (.c (.x (.int .i64 (1)))), (some (40, true))⟩, ⟨some 43, .pick (.t 40) (.t 42) (.c (.x (.bool false))), none⟩, ⟨some 44, .mv (.t 43), none⟩, ⟨some 45, .call (.c (.fn 36 [])) [], (some (44, true))⟩, ⟨some 46, .pick (.t 44) (.t 45) (.c (.x (.bool false))), none⟩, ⟨some 6, .mv (.t 46), none⟩])
    .ret)
    .skip))
  (.seq (.seq (.reg [⟨some 47, .mv (.t 7), none⟩, ⟨some 48, .eq .ptr false (.t 47) (.c (.x .nilp)), none⟩, ⟨some 49, .mv (.t 48), none⟩, ⟨some 50, .mv (.t 8), (some (49, false))⟩, ⟨some 51, .bin .neq (.t 50) (.c (.x (.int .i64 (0)))), (some (49, false))⟩, ⟨some 52, .pick (.t 49) (.c (.x (.bool true))) (.t 51), none⟩])
  (.cond (.t 52)
    (.seq (.reg [⟨some 6, .mv (.c (.x (.bool false))), none⟩])
    .ret)
    .skip))
  (.seq (.reg [⟨some 9, .mv (.c (.x .nils)), none⟩])
  (.seq (.seq (.reg [⟨some 10, .mv (.c (.x (.int .i64 (0)))), none⟩])
  (.block 0
    (.loop
      (.seq (.seq (.reg [⟨some 53, .mv (.t 10), none⟩, ⟨some 54, .mv (.t 1), none⟩, ⟨some 55, .len false (.t 54), none⟩, ⟨some 56, .bin .lss (.t 53) (.t 55), none⟩])
      (.cond (.t 56)
        .skip
        (.exit 0)))
      (.seq (.block 1
        (.seq (.reg [⟨some 59, .mv (.t 1), none⟩, ⟨some 60, .mv (.t 10), none⟩, ⟨some 61, .iad 7 (.t 59) (.t 60), none⟩, ⟨some 62, .ld 7 true (.t 61), none⟩, ⟨some 11, .box (.c (.agg [.x (.int .i64 (0)), .x (.int .i64 (0)), .x (.str []), .x .nils, .x (.str []), .x .nils, .x (.str [])])), none⟩, ⟨none, .sto 7 (.t 11) (.t 62), none⟩])
        (.seq (.seq (.reg [⟨some 63, .mv (.t 7), none⟩, ⟨some 64, .ld 7 true (.t 11), none⟩, ⟨some 65, .call (.c (.fn 38 [])) [(.t 63), (.t 64)], none⟩, ⟨some 66, .mv (.t 10), none⟩, ⟨some 67, .bin .add (.t 66) (.c (.x (.int .i64 (1)))), none⟩, ⟨some 68, .bin .neq (.t 65) (.t 67), none⟩])
        (.cond (.t 68)
          (.seq (.reg [⟨some 6, .mv (.c (.x (.bool false))), none⟩])
          .ret)
          .skip))
        (.seq (.reg [⟨some 69, .mv (.t 10), none⟩, ⟨some 70, .bin .add (.t 69) (.c (.x (.int .i64 (1)))), none⟩, ⟨some 71, .fad 0 (.t 11), none⟩, ⟨none, .sto 1 (.t 71) (.t 70), none⟩])
        (.seq (.reg [⟨some 72, .mv (.t 9), none⟩, ⟨some 73, .ld 7 true (.t 11), none⟩, ⟨some 74, .bsl 70 7 1 [(.t 73)], none⟩, ⟨some 75, .app 70 7 112 (.t 72) (.t 74), none⟩, ⟨some 9, .mv (.t 75), none⟩])
        (.seq (.seq (.reg [⟨some 12, .mv (.c (.x (.int .i64 (0)))), none⟩])
        (.block 2
          (.loop
            (.seq (.seq (.reg [⟨some 76, .mv (.t 12), none⟩, ⟨some 77, .mv (.t 2), none⟩, ⟨some 78, .len false (.t 77), none⟩, ⟨some 79, .bin .lss (.t 76) (.t 78), none⟩])
            (.cond (.t 79)
              .skip
              (.exit 2)))
            (.seq (.block 3
              (.seq (.reg [⟨some 83, .mv (.t 7), none⟩, ⟨some 84, .mv (.t 2), none⟩, ⟨some 85, .mv (.t 12), none⟩, ⟨some 86, .iad 1 (.t 84) (.t 85), none⟩, ⟨some 87, .ld 1 false (.t 86), none⟩, ⟨some 88, .call (.c (.fn 39 [])) [(.t 83), (.t 87)], none⟩, ⟨some 82, .mv (.t 88), none⟩, ⟨some 89, .ext (.t 82) 0, none⟩, ⟨some 90, .ext (.t 82) 1, none⟩, ⟨some 91, .ext (.t 82) 2, none⟩, ⟨some 13, .mv (.t 89), none⟩, ⟨some 14, .mv (.t 90), none⟩, ⟨some 15, .mv (.t 91), none⟩])
              (.seq (.reg [⟨some 92, .mv (.t 2), none⟩, ⟨some 93, .mv (.t 12), none⟩, ⟨some 94, .iad 1 (.t 92) (.t 93), none⟩, ⟨some 95, .ld 1 false (.t 94), none⟩, ⟨some 96, .mv (.t 9), none⟩, ⟨some 97, .len false (.t 96), none⟩, ⟨some 98, .mv (.t 0), none⟩, ⟨some 99, .bin .sub (.t 97) (.t 98), none⟩, ⟨some 100, .mnx true (.c (.x (.int .i64 (0)))) (.t 99), none⟩, ⟨some 101, .bin .geq (.t 95) (.t 100), none⟩, ⟨some 102, .mv (.t 101), none⟩, ⟨some 103, .mv (.t 2), (some (102, true))⟩, ⟨some 104, .mv (.t 12), (some (102, true))⟩, ⟨some 105, .iad 1 (.t 103) (.t 104), (some (102, true))⟩, ⟨some 106, .ld 1 false (.t 105), (some (102, true))⟩, ⟨some 107, .mv (.t 9), (some (102, true))⟩, ⟨some 108, .len false (.t 107), (some (102, true))⟩, ⟨some 109, .bin .leq (.t 106) (.t 108), (some (102, true))⟩, ⟨some 110, .pick (.t 102) (.t 109) (.c (.x (.bool false))), none⟩, ⟨some 16, .mv (.t 110), none⟩])
              (.seq (.reg [⟨some 17, .mv (.c (.x .nils)), none⟩])
              (.seq (.seq (.reg [⟨some 111, .mv (.t 16), none⟩])
              (.cond (.t 111)
                (.reg [⟨some 112, .mv (.t 9), none⟩, ⟨some 113, .mv (.t 2), none⟩, ⟨some 114, .mv (.t 12), none⟩, ⟨some 115, .iad 1 (.t 113) (.t 114), none⟩, ⟨some 116, .ld 1 false (.t 115), none⟩, ⟨some 117, .slc 7 (.t 112) (some (.t 116)) none none, none⟩, ⟨some 17, .mv (.t 117), none⟩])
                .skip))
              (.seq (.reg [⟨some 118, .mv (.t 13), none⟩, ⟨some 119, .mv (.t 17), none⟩, ⟨some 120, .call (.c (.fn 40 [])) [(.t 118), (.t 119)], none⟩, ⟨some 121, .un .not (.t 120), none⟩, ⟨some 122, .mv (.t 121), none⟩, ⟨some 123, .mv (.t 14), (some (122, false))⟩, ⟨some 124, .mv (.t 9), (some (122, false))⟩, ⟨some 125, .len false (.t 124), (some (122, false))⟩, ⟨some 126, .bin .neq (.t 123) (.t 125), (some (122, false))⟩, ⟨some 127, .pick (.t 122) (.c (.x (.bool true))) (.t 126), none⟩, ⟨some 128, .mv (.t 127), none⟩, ⟨some 129, .mv (.t 15), (some (128, false))⟩, ⟨some 130, .mv (.t 16), (some (128, false))⟩, ⟨some 131, .eq .bool true (.t 129) (.t 130), (some (128, false))⟩, ⟨some 132, .pick (.t 128) (.c (.x (.bool true))) (.t 131), none⟩])
              (.cond (.t 132)
                (.seq (.reg [⟨some 6, .mv (.c (.x (.bool false))), none⟩])
                .ret)
                .skip)))))))
            (.reg [⟨some 80, .mv (.t 12), none⟩, ⟨some 81, .bin .add (.t 80) (.c (.x (.int .i64 (1)))), none⟩, ⟨some 12, .mv (.t 81), none⟩]))))))
        (.seq (.reg [⟨some 133, .mv (.t 7), none⟩, ⟨some 134, .call (.c (.fn 41 [])) [(.t 133)], none⟩, ⟨some 135, .mv (.t 9), none⟩, ⟨some 136, .len false (.t 135), none⟩, ⟨some 137, .mv (.t 0), none⟩, ⟨some 138, .mnx false (.t 136) (.t 137), none⟩, ⟨some 139, .bin .neq (.t 134) (.t 138), none⟩, ⟨some 140, .mv (.t 139), none⟩, ⟨some 141, .mv (.t 7), (some (140, false))⟩, ⟨some 142, .call (.c (.fn 42 [])) [(.t 141)], (some (140, false))⟩, ⟨some 143, .mv (.t 9), (some (140, false))⟩, ⟨some 144, .len false (.t 143), (some (140, false))⟩, ⟨some 145, .bin .neq (.t 142) (.t 144), (some (140, false))⟩, ⟨some 146, .pick (.t 140) (.c (.x (.bool true))) (.t 145), none⟩])
        (.cond (.t 146)
          (.seq (.reg [⟨some 6, .mv (.c (.x (.bool false))), none⟩])
          .ret)
          .skip))))))))
      (.reg [⟨some 57, .mv (.t 10), none⟩, ⟨some 58, .bin .add (.t 57) (.c (.x (.int .i64 (1)))), none⟩, ⟨some 10, .mv (.t 58), none⟩]))))))
  (.seq (.reg [⟨some 147, .call (.c (.fn 36 [])) [], none⟩, ⟨some 6, .mv (.t 147), none⟩])
  .ret))))))))⟩
theorem c10 : compFn Try.prog Try.f10 = some i10 := by kernel_rfl
/-- bothy/bothylaw46.SyncFollows -/
def i11 : IFn := ⟨92, [.tmp 4], (.seq (.reg [⟨some 4, .mv (.c (.x (.bool false))), none⟩])
  (.seq (.seq (.reg [⟨some 17, .mv (.t 0), none⟩, ⟨some 18, .len false (.t 17), none⟩, ⟨some 19, .bin .gtr (.t 18) (.c (.x (.int .i64 (60)))), none⟩, ⟨some 20, .mv (.t 19), none⟩, ⟨some 21, .mv (.t 1), (some (20, false))⟩, ⟨some 22, .len false (.t 21), (some (20, false))⟩, ⟨some 23, .bin .gtr (.t 22) (.c (.x (.int .i64 (60)))), (some (20, false))⟩, ⟨some 24, .pick (.t 20) (.c (.x (.bool true))) (.t 23), none⟩])
  (.cond (.t 24)
    (.seq (.reg [⟨some 25, .call (.c (.fn 36 [])) [], none⟩, ⟨some 4, .mv (.t 25), none⟩])
    .ret)
    .skip))
  (.seq (.reg [⟨some 27, .call (.c (.fn 37 [])) [(.c (.x (.int .i64 (16))))], none⟩, ⟨some 26, .mv (.t 27), none⟩, ⟨some 28, .ext (.t 26) 0, none⟩, ⟨some 29, .ext (.t 26) 1, none⟩, ⟨some 5, .mv (.t 28), none⟩, ⟨some 6, .mv (.t 29), none⟩])
  (.seq (.seq (.reg [⟨some 30, .mv (.t 5), none⟩, ⟨some 31, .eq .ptr false (.t 30) (.c (.x .nilp)), none⟩])
  (.cond (.t 31)
    (.seq (.reg [⟨some 4, .mv (.c (.x (.bool false))), none⟩])
    .ret)
    .skip))
  (.seq (.reg [⟨some 7, .mv (.c (.x .nils)), none⟩, ⟨some 8, .mv (.c (.x .nils)), none⟩])
  (.seq (.reg [⟨some 9, .mv (.c (.x (.int .i64 (0)))), none⟩, ⟨some 10, .mv (.c (.x (.int .i64 (0)))), none⟩])
  (.seq (.seq (.reg [⟨some 11, .mv (.c (.x (.int .i64 (0)))), none⟩])
  (.block 0
    (.loop
      (.seq (.seq (.reg [⟨some 32, .mv (.t 11), none⟩, ⟨some 33, .mv (.t 1), none⟩, ⟨some 34, .len false (.t 33), none⟩, ⟨some 35, .bin .lss (.t 32) (.t 34), none⟩])
      (.cond (.t 35)
        .skip
        (.exit 0)))
      (.seq (.block 1
        (.seq (.seq (.reg [⟨some 38, .mv (.t 1), none⟩, ⟨some 39, .mv (.t 11), none⟩, ⟨some 40, .iad 1 (.t 38) (.t 39), none⟩, ⟨some 41, .ld 1 false (.t 40), none⟩, ⟨some 42, .bin .rem (.t 41) (.c (.x (.int .u8 (17)))), none⟩, ⟨some 43, .cvi .i64 (.t 42), none⟩, ⟨some 12, .mv (.t 43), none⟩])
        (.block 2
          (.loop
            (.seq (.seq (.reg [⟨some 44, .mv (.t 12), none⟩, ⟨some 45, .bin .gtr (.t 44) (.c (.x (.int .i64 (0)))), none⟩, ⟨some 46, .mv (.t 45), none⟩, ⟨some 47, .mv (.t 9), (some (46, true))⟩, ⟨some 48, .mv (.t 0), (some (46, true))⟩, ⟨some 49, .len false (.t 48), (some (46, true))⟩, ⟨some 50, .bin .lss (.t 47) (.t 49), (some (46, true))⟩, ⟨some 51, .pick (.t 46) (.t 50) (.c (.x (.bool false))), none⟩])
            (.cond (.t 51)
              .skip
              (.exit 2)))
            (.seq (.block 3
              (.seq (.reg [⟨some 54, .mv (.t 0), none⟩, ⟨some 55, .mv (.t 9), none⟩, ⟨some 56, .iad 7 (.t 54) (.t 55), none⟩, ⟨some 57, .ld 7 true (.t 56), none⟩, ⟨some 13, .box (.c (.agg [.x (.int .i64 (0)), .x (.int .i64 (0)), .x (.str []), .x .nils, .x (.str []), .x .nils, .x (.str [])])), none⟩, ⟨none, .sto 7 (.t 13) (.t 57), none⟩])
              (.seq (.reg [⟨some 58, .mv (.t 9), none⟩, ⟨some 59, .bin .add (.t 58) (.c (.x (.int .i64 (1)))), none⟩, ⟨some 60, .fad 0 (.t 13), none⟩, ⟨none, .sto 1 (.t 60) (.t 59), none⟩])
              (.seq (.reg [⟨some 61, .mv (.t 8), none⟩, ⟨some 62, .ld 7 true (.t 13), none⟩, ⟨some 63, .bsl 70 7 1 [(.t 62)], none⟩, ⟨some 64, .app 70 7 112 (.t 61) (.t 63), none⟩, ⟨some 8, .mv (.t 64), none⟩])
              (.seq (.reg [⟨some 65, .mv (.t 5), none⟩, ⟨some 66, .mv (.t 0), none⟩, ⟨some 67, .mv (.t 9), none⟩, ⟨some 68, .iad 7 (.t 66) (.t 67), none⟩, ⟨some 69, .ld 7 true (.t 68), none⟩, ⟨some 70, .call (.c (.fn 38 [])) [(.t 65), (.t 69)], none⟩])
              (.reg [⟨some 71, .mv (.t 9), none⟩, ⟨some 72, .bin .add (.t 71) (.c (.x (.int .i64 (1)))), none⟩, ⟨some 9, .mv (.t 72), none⟩]))))))
            (.reg [⟨some 52, .mv (.t 12), none⟩, ⟨some 53, .bin .sub (.t 52) (.c (.x (.int .i64 (1)))), none⟩, ⟨some 12, .mv (.t 53), none⟩]))))))
        (.seq (.reg [⟨some 74, .mv (.t 5), none⟩, ⟨some 75, .mv (.t 10), none⟩, ⟨some 76, .call (.c (.fn 39 [])) [(.t 74), (.t 75)], none⟩, ⟨some 73, .mv (.t 76), none⟩, ⟨some 77, .ext (.t 73) 0, none⟩, ⟨some 78, .ext (.t 73) 1, none⟩, ⟨some 79, .ext (.t 73) 2, none⟩, ⟨some 14, .mv (.t 77), none⟩, ⟨some 15, .mv (.t 78), none⟩, ⟨some 16, .mv (.t 79), none⟩])
        (.seq (.seq (.reg [⟨some 80, .mv (.t 16), none⟩, ⟨some 81, .un .not (.t 80), none⟩])
        (.cond (.t 81)
          (.seq (.reg [⟨some 4, .mv (.c (.x (.bool false))), none⟩])
          .ret)
          .skip))
        (.seq (.reg [⟨some 82, .mv (.t 7), none⟩, ⟨some 83, .mv (.t 14), none⟩, ⟨some 84, .app 70 7 112 (.t 82) (.t 83), none⟩, ⟨some 7, .mv (.t 84), none⟩])
        (.reg [⟨some 85, .mv (.t 15), none⟩, ⟨some 10, .mv (.t 85), none⟩]))))))
      (.reg [⟨some 36, .mv (.t 11), none⟩, ⟨some 37, .bin .add (.t 36) (.c (.x (.int .i64 (1)))), none⟩, ⟨some 11, .mv (.t 37), none⟩]))))))
  (.seq (.reg [⟨some 86, .mv (.t 7), none⟩, ⟨some 87, .mv (.t 8), none⟩, ⟨some 88, .call (.c (.fn 40 [])) [(.t 86), (.t 87)], none⟩, ⟨some 89, .mv (.t 88), none⟩, ⟨some 90, .call (.c (.fn 36 [])) [], (some (89, true))⟩, ⟨some 91, .pick (.t 89) (.t 90) (.c (.x (.bool false))), none⟩, ⟨some 4, .mv (.t 91), none⟩])
  .ret))))))))⟩
theorem c11 : compFn Try.prog Try.f11 = some i11 := by kernel_rfl
/-- bothy/bothylaw46.SyncNone -/
def i12 : IFn := ⟨38, [.tmp 2], (.seq (.reg [⟨some 2, .mv (.c (.x (.bool false))), none⟩])
  (.seq (.reg [⟨some 3, .mv (.c (.x .nilp)), none⟩])
  (.seq (.reg [⟨some 8, .mv (.t 3), none⟩, ⟨some 9, .mv (.t 0), none⟩, ⟨some 10, .call (.c (.fn 39 [])) [(.t 8), (.t 9)], none⟩, ⟨some 7, .mv (.t 10), none⟩, ⟨some 11, .ext (.t 7) 0, none⟩, ⟨some 12, .ext (.t 7) 1, none⟩, ⟨some 13, .ext (.t 7) 2, none⟩, ⟨some 4, .mv (.t 11), none⟩, ⟨some 5, .mv (.t 12), none⟩, ⟨some 6, .mv (.t 13), none⟩])
  (.seq (.reg [⟨some 14, .mv (.t 3), none⟩, ⟨some 15, .call (.c (.fn 43 [])) [(.c (.x (.int .i64 (1))))], none⟩, ⟨some 16, .call (.c (.fn 38 [])) [(.t 14), (.t 15)], none⟩, ⟨some 17, .bin .eql (.t 16) (.c (.x (.int .i64 (0)))), none⟩, ⟨some 18, .mv (.t 17), none⟩, ⟨some 19, .mv (.t 4), (some (18, true))⟩, ⟨some 20, .len false (.t 19), (some (18, true))⟩, ⟨some 21, .mv (.t 5), (some (18, true))⟩, ⟨some 22, .bin .add (.t 20) (.t 21), (some (18, true))⟩, ⟨some 23, .mv (.t 3), (some (18, true))⟩, ⟨some 24, .call (.c (.fn 41 [])) [(.t 23)], (some (18, true))⟩, ⟨some 25, .bin .add (.t 22) (.t 24), (some (18, true))⟩, ⟨some 26, .mv (.t 3), (some (18, true))⟩, ⟨some 27, .call (.c (.fn 42 [])) [(.t 26)], (some (18, true))⟩, ⟨some 28, .bin .add (.t 25) (.t 27), (some (18, true))⟩, ⟨some 29, .bin .eql (.t 28) (.c (.x (.int .i64 (0)))), (some (18, true))⟩, ⟨some 30, .pick (.t 18) (.t 29) (.c (.x (.bool false))), none⟩, ⟨some 31, .mv (.t 30), none⟩, ⟨some 32, .mv (.t 6), (some (31, true))⟩, ⟨some 33, .un .not (.t 32), (some (31, true))⟩, ⟨some 34, .pick (.t 31) (.t 33) (.c (.x (.bool false))), none⟩, ⟨some 35, .mv (.t 34), none⟩, ⟨some 36, .call (.c (.fn 36 [])) [], (some (35, true))⟩, ⟨some 37, .pick (.t 35) (.t 36) (.c (.x (.bool false))), none⟩, ⟨some 2, .mv (.t 37), none⟩])
  .ret))))⟩
theorem c12 : compFn Try.prog Try.f12 = some i12 := by kernel_rfl
/-- bothy/bothylaw14.awake -/
def i13 : IFn := ⟨40, [.tmp 0], (.seq (.reg [⟨some 0, .mv (.c (.x (.bool false))), none⟩])
  (.seq (.reg [⟨some 1, .call (.c (.fn 16 [])) [(.c (.x .nils))], none⟩, ⟨some 2, .bin .eql (.t 1) (.c (.x (.int .i64 (1)))), none⟩, ⟨some 3, .mv (.t 2), none⟩, ⟨some 4, .bsl 3 1 2 [(.c (.x (.int .i64 (0)))), (.c (.x (.int .i64 (2))))], (some (3, true))⟩, ⟨some 5, .call (.c (.fn 18 [])) [(.t 4)], (some (3, true))⟩, ⟨some 6, .bin .eql (.t 5) (.c (.x (.int .i64 (2)))), (some (3, true))⟩, ⟨some 7, .pick (.t 3) (.t 6) (.c (.x (.bool false))), none⟩, ⟨some 8, .mv (.t 7), none⟩, ⟨some 9, .bsl 3 1 2 [(.c (.x (.int .i64 (2)))), (.c (.x (.int .i64 (0))))], (some (8, true))⟩, ⟨some 10, .call (.c (.fn 16 [])) [(.t 9)], (some (8, true))⟩, ⟨some 11, .bin .eql (.t 10) (.c (.x (.int .i64 (0)))), (some (8, true))⟩, ⟨some 12, .pick (.t 8) (.t 11) (.c (.x (.bool false))), none⟩, ⟨some 13, .mv (.t 12), none⟩, ⟨some 14, .bsl 3 1 2 [(.c (.x (.int .i64 (2)))), (.c (.x (.int .i64 (1))))], (some (13, true))⟩, ⟨some 15, .call (.c (.fn 18 [])) [(.t 14)], (some (13, true))⟩, ⟨some 16, .bin .eql (.t 15) (.c (.x (.int .i64 (1)))), (some (13, true))⟩, ⟨some 17, .pick (.t 13) (.t 16) (.c (.x (.bool false))), none⟩, ⟨some 18, .mv (.t 17), none⟩, ⟨some 19, .call (.c (.fn 14 [])) [(.c (.x (.int .i64 (2))))], (some (18, true))⟩, ⟨some 20, .bin .eql (.t 19) (.c (.x (.int .i64 (2)))), (some (18, true))⟩, ⟨some 21, .pick (.t 18) (.t 20) (.c (.x (.bool false))), none⟩, ⟨some 22, .mv (.t 21), none⟩, ⟨some 23, .call (.c (.fn 14 [])) [(.c (.x (.int .i64 (0))))], (some (22, true))⟩, ⟨some 24, .bin .eql (.t 23) (.c (.x (.int .i64 (1)))), (some (22, true))⟩, ⟨some 25, .pick (.t 22) (.t 24) (.c (.x (.bool false))), none⟩, ⟨some 26, .mv (.t 25), none⟩, ⟨some 27, .call (.c (.fn 20 [])) [(.c (.x .nils))], (some (26, true))⟩, ⟨some 28, .bin .eql (.t 27) (.c (.x (.int .i64 (2)))), (some (26, true))⟩, ⟨some 29, .pick (.t 26) (.t 28) (.c (.x (.bool false))), none⟩, ⟨some 30, .mv (.t 29), none⟩, ⟨some 31, .bsl 3 1 2 [(.c (.x (.int .i64 (1)))), (.c (.x (.int .i64 (2))))], (some (30, true))⟩, ⟨some 32, .call (.c (.fn 20 [])) [(.t 31)], (some (30, true))⟩, ⟨some 33, .bin .eql (.t 32) (.c (.x (.int .i64 (2)))), (some (30, true))⟩, ⟨some 34, .pick (.t 30) (.t 33) (.c (.x (.bool false))), none⟩, ⟨some 35, .mv (.t 34), none⟩, ⟨some 36, .bsl 3 1 2 [(.c (.x (.int .i64 (1)))), (.c (.x (.int .i64 (7))))], (some (35, true))⟩, ⟨some 37, .call (.c (.fn 16 [])) [(.t 36)], (some (35, true))⟩, ⟨some 38, .bin .eql (.t 37) (.c (.x (.int .i64 (2)))), (some (35, true))⟩, ⟨some 39, .pick (.t 35) (.t 38) (.c (.x (.bool false))), none⟩, ⟨some 0, .mv (.t 39), none⟩])
  .ret))⟩
theorem c13 : compFn Try.prog Try.f13 = some i13 := by kernel_rfl
/-- bothy/three.Not -/
def i14 : IFn := ⟨8, [.tmp 2], (.seq (.reg [⟨some 2, .mv (.c (.x (.int .i64 (0)))), none⟩])
  (.seq (.seq (.reg [⟨some 3, .mv (.t 0), none⟩])
  (.block 0
    (.seq (.reg [⟨some 5, .bin .eql (.t 3) (.c (.x (.int .i64 (0)))), none⟩, ⟨some 4, .mv (.t 5), none⟩])
    (.cond (.t 4)
      (.seq (.reg [⟨some 2, .mv (.c (.x (.int .i64 (1)))), none⟩])
      .ret)
      (.seq (.reg [⟨some 7, .bin .eql (.t 3) (.c (.x (.int .i64 (1)))), none⟩, ⟨some 6, .mv (.t 7), none⟩])
      (.cond (.t 6)
        (.seq (.reg [⟨some 2, .mv (.c (.x (.int .i64 (0)))), none⟩])
        .ret)
        .skip))))))
  (.seq (.reg [⟨some 2, .mv (.c (.x (.int .i64 (2)))), none⟩])
  .ret)))⟩
theorem c14 : compFn Try.prog Try.f14 = some i14 := by kernel_rfl
/-- bothy/bothyref14.Not -/
def i15 : IFn := ⟨8, [.tmp 2], (.seq (.reg [⟨some 2, .mv (.c (.x (.int .i64 (0)))), none⟩])
  (.seq (.seq (.reg [⟨some 3, .mv (.t 0), none⟩])
  (.block 0
    (.seq (.reg [⟨some 5, .bin .eql (.t 3) (.c (.x (.int .i64 (0)))), none⟩, ⟨some 4, .mv (.t 5), none⟩])
    (.cond (.t 4)
      (.seq (.reg [⟨some 2, .mv (.c (.x (.int .i64 (1)))), none⟩])
      .ret)
      (.seq (.reg [⟨some 7, .bin .eql (.t 3) (.c (.x (.int .i64 (1)))), none⟩, ⟨some 6, .mv (.t 7), none⟩])
      (.cond (.t 6)
        (.seq (.reg [⟨some 2, .mv (.c (.x (.int .i64 (0)))), none⟩])
        .ret)
        .skip))))))
  (.seq (.reg [⟨some 2, .mv (.c (.x (.int .i64 (2)))), none⟩])
  .ret)))⟩
theorem c15 : compFn Try.prog Try.f15 = some i15 := by kernel_rfl
/-- bothy/three.And -/
def i16 : IFn := ⟨6, [.tmp 2], (.seq (.reg [⟨some 2, .mv (.c (.x (.int .i64 (0)))), none⟩])
  (.seq (.reg [⟨some 3, .mv (.t 0), none⟩, ⟨some 4, .bsl 3 1 2 [(.c (.x (.int .i64 (0)))), (.c (.x (.int .i64 (2))))], none⟩, ⟨some 5, .call (.c (.fn 44 [])) [(.t 3), (.c (.x (.int .i64 (1)))), (.t 4)], none⟩, ⟨some 2, .mv (.t 5), none⟩])
  .ret))⟩
theorem c16 : compFn Try.prog Try.f16 = some i16 := by kernel_rfl
/-- bothy/bothyref14.And -/
def i17 : IFn := ⟨9, [.tmp 2], (.seq (.reg [⟨some 2, .mv (.c (.x (.int .i64 (0)))), none⟩])
  (.seq (.block 0
    (.seq (.reg [⟨some 4, .mv (.t 0), none⟩, ⟨some 5, .call (.c (.fn 45 [])) [(.t 4), (.c (.x (.int .i64 (0))))], none⟩, ⟨some 3, .mv (.t 5), none⟩])
    (.cond (.t 3)
      (.seq (.reg [⟨some 2, .mv (.c (.x (.int .i64 (0)))), none⟩])
      .ret)
      (.seq (.reg [⟨some 7, .mv (.t 0), none⟩, ⟨some 8, .call (.c (.fn 45 [])) [(.t 7), (.c (.x (.int .i64 (2))))], none⟩, ⟨some 6, .mv (.t 8), none⟩])
      (.cond (.t 6)
        (.seq (.reg [⟨some 2, .mv (.c (.x (.int .i64 (2)))), none⟩])
        .ret)
        .skip)))))
  (.seq (.reg [⟨some 2, .mv (.c (.x (.int .i64 (1)))), none⟩])
  .ret)))⟩
theorem c17 : compFn Try.prog Try.f17 = some i17 := by kernel_rfl
/-- bothy/three.Or -/
def i18 : IFn := ⟨6, [.tmp 2], (.seq (.reg [⟨some 2, .mv (.c (.x (.int .i64 (0)))), none⟩])
  (.seq (.reg [⟨some 3, .mv (.t 0), none⟩, ⟨some 4, .bsl 3 1 2 [(.c (.x (.int .i64 (1)))), (.c (.x (.int .i64 (2))))], none⟩, ⟨some 5, .call (.c (.fn 44 [])) [(.t 3), (.c (.x (.int .i64 (0)))), (.t 4)], none⟩, ⟨some 2, .mv (.t 5), none⟩])
  .ret))⟩
theorem c18 : compFn Try.prog Try.f18 = some i18 := by kernel_rfl
/-- bothy/bothyref14.Or -/
def i19 : IFn := ⟨9, [.tmp 2], (.seq (.reg [⟨some 2, .mv (.c (.x (.int .i64 (0)))), none⟩])
  (.seq (.block 0
    (.seq (.reg [⟨some 4, .mv (.t 0), none⟩, ⟨some 5, .call (.c (.fn 45 [])) [(.t 4), (.c (.x (.int .i64 (1))))], none⟩, ⟨some 3, .mv (.t 5), none⟩])
    (.cond (.t 3)
      (.seq (.reg [⟨some 2, .mv (.c (.x (.int .i64 (1)))), none⟩])
      .ret)
      (.seq (.reg [⟨some 7, .mv (.t 0), none⟩, ⟨some 8, .call (.c (.fn 45 [])) [(.t 7), (.c (.x (.int .i64 (2))))], none⟩, ⟨some 6, .mv (.t 8), none⟩])
      (.cond (.t 6)
        (.seq (.reg [⟨some 2, .mv (.c (.x (.int .i64 (2)))), none⟩])
        .ret)
        .skip)))))
  (.seq (.reg [⟨some 2, .mv (.c (.x (.int .i64 (0)))), none⟩])
  .ret)))⟩
theorem c19 : compFn Try.prog Try.f19 = some i19 := by kernel_rfl
/-- bothy/three.Least -/
def i20 : IFn := ⟨6, [.tmp 2], (.seq (.reg [⟨some 2, .mv (.c (.x (.int .i64 (0)))), none⟩])
  (.seq (.reg [⟨some 3, .mv (.t 0), none⟩, ⟨some 4, .bsl 3 1 3 [(.c (.x (.int .i64 (0)))), (.c (.x (.int .i64 (2)))), (.c (.x (.int .i64 (1))))], none⟩, ⟨some 5, .call (.c (.fn 44 [])) [(.t 3), (.c (.x (.int .i64 (2)))), (.t 4)], none⟩, ⟨some 2, .mv (.t 5), none⟩])
  .ret))⟩
theorem c20 : compFn Try.prog Try.f20 = some i20 := by kernel_rfl
/-- bothy/bothyref14.Least -/
def i21 : IFn := ⟨14, [.tmp 2], (.seq (.reg [⟨some 2, .mv (.c (.x (.int .i64 (0)))), none⟩])
  (.seq (.block 0
    (.seq (.reg [⟨some 4, .mv (.t 0), none⟩, ⟨some 5, .call (.c (.fn 45 [])) [(.t 4), (.c (.x (.int .i64 (0))))], none⟩, ⟨some 3, .mv (.t 5), none⟩])
    (.cond (.t 3)
      (.seq (.reg [⟨some 2, .mv (.c (.x (.int .i64 (0)))), none⟩])
      .ret)
      (.seq (.reg [⟨some 7, .mv (.t 0), none⟩, ⟨some 8, .call (.c (.fn 45 [])) [(.t 7), (.c (.x (.int .i64 (2))))], none⟩, ⟨some 9, .mv (.t 8), none⟩, ⟨some 10, .mv (.t 0), (some (9, false))⟩, ⟨some 11, .len false (.t 10), (some (9, false))⟩, ⟨some 12, .bin .eql (.t 11) (.c (.x (.int .i64 (0)))), (some (9, false))⟩, ⟨some 13, .pick (.t 9) (.c (.x (.bool true))) (.t 12), none⟩, ⟨some 6, .mv (.t 13), none⟩])
      (.cond (.t 6)
        (.seq (.reg [⟨some 2, .mv (.c (.x (.int .i64 (2)))), none⟩])
        .ret)
        .skip)))))
  (.seq (.reg [⟨some 2, .mv (.c (.x (.int .i64 (1)))), none⟩])
  .ret)))⟩
theorem c21 : compFn Try.prog Try.f21 = some i21 := by kernel_rfl
/-- bothy/bothylaw49.awake -/
def i22 : IFn := ⟨60, [.tmp 0], (.seq (.reg [⟨some 0, .mv (.c (.x (.bool false))), none⟩])
  (.seq (.reg [⟨some 9, .call (.c (.fn 23 [])) [(.c (.x (.int .i64 (1)))), (.c (.x (.int .i64 (3))))], none⟩, ⟨some 8, .mv (.t 9), none⟩, ⟨some 10, .ext (.t 8) 0, none⟩, ⟨some 11, .ext (.t 8) 1, none⟩, ⟨some 1, .mv (.t 10), none⟩, ⟨some 2, .mv (.t 11), none⟩])
  (.seq (.reg [⟨some 13, .call (.c (.fn 23 [])) [(.c (.x (.int .i64 (0)))), (.c (.x (.int .i64 (3))))], none⟩, ⟨some 12, .mv (.t 13), none⟩, ⟨some 14, .ext (.t 12) 0, none⟩, ⟨some 15, .ext (.t 12) 1, none⟩, ⟨some 3, .mv (.t 14), none⟩, ⟨some 4, .mv (.t 15), none⟩])
  (.seq (.seq (.reg [⟨some 16, .mv (.t 1), none⟩, ⟨some 17, .eq .ptr false (.t 16) (.c (.x .nilp)), none⟩])
  (.cond (.t 17)
    (.seq (.reg [⟨some 0, .mv (.c (.x (.bool false))), none⟩])
    .ret)
    .skip))
  (.seq (.reg [⟨some 18, .mv (.t 1), none⟩, ⟨some 19, .call (.c (.fn 26 [])) [(.t 18), (.c (.x (.str [120]))), (.c (.x (.int .i64 (0)))), (.c (.x (.int .i64 (3))))], none⟩, ⟨some 20, .mv (.t 1), none⟩, ⟨some 21, .call (.c (.fn 26 [])) [(.t 20), (.c (.x (.str [120]))), (.c (.x (.int .i64 (1)))), (.c (.x (.int .i64 (2))))], none⟩, ⟨some 22, .mv (.t 1), none⟩, ⟨some 23, .call (.c (.fn 26 [])) [(.t 22), (.c (.x (.str [120]))), (.c (.x (.int .i64 (2)))), (.c (.x (.int .i64 (2))))], none⟩, ⟨some 5, .mv (.t 19), none⟩, ⟨some 6, .mv (.t 21), none⟩, ⟨some 7, .mv (.t 23), none⟩])
  (.seq (.reg [⟨some 24, .mv (.t 2), none⟩, ⟨some 25, .bin .eql (.t 24) (.c (.x (.int .i64 (0)))), none⟩, ⟨some 26, .mv (.t 25), none⟩, ⟨some 27, .mv (.t 4), (some (26, true))⟩, ⟨some 28, .bin .eql (.t 27) (.c (.x (.int .i64 (1)))), (some (26, true))⟩, ⟨some 29, .pick (.t 26) (.t 28) (.c (.x (.bool false))), none⟩, ⟨some 30, .mv (.t 29), none⟩, ⟨some 31, .mv (.t 5), (some (30, true))⟩, ⟨some 32, .pick (.t 30) (.t 31) (.c (.x (.bool false))), none⟩, ⟨some 33, .mv (.t 32), none⟩, ⟨some 34, .mv (.t 6), (some (33, true))⟩, ⟨some 35, .un .not (.t 34), (some (33, true))⟩, ⟨some 36, .pick (.t 33) (.t 35) (.c (.x (.bool false))), none⟩, ⟨some 37, .mv (.t 36), none⟩, ⟨some 38, .mv (.t 7), (some (37, true))⟩, ⟨some 39, .pick (.t 37) (.t 38) (.c (.x (.bool false))), none⟩, ⟨some 40, .mv (.t 39), none⟩, ⟨some 41, .mv (.t 1), (some (40, true))⟩, ⟨some 42, .call (.c (.fn 26 [])) [(.t 41), (.c (.x (.str [120]))), (.c (.x (.int .i64 (1)))), (.c (.x (.int .i64 (1))))], (some (40, true))⟩, ⟨some 43, .un .not (.t 42), (some (40, true))⟩, ⟨some 44, .pick (.t 40) (.t 43) (.c (.x (.bool false))), none⟩, ⟨some 45, .mv (.t 44), none⟩, ⟨some 46, .mv (.t 1), (some (45, true))⟩, ⟨some 47, .call (.c (.fn 25 [])) [(.t 46), (.c (.x (.str [120]))), (.c (.x (.int .i64 (5))))], (some (45, true))⟩, ⟨some 48, .bin .eql (.t 47) (.c (.x (.int .i64 (3)))), (some (45, true))⟩, ⟨some 49, .pick (.t 45) (.t 48) (.c (.x (.bool false))), none⟩, ⟨some 50, .mv (.t 49), none⟩, ⟨some 51, .mv (.t 1), (some (50, true))⟩, ⟨some 52, .call (.c (.fn 25 [])) [(.t 51), (.c (.x (.str [121]))), (.c (.x (.int .i64 (0))))], (some (50, true))⟩, ⟨some 53, .bin .eql (.t 52) (.c (.x (.int .i64 (3)))), (some (50, true))⟩, ⟨some 54, .pick (.t 50) (.t 53) (.c (.x (.bool false))), none⟩, ⟨some 55, .mv (.t 54), none⟩, ⟨some 56, .mv (.t 1), (some (55, true))⟩, ⟨some 57, .call (.c (.fn 25 [])) [(.t 56), (.c (.x (.str [120]))), (.c (.x (.int .i64 (1))))], (some (55, true))⟩, ⟨some 58, .bin .eql (.t 57) (.c (.x (.int .i64 (0)))), (some (55, true))⟩, ⟨some 59, .pick (.t 55) (.t 58) (.c (.x (.bool false))), none⟩, ⟨some 0, .mv (.t 59), none⟩])
  .ret))))))⟩
theorem c22 : compFn Try.prog Try.f22 = some i22 := by kernel_rfl
-- 23 bothy/limits.New: makeMap
/-- bothy/bothylaw49.at -/
def i24 : IFn := ⟨20, [.tmp 4], (.seq (.reg [⟨some 4, .mv (.c (.x (.int .i64 (0)))), none⟩])
  (.seq (.seq (.reg [⟨some 5, .mv (.c (.x (.int .i64 (0)))), none⟩])
  (.block 0
    (.loop
      (.seq (.seq (.reg [⟨some 6, .mv (.t 5), none⟩, ⟨some 7, .mv (.t 0), none⟩, ⟨some 8, .len false (.t 7), none⟩, ⟨some 9, .bin .lss (.t 6) (.t 8), none⟩])
      (.cond (.t 9)
        .skip
        (.exit 0)))
      (.seq (.block 1
        (.seq (.reg [⟨some 12, .mv (.t 0), none⟩, ⟨some 13, .mv (.t 5), none⟩, ⟨some 14, .iad 3 (.t 12) (.t 13), none⟩, ⟨some 15, .fad 0 (.t 14), none⟩, ⟨some 16, .ld 1 false (.t 15), none⟩, ⟨some 17, .mv (.t 1), none⟩, ⟨some 18, .bin .eql (.t 16) (.t 17), none⟩])
        (.cond (.t 18)
          (.seq (.reg [⟨some 19, .mv (.t 5), none⟩, ⟨some 4, .mv (.t 19), none⟩])
          .ret)
          .skip)))
      (.reg [⟨some 10, .mv (.t 5), none⟩, ⟨some 11, .bin .add (.t 10) (.c (.x (.int .i64 (1)))), none⟩, ⟨some 5, .mv (.t 11), none⟩]))))))
  (.seq (.reg [⟨some 4, .mv (.c (.x (.int .i64 (-1)))), none⟩])
  .ret)))⟩
theorem c24 : compFn Try.prog Try.f24 = some i24 := by kernel_rfl
/-- (*bothy/limits.Limits).Left -/
def i25 : IFn := ⟨18, [.tmp 6], (.seq (.reg [⟨some 6, .mv (.c (.x (.int .i64 (0)))), none⟩])
  (.seq (.reg [⟨some 10, .mv (.t 0), none⟩, ⟨some 11, .mv (.t 1), none⟩, ⟨some 12, .mv (.t 2), none⟩, ⟨some 13, .call (.c (.fn 46 [])) [(.t 10), (.t 11), (.t 12)], none⟩, ⟨some 9, .mv (.t 13), none⟩, ⟨some 14, .ext (.t 9) 0, none⟩, ⟨some 15, .ext (.t 9) 1, none⟩, ⟨some 7, .box (.c (.agg [.x (.int .i64 (0)), .x (.int .i64 (0))])), none⟩, ⟨none, .sto 2 (.t 7) (.t 14), none⟩, ⟨some 8, .mv (.t 15), none⟩])
  (.seq (.reg [⟨some 16, .fad 0 (.t 7), none⟩, ⟨some 17, .ld 1 false (.t 16), none⟩, ⟨some 6, .mv (.t 17), none⟩])
  .ret)))⟩
theorem c25 : compFn Try.prog Try.f25 = some i25 := by kernel_rfl
-- 26 (*bothy/limits.Limits).Take: mapUpdate
/-- bothy/bothylaw02.awake -/
def i27 : IFn := ⟨91, [.tmp 0], (.seq (.reg [⟨some 0, .mv (.c (.x (.bool false))), none⟩])
  (.seq (.reg [⟨some 18, .call (.c (.fn 28 [])) [(.c (.x (.int .i64 (128))))], none⟩, ⟨some 17, .mv (.t 18), none⟩, ⟨some 19, .ext (.t 17) 0, none⟩, ⟨some 20, .ext (.t 17) 1, none⟩, ⟨some 1, .mv (.t 19), none⟩, ⟨some 2, .mv (.t 20), none⟩])
  (.seq (.reg [⟨some 22, .call (.c (.fn 28 [])) [(.c (.x (.int .i64 (-1))))], none⟩, ⟨some 21, .mv (.t 22), none⟩, ⟨some 23, .ext (.t 21) 0, none⟩, ⟨some 24, .ext (.t 21) 1, none⟩, ⟨some 3, .mv (.t 23), none⟩, ⟨some 4, .mv (.t 24), none⟩])
  (.seq (.reg [⟨some 26, .call (.c (.fn 28 [])) [(.c (.x (.int .i64 (2147483648))))], none⟩, ⟨some 25, .mv (.t 26), none⟩, ⟨some 27, .ext (.t 25) 0, none⟩, ⟨some 28, .ext (.t 25) 1, none⟩, ⟨some 5, .mv (.t 27), none⟩, ⟨some 6, .mv (.t 28), none⟩])
  (.seq (.reg [⟨some 30, .call (.c (.fn 30 [])) [(.c (.x (.str [255, 127])))], none⟩, ⟨some 29, .mv (.t 30), none⟩, ⟨some 31, .ext (.t 29) 0, none⟩, ⟨some 32, .ext (.t 29) 1, none⟩, ⟨some 7, .mv (.t 31), none⟩, ⟨some 8, .mv (.t 32), none⟩])
  (.seq (.reg [⟨some 34, .call (.c (.fn 30 [])) [(.c (.x (.str [0, 1])))], none⟩, ⟨some 33, .mv (.t 34), none⟩, ⟨some 35, .ext (.t 33) 0, none⟩, ⟨some 36, .ext (.t 33) 1, none⟩, ⟨some 9, .mv (.t 35), none⟩, ⟨some 10, .mv (.t 36), none⟩])
  (.seq (.reg [⟨some 38, .call (.c (.fn 30 [])) [(.c (.x (.str [1, 0, 0, 0, 0])))], none⟩, ⟨some 37, .mv (.t 38), none⟩, ⟨some 39, .ext (.t 37) 0, none⟩, ⟨some 40, .ext (.t 37) 1, none⟩, ⟨some 11, .mv (.t 39), none⟩, ⟨some 12, .mv (.t 40), none⟩])
  (.seq (.reg [⟨some 42, .call (.c (.fn 34 [])) [(.c (.x (.bool true)))], none⟩, ⟨some 43, .call (.c (.fn 32 [])) [(.t 42)], none⟩, ⟨some 41, .mv (.t 43), none⟩, ⟨some 44, .ext (.t 41) 0, none⟩, ⟨some 45, .ext (.t 41) 1, none⟩, ⟨some 13, .mv (.t 44), none⟩, ⟨some 14, .mv (.t 45), none⟩])
  (.seq (.reg [⟨some 47, .call (.c (.fn 32 [])) [(.c (.x (.str [1])))], none⟩, ⟨some 46, .mv (.t 47), none⟩, ⟨some 48, .ext (.t 46) 0, none⟩, ⟨some 49, .ext (.t 46) 1, none⟩, ⟨some 15, .mv (.t 48), none⟩, ⟨some 16, .mv (.t 49), none⟩])
  (.seq (.reg [⟨some 50, .mv (.t 1), none⟩, ⟨some 51, .bin .eql (.t 50) (.c (.x (.str [0, 128]))), none⟩, ⟨some 52, .mv (.t 51), none⟩, ⟨some 53, .mv (.t 2), (some (52, true))⟩, ⟨some 54, .bin .eql (.t 53) (.c (.x (.int .i64 (0)))), (some (52, true))⟩, ⟨some 55, .pick (.t 52) (.t 54) (.c (.x (.bool false))), none⟩, ⟨some 56, .mv (.t 55), none⟩, ⟨some 57, .mv (.t 3), (some (56, true))⟩, ⟨some 58, .bin .eql (.t 57) (.c (.x (.str [255]))), (some (56, true))⟩, ⟨some 59, .pick (.t 56) (.t 58) (.c (.x (.bool false))), none⟩, ⟨some 60, .mv (.t 59), none⟩, ⟨some 61, .mv (.t 6), (some (60, true))⟩, ⟨some 62, .bin .eql (.t 61) (.c (.x (.int .i64 (2)))), (some (60, true))⟩, ⟨some 63, .pick (.t 60) (.t 62) (.c (.x (.bool false))), none⟩, ⟨some 64, .mv (.t 63), none⟩, ⟨some 65, .mv (.t 7), (some (64, true))⟩, ⟨some 66, .bin .eql (.t 65) (.c (.x (.int .i64 (-129)))), (some (64, true))⟩, ⟨some 67, .pick (.t 64) (.t 66) (.c (.x (.bool false))), none⟩, ⟨some 68, .mv (.t 67), none⟩, ⟨some 69, .mv (.t 8), (some (68, true))⟩, ⟨some 70, .bin .eql (.t 69) (.c (.x (.int .i64 (0)))), (some (68, true))⟩, ⟨some 71, .pick (.t 68) (.t 70) (.c (.x (.bool false))), none⟩, ⟨some 72, .mv (.t 71), none⟩, ⟨some 73, .mv (.t 10), (some (72, true))⟩, ⟨some 74, .bin .eql (.t 73) (.c (.x (.int .i64 (5)))), (some (72, true))⟩, ⟨some 75, .pick (.t 72) (.t 74) (.c (.x (.bool false))), none⟩, ⟨some 76, .mv (.t 75), none⟩, ⟨some 77, .mv (.t 12), (some (76, true))⟩, ⟨some 78, .bin .eql (.t 77) (.c (.x (.int .i64 (3)))), (some (76, true))⟩, ⟨some 79, .pick (.t 76) (.t 78) (.c (.x (.bool false))), none⟩, ⟨some 80, .mv (.t 79), none⟩, ⟨some 81, .mv (.t 13), (some (80, true))⟩, ⟨some 82, .pick (.t 80) (.t 81) (.c (.x (.bool false))), none⟩, ⟨some 83, .mv (.t 82), none⟩, ⟨some 84, .mv (.t 14), (some (83, true))⟩, ⟨some 85, .bin .eql (.t 84) (.c (.x (.int .i64 (0)))), (some (83, true))⟩, ⟨some 86, .pick (.t 83) (.t 85) (.c (.x (.bool false))), none⟩, ⟨some 87, .mv (.t 86), none⟩, ⟨some 88, .mv (.t 16), (some (87, true))⟩, ⟨some 89, .bin .eql (.t 88) (.c (.x (.int .i64 (5)))), (some (87, true))⟩, ⟨some 90, .pick (.t 87) (.t 89) (.c (.x (.bool false))), none⟩, ⟨some 0, .mv (.t 90), none⟩])
  .ret))))))))))⟩
theorem c27 : compFn Try.prog Try.f27 = some i27 := by kernel_rfl
/-- bothy/num.Put -/
def i28 : IFn := ⟨49, [.tmp 2, .tmp 3], (.seq (.reg [⟨some 2, .mv (.c (.x (.str []))), none⟩, ⟨some 3, .mv (.c (.x (.int .i64 (0)))), none⟩])
  (.seq (.seq (.reg [⟨some 7, .mv (.t 0), none⟩, ⟨some 8, .bin .lss (.t 7) (.c (.x (.int .i64 (-2147483648)))), none⟩, ⟨some 9, .mv (.t 8), none⟩, ⟨some 10, .mv (.t 0), (some (9, false))⟩, ⟨some 11, .bin .gtr (.t 10) (.c (.x (.int .i64 (2147483647)))), (some (9, false))⟩, ⟨some 12, .pick (.t 9) (.c (.x (.bool true))) (.t 11), none⟩])
  (.cond (.t 12)
    (.seq (.reg [⟨some 2, .mv (.c (.x (.str []))), none⟩, ⟨some 3, .mv (.c (.x (.int .i64 (2)))), none⟩])
    .ret)
    .skip))
  (.seq (.reg [⟨some 4, .mv (.c (.x (.int .i64 (1)))), none⟩])
  (.seq (.block 0
    (.loop
      (.seq (.seq (.reg [⟨some 13, .mv (.t 0), none⟩, ⟨some 14, .mv (.t 4), none⟩, ⟨some 15, .bin .mul (.c (.x (.int .i64 (8)))) (.t 14), none⟩, ⟨some 16, .bin .sub (.t 15) (.c (.x (.int .i64 (1)))), none⟩, ⟨some 17, .bin .shr (.t 13) (.t 16), none⟩, ⟨some 18, .bin .neq (.t 17) (.c (.x (.int .i64 (0)))), none⟩, ⟨some 19, .mv (.t 18), none⟩, ⟨some 20, .mv (.t 0), (some (19, true))⟩, ⟨some 21, .mv (.t 4), (some (19, true))⟩, ⟨some 22, .bin .mul (.c (.x (.int .i64 (8)))) (.t 21), (some (19, true))⟩, ⟨some 23, .bin .sub (.t 22) (.c (.x (.int .i64 (1)))), (some (19, true))⟩, ⟨some 24, .bin .shr (.t 20) (.t 23), (some (19, true))⟩, ⟨some 25, .bin .neq (.t 24) (.c (.x (.int .i64 (-1)))), (some (19, true))⟩, ⟨some 26, .pick (.t 19) (.t 25) (.c (.x (.bool false))), none⟩])
      (.cond (.t 26)
        .skip
        (.exit 0)))
      (.block 1
        (.reg [⟨some 27, .mv (.t 4), none⟩, ⟨some 28, .bin .add (.t 27) (.c (.x (.int .i64 (1)))), none⟩, ⟨some 4, .mv (.t 28), none⟩])))))
  (.seq (.reg [⟨some 29, .mv (.t 4), none⟩, ⟨some 30, .mks 5 1 1 [(.int .u8 (0))] (.t 29) (.t 29), none⟩, ⟨some 5, .mv (.t 30), none⟩])
  (.seq (.seq (.reg [⟨some 31, .mv (.t 4), none⟩, ⟨some 32, .mv (.c (.x (.int .i64 (0)))), none⟩])
  (.block 2
    (.loop
      (.seq (.reg [⟨some 33, .bin .lss (.t 32) (.t 31), none⟩])
      (.seq (.cond (.t 33)
        .skip
        (.exit 2))
      (.seq (.block 3
        (.seq (.reg [⟨some 34, .mv (.t 32), none⟩, ⟨some 6, .mv (.t 34), none⟩])
        (.reg [⟨some 35, .mv (.t 5), none⟩, ⟨some 36, .mv (.t 4), none⟩, ⟨some 37, .bin .sub (.t 36) (.c (.x (.int .i64 (1)))), none⟩, ⟨some 38, .mv (.t 6), none⟩, ⟨some 39, .bin .sub (.t 37) (.t 38), none⟩, ⟨some 40, .mv (.t 0), none⟩, ⟨some 41, .mv (.t 6), none⟩, ⟨some 42, .bin .mul (.c (.x (.int .i64 (8)))) (.t 41), none⟩, ⟨some 43, .bin .shr (.t 40) (.t 42), none⟩, ⟨some 44, .cvi .u8 (.t 43), none⟩, ⟨some 45, .iad 1 (.t 35) (.t 39), none⟩, ⟨none, .sto 1 (.t 45) (.t 44), none⟩])))
      (.reg [⟨some 46, .bin .add (.t 32) (.c (.x (.int .i64 (1)))), none⟩, ⟨some 32, .mv (.t 46), none⟩])))))))
  (.seq (.reg [⟨some 47, .mv (.t 5), none⟩, ⟨some 48, .b2s (.t 47), none⟩, ⟨some 2, .mv (.t 48), none⟩, ⟨some 3, .mv (.c (.x (.int .i64 (0)))), none⟩])
  .ret)))))))⟩
theorem c28 : compFn Try.prog Try.f28 = some i28 := by kernel_rfl
/-- bothy/bothyref02.Put -/
def i29 : IFn := ⟨39, [.tmp 2, .tmp 3], (.seq (.reg [⟨some 2, .mv (.c (.x (.str []))), none⟩, ⟨some 3, .mv (.c (.x (.int .i64 (0)))), none⟩])
  (.seq (.seq (.reg [⟨some 7, .mv (.t 0), none⟩, ⟨some 8, .bin .lss (.t 7) (.c (.x (.int .i64 (-2147483648)))), none⟩, ⟨some 9, .mv (.t 8), none⟩, ⟨some 10, .mv (.t 0), (some (9, false))⟩, ⟨some 11, .bin .gtr (.t 10) (.c (.x (.int .i64 (2147483647)))), (some (9, false))⟩, ⟨some 12, .pick (.t 9) (.c (.x (.bool true))) (.t 11), none⟩])
  (.cond (.t 12)
    (.seq (.reg [⟨some 2, .mv (.c (.x (.str []))), none⟩, ⟨some 3, .mv (.c (.x (.int .i64 (2)))), none⟩])
    .ret)
    .skip))
  (.seq (.seq (.reg [⟨some 4, .mv (.c (.x (.int .i64 (1)))), none⟩])
  (.block 0
    (.loop
      (.seq (.seq (.reg [⟨some 13, .mv (.t 4), none⟩, ⟨some 14, .bin .lss (.t 13) (.c (.x (.int .i64 (4)))), none⟩])
      (.cond (.t 14)
        .skip
        (.exit 0)))
      (.seq (.block 1
        (.seq (.reg [⟨some 5, .mv (.c (.x (.int .i64 (1)))), none⟩])
        (.seq (.seq (.reg [⟨some 6, .mv (.c (.x (.int .i64 (1)))), none⟩])
        (.block 2
          (.loop
            (.seq (.seq (.reg [⟨some 17, .mv (.t 6), none⟩, ⟨some 18, .mv (.t 4), none⟩, ⟨some 19, .bin .mul (.c (.x (.int .i64 (8)))) (.t 18), none⟩, ⟨some 20, .bin .lss (.t 17) (.t 19), none⟩])
            (.cond (.t 20)
              .skip
              (.exit 2)))
            (.seq (.block 3
              (.reg [⟨some 23, .mv (.t 5), none⟩, ⟨some 24, .bin .mul (.t 23) (.c (.x (.int .i64 (2)))), none⟩, ⟨some 5, .mv (.t 24), none⟩]))
            (.reg [⟨some 21, .mv (.t 6), none⟩, ⟨some 22, .bin .add (.t 21) (.c (.x (.int .i64 (1)))), none⟩, ⟨some 6, .mv (.t 22), none⟩]))))))
        (.seq (.reg [⟨some 25, .mv (.t 0), none⟩, ⟨some 26, .mv (.t 5), none⟩, ⟨some 27, .bin .sub (.c (.x (.int .i64 (0)))) (.t 26), none⟩, ⟨some 28, .bin .geq (.t 25) (.t 27), none⟩, ⟨some 29, .mv (.t 28), none⟩, ⟨some 30, .mv (.t 0), (some (29, true))⟩, ⟨some 31, .mv (.t 5), (some (29, true))⟩, ⟨some 32, .bin .lss (.t 30) (.t 31), (some (29, true))⟩, ⟨some 33, .pick (.t 29) (.t 32) (.c (.x (.bool false))), none⟩])
        (.cond (.t 33)
          (.seq (.reg [⟨some 34, .mv (.t 0), none⟩, ⟨some 35, .mv (.t 4), none⟩, ⟨some 36, .call (.c (.fn 47 [])) [(.t 34), (.t 35)], none⟩, ⟨some 2, .mv (.t 36), none⟩, ⟨some 3, .mv (.c (.x (.int .i64 (0)))), none⟩])
          .ret)
          .skip)))))
      (.reg [⟨some 15, .mv (.t 4), none⟩, ⟨some 16, .bin .add (.t 15) (.c (.x (.int .i64 (1)))), none⟩, ⟨some 4, .mv (.t 16), none⟩]))))))
  (.seq (.reg [⟨some 37, .mv (.t 0), none⟩, ⟨some 38, .call (.c (.fn 47 [])) [(.t 37), (.c (.x (.int .i64 (4))))], none⟩, ⟨some 2, .mv (.t 38), none⟩, ⟨some 3, .mv (.c (.x (.int .i64 (0)))), none⟩])
  .ret))))⟩
theorem c29 : compFn Try.prog Try.f29 = some i29 := by kernel_rfl
/-- bothy/num.Read -/
def i30 : IFn := ⟨54, [.tmp 2, .tmp 3], (.seq (.reg [⟨some 2, .mv (.c (.x (.int .i64 (0)))), none⟩, ⟨some 3, .mv (.c (.x (.int .i64 (0)))), none⟩])
  (.seq (.seq (.reg [⟨some 7, .mv (.t 0), none⟩, ⟨some 8, .bin .eql (.t 7) (.c (.x (.str []))), none⟩])
  (.cond (.t 8)
    (.seq (.reg [⟨some 2, .mv (.c (.x (.int .i64 (0)))), none⟩, ⟨some 3, .mv (.c (.x (.int .i64 (4)))), none⟩])
    .ret)
    .skip))
  (.seq (.reg [⟨some 9, .mv (.t 0), none⟩, ⟨some 10, .idx (.t 9) (.c (.x (.int .i64 (0)))), none⟩, ⟨some 11, .cvi .i8 (.t 10), none⟩, ⟨some 12, .cvi .i64 (.t 11), none⟩, ⟨some 13, .bin .shr (.t 12) (.c (.x (.int .u64 (7)))), none⟩, ⟨some 4, .mv (.t 13), none⟩])
  (.seq (.block 0
    (.seq (.reg [⟨some 15, .mv (.t 0), none⟩, ⟨some 16, .len true (.t 15), none⟩, ⟨some 17, .bin .gtr (.t 16) (.c (.x (.int .i64 (1)))), none⟩, ⟨some 18, .mv (.t 17), none⟩, ⟨some 19, .mv (.t 0), (some (18, true))⟩, ⟨some 20, .idx (.t 19) (.c (.x (.int .i64 (0)))), (some (18, true))⟩, ⟨some 21, .cvi .i64 (.t 20), (some (18, true))⟩, ⟨some 22, .mv (.t 4), (some (18, true))⟩, ⟨some 23, .bin .and (.t 22) (.c (.x (.int .i64 (255)))), (some (18, true))⟩, ⟨some 24, .bin .eql (.t 21) (.t 23), (some (18, true))⟩, ⟨some 25, .pick (.t 18) (.t 24) (.c (.x (.bool false))), none⟩, ⟨some 26, .mv (.t 25), none⟩, ⟨some 27, .mv (.t 0), (some (26, true))⟩, ⟨some 28, .idx (.t 27) (.c (.x (.int .i64 (1)))), (some (26, true))⟩, ⟨some 29, .cvi .i8 (.t 28), (some (26, true))⟩, ⟨some 30, .cvi .i64 (.t 29), (some (26, true))⟩, ⟨some 31, .bin .shr (.t 30) (.c (.x (.int .u64 (7)))), (some (26, true))⟩, ⟨some 32, .mv (.t 4), (some (26, true))⟩, ⟨some 33, .bin .eql (.t 31) (.t 32), (some (26, true))⟩, ⟨some 34, .pick (.t 26) (.t 33) (.c (.x (.bool false))), none⟩, ⟨some 14, .mv (.t 34), none⟩])
    (.cond (.t 14)
      (.seq (.reg [⟨some 2, .mv (.c (.x (.int .i64 (0)))), none⟩, ⟨some 3, .mv (.c (.x (.int .i64 (5)))), none⟩])
      .ret)
      (.seq (.reg [⟨some 36, .mv (.t 0), none⟩, ⟨some 37, .len true (.t 36), none⟩, ⟨some 38, .bin .gtr (.t 37) (.c (.x (.int .i64 (4)))), none⟩, ⟨some 35, .mv (.t 38), none⟩])
      (.cond (.t 35)
        (.seq (.reg [⟨some 2, .mv (.c (.x (.int .i64 (0)))), none⟩, ⟨some 3, .mv (.c (.x (.int .i64 (3)))), none⟩])
        .ret)
        .skip)))))
  (.seq (.reg [⟨some 39, .mv (.t 4), none⟩, ⟨some 5, .mv (.t 39), none⟩])
  (.seq (.seq (.reg [⟨some 40, .mv (.t 0), none⟩, ⟨some 41, .len true (.t 40), none⟩, ⟨some 42, .mv (.c (.x (.int .i64 (0)))), none⟩])
  (.block 1
    (.loop
      (.seq (.reg [⟨some 43, .bin .lss (.t 42) (.t 41), none⟩])
      (.seq (.cond (.t 43)
        .skip
        (.exit 1))
      (.seq (.block 2
        (.seq (.reg [⟨some 44, .mv (.t 42), none⟩, ⟨some 6, .mv (.t 44), none⟩])
        (.reg [⟨some 45, .mv (.t 5), none⟩, ⟨some 46, .bin .shl (.t 45) (.c (.x (.int .u64 (8)))), none⟩, ⟨some 47, .mv (.t 0), none⟩, ⟨some 48, .mv (.t 6), none⟩, ⟨some 49, .idx (.t 47) (.t 48), none⟩, ⟨some 50, .cvi .i64 (.t 49), none⟩, ⟨some 51, .bin .or (.t 46) (.t 50), none⟩, ⟨some 5, .mv (.t 51), none⟩])))
      (.reg [⟨some 52, .bin .add (.t 42) (.c (.x (.int .i64 (1)))), none⟩, ⟨some 42, .mv (.t 52), none⟩])))))))
  (.seq (.reg [⟨some 53, .mv (.t 5), none⟩, ⟨some 2, .mv (.t 53), none⟩, ⟨some 3, .mv (.c (.x (.int .i64 (0)))), none⟩])
  .ret)))))))⟩
theorem c30 : compFn Try.prog Try.f30 = some i30 := by kernel_rfl
/-- bothy/bothyref02.Read -/
def i31 : IFn := ⟨54, [.tmp 2, .tmp 3], (.seq (.reg [⟨some 2, .mv (.c (.x (.int .i64 (0)))), none⟩, ⟨some 3, .mv (.c (.x (.int .i64 (0)))), none⟩])
  (.seq (.block 0
    (.seq (.reg [⟨some 7, .mv (.t 0), none⟩, ⟨some 8, .bin .eql (.t 7) (.c (.x (.str []))), none⟩, ⟨some 6, .mv (.t 8), none⟩])
    (.cond (.t 6)
      (.seq (.reg [⟨some 2, .mv (.c (.x (.int .i64 (0)))), none⟩, ⟨some 3, .mv (.c (.x (.int .i64 (4)))), none⟩])
      .ret)
      (.seq (.reg [⟨some 10, .mv (.t 0), none⟩, ⟨some 11, .len true (.t 10), none⟩, ⟨some 12, .bin .gtr (.t 11) (.c (.x (.int .i64 (1)))), none⟩, ⟨some 13, .mv (.t 12), none⟩, ⟨some 14, .mv (.t 0), (some (13, true))⟩, ⟨some 15, .idx (.t 14) (.c (.x (.int .i64 (0)))), (some (13, true))⟩, ⟨some 16, .bin .eql (.t 15) (.c (.x (.int .u8 (0)))), (some (13, true))⟩, ⟨some 17, .mv (.t 16), (some (13, true))⟩, ⟨some 18, .mv (.t 0), (some (17, true))⟩, ⟨some 19, .idx (.t 18) (.c (.x (.int .i64 (1)))), (some (17, true))⟩, ⟨some 20, .bin .lss (.t 19) (.c (.x (.int .u8 (128)))), (some (17, true))⟩, ⟨some 21, .pick (.t 17) (.t 20) (.c (.x (.bool false))), (some (13, true))⟩, ⟨some 22, .mv (.t 21), (some (13, true))⟩, ⟨some 23, .mv (.t 0), (some (22, false))⟩, ⟨some 24, .idx (.t 23) (.c (.x (.int .i64 (0)))), (some (22, false))⟩, ⟨some 25, .bin .eql (.t 24) (.c (.x (.int .u8 (255)))), (some (22, false))⟩, ⟨some 26, .mv (.t 25), (some (22, false))⟩, ⟨some 27, .mv (.t 0), (some (26, true))⟩, ⟨some 28, .idx (.t 27) (.c (.x (.int .i64 (1)))), (some (26, true))⟩, ⟨some 29, .bin .geq (.t 28) (.c (.x (.int .u8 (128)))), (some (26, true))⟩, ⟨some 30, .pick (.t 26) (.t 29) (.c (.x (.bool false))), (some (22, false))⟩, ⟨some 31, .pick (.t 22) (.c (.x (.bool true))) (.t 30), (some (13, true))⟩, ⟨some 32, .pick (.t 13) (.t 31) (.c (.x (.bool false))), none⟩, ⟨some 9, .mv (.t 32), none⟩])
      (.cond (.t 9)
        (.seq (.reg [⟨some 2, .mv (.c (.x (.int .i64 (0)))), none⟩, ⟨some 3, .mv (.c (.x (.int .i64 (5)))), none⟩])
        .ret)
        (.seq (.reg [⟨some 34, .mv (.t 0), none⟩, ⟨some 35, .len true (.t 34), none⟩, ⟨some 36, .bin .gtr (.t 35) (.c (.x (.int .i64 (4)))), none⟩, ⟨some 33, .mv (.t 36), none⟩])
        (.cond (.t 33)
          (.seq (.reg [⟨some 2, .mv (.c (.x (.int .i64 (0)))), none⟩, ⟨some 3, .mv (.c (.x (.int .i64 (3)))), none⟩])
          .ret)
          .skip)))))))
  (.seq (.reg [⟨some 4, .mv (.c (.x (.int .i64 (0)))), none⟩])
  (.seq (.seq (.reg [⟨some 37, .mv (.t 0), none⟩, ⟨some 38, .idx (.t 37) (.c (.x (.int .i64 (0)))), none⟩, ⟨some 39, .bin .geq (.t 38) (.c (.x (.int .u8 (128)))), none⟩])
  (.cond (.t 39)
    (.reg [⟨some 4, .mv (.c (.x (.int .i64 (-1)))), none⟩])
    .skip))
  (.seq (.seq (.reg [⟨some 5, .mv (.c (.x (.int .i64 (0)))), none⟩])
  (.block 1
    (.loop
      (.seq (.seq (.reg [⟨some 40, .mv (.t 5), none⟩, ⟨some 41, .mv (.t 0), none⟩, ⟨some 42, .len true (.t 41), none⟩, ⟨some 43, .bin .lss (.t 40) (.t 42), none⟩])
      (.cond (.t 43)
        .skip
        (.exit 1)))
      (.seq (.block 2
        (.reg [⟨some 46, .mv (.t 4), none⟩, ⟨some 47, .bin .mul (.t 46) (.c (.x (.int .i64 (256)))), none⟩, ⟨some 48, .mv (.t 0), none⟩, ⟨some 49, .mv (.t 5), none⟩, ⟨some 50, .idx (.t 48) (.t 49), none⟩, ⟨some 51, .cvi .i64 (.t 50), none⟩, ⟨some 52, .bin .add (.t 47) (.t 51), none⟩, ⟨some 4, .mv (.t 52), none⟩]))
      (.reg [⟨some 44, .mv (.t 5), none⟩, ⟨some 45, .bin .add (.t 44) (.c (.x (.int .i64 (1)))), none⟩, ⟨some 5, .mv (.t 45), none⟩]))))))
  (.seq (.reg [⟨some 53, .mv (.t 4), none⟩, ⟨some 2, .mv (.t 53), none⟩, ⟨some 3, .mv (.c (.x (.int .i64 (0)))), none⟩])
  .ret))))))⟩
theorem c31 : compFn Try.prog Try.f31 = some i31 := by kernel_rfl
/-- bothy/num.ReadBool -/
def i32 : IFn := ⟨12, [.tmp 2, .tmp 3], (.seq (.reg [⟨some 2, .mv (.c (.x (.bool false))), none⟩, ⟨some 3, .mv (.c (.x (.int .i64 (0)))), none⟩])
  (.seq (.seq (.reg [⟨some 4, .mv (.t 0), none⟩])
  (.block 0
    (.seq (.reg [⟨some 6, .bin .eql (.t 4) (.c (.x (.str []))), none⟩, ⟨some 5, .mv (.t 6), none⟩])
    (.cond (.t 5)
      (.seq (.reg [⟨some 2, .mv (.c (.x (.bool false))), none⟩, ⟨some 3, .mv (.c (.x (.int .i64 (4)))), none⟩])
      .ret)
      (.seq (.seq (.reg [⟨some 8, .bin .eql (.t 4) (.c (.x (.str [255]))), none⟩, ⟨some 7, .mv (.t 8), none⟩])
      (.cond (.t 7)
        .skip
        (.reg [⟨some 9, .bin .eql (.t 4) (.c (.x (.str [0]))), none⟩, ⟨some 7, .mv (.t 9), none⟩])))
      (.cond (.t 7)
        (.seq (.reg [⟨some 10, .mv (.t 0), none⟩, ⟨some 11, .bin .eql (.t 10) (.c (.x (.str [255]))), none⟩, ⟨some 2, .mv (.t 11), none⟩, ⟨some 3, .mv (.c (.x (.int .i64 (0)))), none⟩])
        .ret)
        .skip))))))
  (.seq (.reg [⟨some 2, .mv (.c (.x (.bool false))), none⟩, ⟨some 3, .mv (.c (.x (.int .i64 (5)))), none⟩])
  .ret)))⟩
theorem c32 : compFn Try.prog Try.f32 = some i32 := by kernel_rfl
/-- bothy/bothyref02.ReadBool -/
def i33 : IFn := ⟨13, [.tmp 2, .tmp 3], (.seq (.reg [⟨some 2, .mv (.c (.x (.bool false))), none⟩, ⟨some 3, .mv (.c (.x (.int .i64 (0)))), none⟩])
  (.seq (.block 0
    (.seq (.reg [⟨some 5, .mv (.t 0), none⟩, ⟨some 6, .bin .eql (.t 5) (.c (.x (.str []))), none⟩, ⟨some 4, .mv (.t 6), none⟩])
    (.cond (.t 4)
      (.seq (.reg [⟨some 2, .mv (.c (.x (.bool false))), none⟩, ⟨some 3, .mv (.c (.x (.int .i64 (4)))), none⟩])
      .ret)
      (.seq (.reg [⟨some 8, .mv (.t 0), none⟩, ⟨some 9, .bin .eql (.t 8) (.c (.x (.str [255]))), none⟩, ⟨some 7, .mv (.t 9), none⟩])
      (.cond (.t 7)
        (.seq (.reg [⟨some 2, .mv (.c (.x (.bool true))), none⟩, ⟨some 3, .mv (.c (.x (.int .i64 (0)))), none⟩])
        .ret)
        (.seq (.reg [⟨some 11, .mv (.t 0), none⟩, ⟨some 12, .bin .eql (.t 11) (.c (.x (.str [0]))), none⟩, ⟨some 10, .mv (.t 12), none⟩])
        (.cond (.t 10)
          (.seq (.reg [⟨some 2, .mv (.c (.x (.bool false))), none⟩, ⟨some 3, .mv (.c (.x (.int .i64 (0)))), none⟩])
          .ret)
          .skip)))))))
  (.seq (.reg [⟨some 2, .mv (.c (.x (.bool false))), none⟩, ⟨some 3, .mv (.c (.x (.int .i64 (5)))), none⟩])
  .ret)))⟩
theorem c33 : compFn Try.prog Try.f33 = some i33 := by kernel_rfl
/-- bothy/num.Bool -/
def i34 : IFn := ⟨4, [.tmp 2], (.seq (.reg [⟨some 2, .mv (.c (.x (.str []))), none⟩])
  (.seq (.seq (.reg [⟨some 3, .mv (.t 0), none⟩])
  (.cond (.t 3)
    (.seq (.reg [⟨some 2, .mv (.c (.x (.str [255]))), none⟩])
    .ret)
    .skip))
  (.seq (.reg [⟨some 2, .mv (.c (.x (.str [0]))), none⟩])
  .ret)))⟩
theorem c34 : compFn Try.prog Try.f34 = some i34 := by kernel_rfl
/-- bothy/bothyref02.Bool -/
def i35 : IFn := ⟨4, [.tmp 2], (.seq (.reg [⟨some 2, .mv (.c (.x (.str []))), none⟩])
  (.seq (.seq (.reg [⟨some 3, .mv (.t 0), none⟩])
  (.cond (.t 3)
    (.seq (.reg [⟨some 2, .mv (.c (.x (.str [255]))), none⟩])
    .ret)
    .skip))
  (.seq (.reg [⟨some 2, .mv (.c (.x (.str [0]))), none⟩])
  .ret)))⟩
theorem c35 : compFn Try.prog Try.f35 = some i35 := by kernel_rfl
/-- bothy/bothylaw46.awake -/
def i36 : IFn := ⟨110, [.tmp 0], (.seq (.reg [⟨some 0, .mv (.c (.x (.bool false))), none⟩])
  (.seq (.reg [⟨some 17, .call (.c (.fn 37 [])) [(.c (.x (.int .i64 (1))))], none⟩, ⟨some 16, .mv (.t 17), none⟩, ⟨some 18, .ext (.t 16) 0, none⟩, ⟨some 19, .ext (.t 16) 1, none⟩, ⟨some 1, .mv (.t 18), none⟩, ⟨some 2, .mv (.t 19), none⟩])
  (.seq (.reg [⟨some 21, .call (.c (.fn 37 [])) [(.c (.x (.int .i64 (0))))], none⟩, ⟨some 20, .mv (.t 21), none⟩, ⟨some 22, .ext (.t 20) 0, none⟩, ⟨some 23, .ext (.t 20) 1, none⟩, ⟨some 3, .mv (.t 22), none⟩, ⟨some 4, .mv (.t 23), none⟩])
  (.seq (.seq (.reg [⟨some 24, .mv (.t 1), none⟩, ⟨some 25, .eq .ptr false (.t 24) (.c (.x .nilp)), none⟩])
  (.cond (.t 25)
    (.seq (.reg [⟨some 0, .mv (.c (.x (.bool false))), none⟩])
    .ret)
    .skip))
  (.seq (.reg [⟨some 26, .mv (.t 1), none⟩, ⟨some 27, .call (.c (.fn 43 [])) [(.c (.x (.int .i64 (1))))], none⟩, ⟨some 28, .call (.c (.fn 38 [])) [(.t 26), (.t 27)], none⟩, ⟨some 29, .mv (.t 1), none⟩, ⟨some 30, .call (.c (.fn 43 [])) [(.c (.x (.int .i64 (2))))], none⟩, ⟨some 31, .call (.c (.fn 38 [])) [(.t 29), (.t 30)], none⟩, ⟨some 5, .mv (.t 28), none⟩, ⟨some 6, .mv (.t 31), none⟩])
  (.seq (.reg [⟨some 33, .mv (.t 1), none⟩, ⟨some 34, .call (.c (.fn 39 [])) [(.t 33), (.c (.x (.int .i64 (0))))], none⟩, ⟨some 32, .mv (.t 34), none⟩, ⟨some 35, .ext (.t 32) 0, none⟩, ⟨some 36, .ext (.t 32) 1, none⟩, ⟨some 37, .ext (.t 32) 2, none⟩, ⟨some 7, .mv (.t 35), none⟩, ⟨some 8, .mv (.t 36), none⟩, ⟨some 9, .mv (.t 37), none⟩])
  (.seq (.reg [⟨some 39, .mv (.t 1), none⟩, ⟨some 40, .call (.c (.fn 39 [])) [(.t 39), (.c (.x (.int .i64 (1))))], none⟩, ⟨some 38, .mv (.t 40), none⟩, ⟨some 41, .ext (.t 38) 0, none⟩, ⟨some 42, .ext (.t 38) 1, none⟩, ⟨some 43, .ext (.t 38) 2, none⟩, ⟨some 10, .mv (.t 41), none⟩, ⟨some 11, .mv (.t 42), none⟩, ⟨some 12, .mv (.t 43), none⟩])
  (.seq (.reg [⟨some 45, .mv (.t 1), none⟩, ⟨some 46, .call (.c (.fn 39 [])) [(.t 45), (.c (.x (.int .i64 (3))))], none⟩, ⟨some 44, .mv (.t 46), none⟩, ⟨some 47, .ext (.t 44) 0, none⟩, ⟨some 48, .ext (.t 44) 1, none⟩, ⟨some 49, .ext (.t 44) 2, none⟩, ⟨some 13, .mv (.t 47), none⟩, ⟨some 14, .mv (.t 48), none⟩, ⟨some 15, .mv (.t 49), none⟩])
  (.seq (.seq (.reg [⟨some 50, .mv (.t 10), none⟩, ⟨some 51, .len false (.t 50), none⟩, ⟨some 52, .bin .neq (.t 51) (.c (.x (.int .i64 (1)))), none⟩])
  (.cond (.t 52)
    (.seq (.reg [⟨some 0, .mv (.c (.x (.bool false))), none⟩])
    .ret)
    .skip))
  (.seq (.reg [⟨some 53, .mv (.t 2), none⟩, ⟨some 54, .bin .eql (.t 53) (.c (.x (.int .i64 (0)))), none⟩, ⟨some 55, .mv (.t 54), none⟩, ⟨some 56, .mv (.t 4), (some (55, true))⟩, ⟨some 57, .bin .eql (.t 56) (.c (.x (.int .i64 (1)))), (some (55, true))⟩, ⟨some 58, .pick (.t 55) (.t 57) (.c (.x (.bool false))), none⟩, ⟨some 59, .mv (.t 58), none⟩, ⟨some 60, .mv (.t 5), (some (59, true))⟩, ⟨some 61, .bin .eql (.t 60) (.c (.x (.int .i64 (1)))), (some (59, true))⟩, ⟨some 62, .pick (.t 59) (.t 61) (.c (.x (.bool false))), none⟩, ⟨some 63, .mv (.t 62), none⟩, ⟨some 64, .mv (.t 6), (some (63, true))⟩, ⟨some 65, .bin .eql (.t 64) (.c (.x (.int .i64 (2)))), (some (63, true))⟩, ⟨some 66, .pick (.t 63) (.t 65) (.c (.x (.bool false))), none⟩, ⟨some 67, .mv (.t 66), none⟩, ⟨some 68, .mv (.t 8), (some (67, true))⟩, ⟨some 69, .bin .eql (.t 68) (.c (.x (.int .i64 (2)))), (some (67, true))⟩, ⟨some 70, .pick (.t 67) (.t 69) (.c (.x (.bool false))), none⟩, ⟨some 71, .mv (.t 70), none⟩, ⟨some 72, .mv (.t 9), (some (71, true))⟩, ⟨some 73, .un .not (.t 72), (some (71, true))⟩, ⟨some 74, .pick (.t 71) (.t 73) (.c (.x (.bool false))), none⟩, ⟨some 75, .mv (.t 74), none⟩, ⟨some 76, .mv (.t 10), (some (75, true))⟩, ⟨some 77, .iad 7 (.t 76) (.c (.x (.int .i64 (0)))), (some (75, true))⟩, ⟨some 78, .fad 0 (.t 77), (some (75, true))⟩, ⟨some 79, .ld 1 false (.t 78), (some (75, true))⟩, ⟨some 80, .bin .eql (.t 79) (.c (.x (.int .i64 (2)))), (some (75, true))⟩, ⟨some 81, .pick (.t 75) (.t 80) (.c (.x (.bool false))), none⟩, ⟨some 82, .mv (.t 81), none⟩, ⟨some 83, .mv (.t 10), (some (82, true))⟩, ⟨some 84, .iad 7 (.t 83) (.c (.x (.int .i64 (0)))), (some (82, true))⟩, ⟨some 85, .fad 6 (.t 84), (some (82, true))⟩, ⟨some 86, .ld 1 false (.t 85), (some (82, true))⟩, ⟨some 87, .bin .eql (.t 86) (.c (.x (.str [2]))), (some (82, true))⟩, ⟨some 88, .pick (.t 82) (.t 87) (.c (.x (.bool false))), none⟩, ⟨some 89, .mv (.t 88), none⟩, ⟨some 90, .mv (.t 11), (some (89, true))⟩, ⟨some 91, .bin .eql (.t 90) (.c (.x (.int .i64 (2)))), (some (89, true))⟩, ⟨some 92, .pick (.t 89) (.t 91) (.c (.x (.bool false))), none⟩, ⟨some 93, .mv (.t 92), none⟩, ⟨some 94, .mv (.t 12), (some (93, true))⟩, ⟨some 95, .pick (.t 93) (.t 94) (.c (.x (.bool false))), none⟩, ⟨some 96, .mv (.t 95), none⟩, ⟨some 97, .mv (.t 15), (some (96, true))⟩, ⟨some 98, .un .not (.t 97), (some (96, true))⟩, ⟨some 99, .pick (.t 96) (.t 98) (.c (.x (.bool false))), none⟩, ⟨some 100, .mv (.t 99), none⟩, ⟨some 101, .mv (.t 1), (some (100, true))⟩, ⟨some 102, .call (.c (.fn 41 [])) [(.t 101)], (some (100, true))⟩, ⟨some 103, .bin .eql (.t 102) (.c (.x (.int .i64 (1)))), (some (100, true))⟩, ⟨some 104, .pick (.t 100) (.t 103) (.c (.x (.bool false))), none⟩, ⟨some 105, .mv (.t 104), none⟩, ⟨some 106, .mv (.t 1), (some (105, true))⟩, ⟨some 107, .call (.c (.fn 42 [])) [(.t 106)], (some (105, true))⟩, ⟨some 108, .bin .eql (.t 107) (.c (.x (.int .i64 (2)))), (some (105, true))⟩, ⟨some 109, .pick (.t 105) (.t 108) (.c (.x (.bool false))), none⟩, ⟨some 0, .mv (.t 109), none⟩])
  .ret))))))))))⟩
theorem c36 : compFn Try.prog Try.f36 = some i36 := by kernel_rfl
/-- bothy/sync.New -/
def i37 : IFn := ⟨13, [.tmp 2, .tmp 3], (.seq (.reg [⟨some 2, .mv (.c (.x .nilp)), none⟩, ⟨some 3, .mv (.c (.x (.int .i64 (0)))), none⟩])
  (.seq (.seq (.reg [⟨some 4, .mv (.t 0), none⟩, ⟨some 5, .bin .lss (.t 4) (.c (.x (.int .i64 (1)))), none⟩, ⟨some 6, .mv (.t 5), none⟩, ⟨some 7, .mv (.t 0), (some (6, false))⟩, ⟨some 8, .bin .gtr (.t 7) (.c (.x (.int .i64 (1024)))), (some (6, false))⟩, ⟨some 9, .pick (.t 6) (.c (.x (.bool true))) (.t 8), none⟩])
  (.cond (.t 9)
    (.seq (.reg [⟨some 2, .mv (.c (.x .nilp)), none⟩, ⟨some 3, .mv (.c (.x (.int .i64 (1)))), none⟩])
    .ret)
    .skip))
  (.seq (.reg [⟨some 10, .mv (.t 0), none⟩, ⟨some 11, .build [.x .nils, .x (.int .i64 (0)), .x (.int .i64 (0))] [(1, 1, (.t 10))], none⟩, ⟨some 12, .box (.t 11), none⟩, ⟨some 2, .mv (.t 12), none⟩, ⟨some 3, .mv (.c (.x (.int .i64 (0)))), none⟩])
  .ret)))⟩
theorem c37 : compFn Try.prog Try.f37 = some i37 := by kernel_rfl
/-- (*bothy/sync.Store).Note -/
def i38 : IFn := ⟨58, [.tmp 4], (.seq (.reg [⟨some 3, .box (.t 1), none⟩, ⟨some 4, .mv (.c (.x (.int .i64 (0)))), none⟩])
  (.seq (.seq (.reg [⟨some 6, .mv (.t 0), none⟩, ⟨some 7, .eq .ptr false (.t 6) (.c (.x .nilp)), none⟩])
  (.cond (.t 7)
    (.seq (.reg [⟨some 4, .mv (.c (.x (.int .i64 (0)))), none⟩])
    .ret)
    .skip))
  (.seq (.reg [⟨some 8, .mv (.t 0), none⟩, ⟨some 9, .nck (.t 8), none⟩, ⟨some 10, .fad 2 (.t 9), none⟩, ⟨some 11, .ld 1 false (.t 10), none⟩, ⟨some 12, .bin .add (.t 11) (.c (.x (.int .i64 (1)))), none⟩, ⟨some 13, .nck (.t 8), none⟩, ⟨some 14, .fad 2 (.t 13), none⟩, ⟨none, .sto 1 (.t 14) (.t 12), none⟩])
  (.seq (.reg [⟨some 15, .mv (.t 0), none⟩, ⟨some 16, .nck (.t 15), none⟩, ⟨some 17, .fad 2 (.t 16), none⟩, ⟨some 18, .ld 1 false (.t 17), none⟩, ⟨some 19, .fad 0 (.t 3), none⟩, ⟨none, .sto 1 (.t 19) (.t 18), none⟩])
  (.seq (.reg [⟨some 20, .mv (.t 0), none⟩, ⟨some 21, .nck (.t 20), none⟩, ⟨some 22, .fad 0 (.t 21), none⟩, ⟨some 23, .ld 1 false (.t 22), none⟩, ⟨some 24, .len false (.t 23), none⟩, ⟨some 25, .bin .add (.t 24) (.c (.x (.int .i64 (1)))), none⟩, ⟨some 26, .mks 70 7 112 [(.int .i64 (0)), (.int .i64 (0)), (.str []), .nils, (.str []), .nils, (.str [])] (.t 25) (.t 25), none⟩, ⟨some 5, .mv (.t 26), none⟩])
  (.seq (.reg [⟨some 27, .mv (.t 5), none⟩, ⟨some 28, .mv (.t 0), none⟩, ⟨some 29, .nck (.t 28), none⟩, ⟨some 30, .fad 0 (.t 29), none⟩, ⟨some 31, .ld 1 false (.t 30), none⟩, ⟨some 32, .cpy 7 (.t 27) (.t 31), none⟩])
  (.seq (.dreg 7 [] [⟨some 33, .mv (.t 5), none⟩, ⟨some 34, .mv (.t 0), none⟩, ⟨some 35, .nck (.t 34), none⟩, ⟨some 36, .fad 0 (.t 35), none⟩, ⟨some 37, .ld 1 false (.t 36), none⟩, ⟨some 38, .len false (.t 37), none⟩, ⟨some 39, .ld 7 true (.t 3), none⟩, ⟨some 40, .iad 7 (.t 33) (.t 38), none⟩, ⟨none, .sto 7 (.t 40) (.t 39), none⟩])
  (.seq (.reg [⟨some 41, .mv (.t 0), none⟩, ⟨some 42, .mv (.t 5), none⟩, ⟨some 43, .mv (.t 5), none⟩, ⟨some 44, .len false (.t 43), none⟩, ⟨some 45, .mv (.t 0), none⟩, ⟨some 46, .nck (.t 45), none⟩, ⟨some 47, .fad 1 (.t 46), none⟩, ⟨some 48, .ld 1 false (.t 47), none⟩, ⟨some 49, .bin .sub (.t 44) (.t 48), none⟩, ⟨some 50, .mnx true (.c (.x (.int .i64 (0)))) (.t 49), none⟩, ⟨some 51, .slc 7 (.t 42) (some (.t 50)) none none, none⟩, ⟨some 52, .nck (.t 41), none⟩, ⟨some 53, .fad 0 (.t 52), none⟩, ⟨none, .sto 1 (.t 53) (.t 51), none⟩])
  (.seq (.reg [⟨some 54, .mv (.t 0), none⟩, ⟨some 55, .nck (.t 54), none⟩, ⟨some 56, .fad 2 (.t 55), none⟩, ⟨some 57, .ld 1 false (.t 56), none⟩, ⟨some 4, .mv (.t 57), none⟩])
  .ret)))))))))⟩
theorem c38 : compFn Try.prog Try.f38 = some i38 := by kernel_rfl
/-- (*bothy/sync.Store).Since -/
def i39 : IFn := ⟨43, [.tmp 4, .tmp 5, .tmp 6], (.seq (.reg [⟨some 4, .mv (.c (.x .nils)), none⟩, ⟨some 5, .mv (.c (.x (.int .i64 (0)))), none⟩, ⟨some 6, .mv (.c (.x (.bool false))), none⟩])
  (.seq (.reg [⟨some 8, .mv (.t 0), none⟩, ⟨some 9, .call (.c (.fn 42 [])) [(.t 8)], none⟩, ⟨some 10, .mv (.t 0), none⟩, ⟨some 11, .call (.c (.fn 41 [])) [(.t 10)], none⟩, ⟨some 12, .bin .sub (.t 9) (.t 11), none⟩, ⟨some 7, .mv (.t 12), none⟩])
  (.seq (.seq (.reg [⟨some 13, .mv (.t 0), none⟩, ⟨some 14, .eq .ptr false (.t 13) (.c (.x .nilp)), none⟩, ⟨some 15, .mv (.t 14), none⟩, ⟨some 16, .mv (.t 1), (some (15, false))⟩, ⟨some 17, .mv (.t 7), (some (15, false))⟩, ⟨some 18, .bin .lss (.t 16) (.t 17), (some (15, false))⟩, ⟨some 19, .pick (.t 15) (.c (.x (.bool true))) (.t 18), none⟩, ⟨some 20, .mv (.t 19), none⟩, ⟨some 21, .mv (.t 1), (some (20, false))⟩, ⟨some 22, .mv (.t 0), (some (20, false))⟩, ⟨some 23, .nck (.t 22), (some (20, false))⟩, ⟨some 24, .fad 2 (.t 23), (some (20, false))⟩, ⟨some 25, .ld 1 false (.t 24), (some (20, false))⟩, ⟨some 26, .bin .gtr (.t 21) (.t 25), (some (20, false))⟩, ⟨some 27, .pick (.t 20) (.c (.x (.bool true))) (.t 26), none⟩])
  (.cond (.t 27)
    (.seq (.reg [⟨some 28, .mv (.t 0), none⟩, ⟨some 29, .call (.c (.fn 42 [])) [(.t 28)], none⟩, ⟨some 4, .mv (.c (.x .nils)), none⟩, ⟨some 5, .mv (.t 29), none⟩, ⟨some 6, .mv (.c (.x (.bool false))), none⟩])
    .ret)
    .skip))
  (.seq (.dreg 13 [] [⟨some 30, .mv (.t 0), none⟩, ⟨some 31, .nck (.t 30), none⟩, ⟨some 32, .fad 0 (.t 31), none⟩, ⟨some 33, .ld 1 false (.t 32), none⟩, ⟨some 34, .mv (.t 1), none⟩, ⟨some 35, .mv (.t 7), none⟩, ⟨some 36, .bin .sub (.t 34) (.t 35), none⟩, ⟨some 37, .slc 7 (.t 33) (some (.t 36)) none none, none⟩, ⟨some 38, .call (.c (.fn 48 [])) [(.t 37)], none⟩, ⟨some 39, .mv (.t 0), none⟩, ⟨some 40, .nck (.t 39), none⟩, ⟨some 41, .fad 2 (.t 40), none⟩, ⟨some 42, .ld 1 false (.t 41), none⟩, ⟨some 4, .mv (.t 38), none⟩, ⟨some 5, .mv (.t 42), none⟩, ⟨some 6, .mv (.c (.x (.bool true))), none⟩])
  .ret))))⟩
theorem c39 : compFn Try.prog Try.f39 = some i39 := by kernel_rfl
/-- bothy/bothyref22.Same -/
def i40 : IFn := ⟨82, [.tmp 4], (.seq (.reg [⟨some 4, .mv (.c (.x (.bool false))), none⟩])
  (.seq (.seq (.reg [⟨some 6, .mv (.t 0), none⟩, ⟨some 7, .len false (.t 6), none⟩, ⟨some 8, .mv (.t 1), none⟩, ⟨some 9, .len false (.t 8), none⟩, ⟨some 10, .bin .neq (.t 7) (.t 9), none⟩])
  (.cond (.t 10)
    (.seq (.reg [⟨some 4, .mv (.c (.x (.bool false))), none⟩])
    .ret)
    .skip))
  (.seq (.seq (.reg [⟨some 5, .mv (.c (.x (.int .i64 (0)))), none⟩])
  (.block 0
    (.loop
      (.seq (.seq (.reg [⟨some 11, .mv (.t 5), none⟩, ⟨some 12, .mv (.t 0), none⟩, ⟨some 13, .len false (.t 12), none⟩, ⟨some 14, .bin .lss (.t 11) (.t 13), none⟩])
      (.cond (.t 14)
        .skip
        (.exit 0)))
      (.seq (.block 1
        (.seq (.dreg 62 [] [⟨some 17, .mv (.t 0), none⟩, ⟨some 18, .mv (.t 5), none⟩, ⟨some 19, .iad 7 (.t 17) (.t 18), none⟩, ⟨some 20, .fad 0 (.t 19), none⟩, ⟨some 21, .ld 1 false (.t 20), none⟩, ⟨some 22, .mv (.t 1), none⟩, ⟨some 23, .mv (.t 5), none⟩, ⟨some 24, .iad 7 (.t 22) (.t 23), none⟩, ⟨some 25, .fad 0 (.t 24), none⟩, ⟨some 26, .ld 1 false (.t 25), none⟩, ⟨some 27, .bin .neq (.t 21) (.t 26), none⟩, ⟨some 28, .mv (.t 27), none⟩, ⟨some 29, .mv (.t 0), (some (28, false))⟩, ⟨some 30, .mv (.t 5), (some (28, false))⟩, ⟨some 31, .iad 7 (.t 29) (.t 30), (some (28, false))⟩, ⟨some 32, .fad 1 (.t 31), (some (28, false))⟩, ⟨some 33, .ld 1 false (.t 32), (some (28, false))⟩, ⟨some 34, .mv (.t 1), (some (28, false))⟩, ⟨some 35, .mv (.t 5), (some (28, false))⟩, ⟨some 36, .iad 7 (.t 34) (.t 35), (some (28, false))⟩, ⟨some 37, .fad 1 (.t 36), (some (28, false))⟩, ⟨some 38, .ld 1 false (.t 37), (some (28, false))⟩, ⟨some 39, .bin .neq (.t 33) (.t 38), (some (28, false))⟩, ⟨some 40, .pick (.t 28) (.c (.x (.bool true))) (.t 39), none⟩, ⟨some 41, .mv (.t 40), none⟩, ⟨some 42, .mv (.t 0), (some (41, false))⟩, ⟨some 43, .mv (.t 5), (some (41, false))⟩, ⟨some 44, .iad 7 (.t 42) (.t 43), (some (41, false))⟩, ⟨some 45, .fad 6 (.t 44), (some (41, false))⟩, ⟨some 46, .ld 1 false (.t 45), (some (41, false))⟩, ⟨some 47, .mv (.t 1), (some (41, false))⟩, ⟨some 48, .mv (.t 5), (some (41, false))⟩, ⟨some 49, .iad 7 (.t 47) (.t 48), (some (41, false))⟩, ⟨some 50, .fad 6 (.t 49), (some (41, false))⟩, ⟨some 51, .ld 1 false (.t 50), (some (41, false))⟩, ⟨some 52, .bin .neq (.t 46) (.t 51), (some (41, false))⟩, ⟨some 53, .pick (.t 41) (.c (.x (.bool true))) (.t 52), none⟩, ⟨some 54, .mv (.t 53), none⟩, ⟨some 55, .mv (.t 0), (some (54, false))⟩, ⟨some 56, .mv (.t 5), (some (54, false))⟩, ⟨some 57, .iad 7 (.t 55) (.t 56), (some (54, false))⟩, ⟨some 58, .fad 2 (.t 57), (some (54, false))⟩, ⟨some 59, .ld 2 true (.t 58), (some (54, false))⟩, ⟨some 60, .mv (.t 1), (some (54, false))⟩, ⟨some 61, .mv (.t 5), (some (54, false))⟩, ⟨some 62, .iad 7 (.t 60) (.t 61), (some (54, false))⟩, ⟨some 63, .fad 2 (.t 62), (some (54, false))⟩, ⟨some 64, .ld 2 true (.t 63), (some (54, false))⟩, ⟨some 65, .call (.c (.fn 49 [])) [(.t 59), (.t 64)], (some (54, false))⟩, ⟨some 66, .un .not (.t 65), (some (54, false))⟩, ⟨some 67, .pick (.t 54) (.c (.x (.bool true))) (.t 66), none⟩, ⟨some 68, .mv (.t 67), none⟩, ⟨some 69, .mv (.t 0), (some (68, false))⟩, ⟨some 70, .mv (.t 5), (some (68, false))⟩, ⟨some 71, .iad 7 (.t 69) (.t 70), (some (68, false))⟩, ⟨some 72, .fad 4 (.t 71), (some (68, false))⟩, ⟨some 73, .ld 2 true (.t 72), (some (68, false))⟩, ⟨some 74, .mv (.t 1), (some (68, false))⟩, ⟨some 75, .mv (.t 5), (some (68, false))⟩, ⟨some 76, .iad 7 (.t 74) (.t 75), (some (68, false))⟩, ⟨some 77, .fad 4 (.t 76), (some (68, false))⟩, ⟨some 78, .ld 2 true (.t 77), (some (68, false))⟩, ⟨some 79, .call (.c (.fn 49 [])) [(.t 73), (.t 78)], (some (68, false))⟩, ⟨some 80, .un .not (.t 79), (some (68, false))⟩, ⟨some 81, .pick (.t 68) (.c (.x (.bool true))) (.t 80), none⟩])
        (.cond (.t 81)
          (.seq (.reg [⟨some 4, .mv (.c (.x (.bool false))), none⟩])
          .ret)
          .skip)))
      (.reg [⟨some 15, .mv (.t 5), none⟩, ⟨some 16, .bin .add (.t 15) (.c (.x (.int .i64 (1)))), none⟩, ⟨some 5, .mv (.t 16), none⟩]))))))
  (.seq (.reg [⟨some 4, .mv (.c (.x (.bool true))), none⟩])
  .ret))))⟩
theorem c40 : compFn Try.prog Try.f40 = some i40 := by kernel_rfl
/-- (*bothy/sync.Store).Len -/
def i41 : IFn := ⟨10, [.tmp 2], (.seq (.reg [⟨some 2, .mv (.c (.x (.int .i64 (0)))), none⟩])
  (.seq (.seq (.reg [⟨some 3, .mv (.t 0), none⟩, ⟨some 4, .eq .ptr false (.t 3) (.c (.x .nilp)), none⟩])
  (.cond (.t 4)
    (.seq (.reg [⟨some 2, .mv (.c (.x (.int .i64 (0)))), none⟩])
    .ret)
    .skip))
  (.seq (.reg [⟨some 5, .mv (.t 0), none⟩, ⟨some 6, .nck (.t 5), none⟩, ⟨some 7, .fad 0 (.t 6), none⟩, ⟨some 8, .ld 1 false (.t 7), none⟩, ⟨some 9, .len false (.t 8), none⟩, ⟨some 2, .mv (.t 9), none⟩])
  .ret)))⟩
theorem c41 : compFn Try.prog Try.f41 = some i41 := by kernel_rfl
/-- (*bothy/sync.Store).Cookie -/
def i42 : IFn := ⟨9, [.tmp 2], (.seq (.reg [⟨some 2, .mv (.c (.x (.int .i64 (0)))), none⟩])
  (.seq (.seq (.reg [⟨some 3, .mv (.t 0), none⟩, ⟨some 4, .eq .ptr false (.t 3) (.c (.x .nilp)), none⟩])
  (.cond (.t 4)
    (.seq (.reg [⟨some 2, .mv (.c (.x (.int .i64 (0)))), none⟩])
    .ret)
    .skip))
  (.seq (.reg [⟨some 5, .mv (.t 0), none⟩, ⟨some 6, .nck (.t 5), none⟩, ⟨some 7, .fad 2 (.t 6), none⟩, ⟨some 8, .ld 1 false (.t 7), none⟩, ⟨some 2, .mv (.t 8), none⟩])
  .ret)))⟩
theorem c42 : compFn Try.prog Try.f42 = some i42 := by kernel_rfl
/-- bothy/bothylaw46.at -/
def i43 : IFn := ⟨8, [.cell 2 7 true], (.seq (.reg [⟨some 2, .box (.c (.agg [.x (.int .i64 (0)), .x (.int .i64 (0)), .x (.str []), .x .nils, .x (.str []), .x .nils, .x (.str [])])), none⟩])
  (.seq (.reg [⟨some 3, .mv (.t 0), none⟩, ⟨some 4, .cvi .u8 (.t 3), none⟩, ⟨some 5, .bsl 5 1 1 [(.t 4)], none⟩, ⟨some 6, .b2s (.t 5), none⟩, ⟨some 7, .build [.x (.int .i64 (0)), .x (.int .i64 (0)), .x (.str []), .x .nils, .x (.str []), .x .nils, .x (.str [])] [(1, 1, (.c (.x (.int .i64 (1))))), (6, 1, (.t 6))], none⟩, ⟨none, .sto 7 (.t 2) (.t 7), none⟩])
  .ret))⟩
theorem c43 : compFn Try.prog Try.f43 = some i43 := by kernel_rfl
/-- bothy/three.least -/
def i44 : IFn := ⟨42, [.tmp 6], (.seq (.reg [⟨some 6, .mv (.c (.x (.int .i64 (0)))), none⟩])
  (.seq (.seq (.reg [⟨some 11, .mv (.t 2), none⟩, ⟨some 12, .len false (.t 11), none⟩, ⟨some 13, .mv (.c (.x (.int .i64 (0)))), none⟩])
  (.block 0
    (.loop
      (.seq (.reg [⟨some 14, .bin .lss (.t 13) (.t 12), none⟩])
      (.seq (.cond (.t 14)
        .skip
        (.exit 0))
      (.seq (.block 1
        (.seq (.reg [⟨some 15, .iad 1 (.t 11) (.t 13), none⟩, ⟨some 16, .ld 1 false (.t 15), none⟩, ⟨some 8, .mv (.t 16), none⟩])
        (.seq (.reg [⟨some 17, .mv (.t 0), none⟩, ⟨some 18, .len false (.t 17), none⟩, ⟨some 19, .mv (.c (.x (.int .i64 (0)))), none⟩])
        (.block 2
          (.loop
            (.seq (.reg [⟨some 20, .bin .lss (.t 19) (.t 18), none⟩])
            (.seq (.cond (.t 20)
              .skip
              (.exit 2))
            (.seq (.block 3
              (.seq (.reg [⟨some 21, .iad 1 (.t 17) (.t 19), none⟩, ⟨some 22, .ld 1 false (.t 21), none⟩, ⟨some 10, .mv (.t 22), none⟩])
              (.seq (.reg [⟨some 23, .mv (.t 8), none⟩, ⟨some 24, .mv (.t 10), none⟩, ⟨some 25, .bin .eql (.t 23) (.t 24), none⟩, ⟨some 26, .mv (.t 25), none⟩, ⟨some 27, .mv (.t 8), (some (26, false))⟩, ⟨some 28, .bin .eql (.t 27) (.c (.x (.int .i64 (2)))), (some (26, false))⟩, ⟨some 29, .mv (.t 28), (some (26, false))⟩, ⟨some 30, .mv (.t 10), (some (29, true))⟩, ⟨some 31, .bin .neq (.t 30) (.c (.x (.int .i64 (0)))), (some (29, true))⟩, ⟨some 32, .pick (.t 29) (.t 31) (.c (.x (.bool false))), (some (26, false))⟩, ⟨some 33, .mv (.t 32), (some (26, false))⟩, ⟨some 34, .mv (.t 10), (some (33, true))⟩, ⟨some 35, .bin .neq (.t 34) (.c (.x (.int .i64 (1)))), (some (33, true))⟩, ⟨some 36, .pick (.t 33) (.t 35) (.c (.x (.bool false))), (some (26, false))⟩, ⟨some 37, .pick (.t 26) (.c (.x (.bool true))) (.t 36), none⟩])
              (.cond (.t 37)
                (.seq (.reg [⟨some 38, .mv (.t 8), none⟩, ⟨some 6, .mv (.t 38), none⟩])
                .ret)
                .skip))))
            (.reg [⟨some 39, .bin .add (.t 19) (.c (.x (.int .i64 (1)))), none⟩, ⟨some 19, .mv (.t 39), none⟩])))))))))
      (.reg [⟨some 40, .bin .add (.t 13) (.c (.x (.int .i64 (1)))), none⟩, ⟨some 13, .mv (.t 40), none⟩])))))))
  (.seq (.reg [⟨some 41, .mv (.t 1), none⟩, ⟨some 6, .mv (.t 41), none⟩])
  .ret)))⟩
theorem c44 : compFn Try.prog Try.f44 = some i44 := by kernel_rfl
/-- bothy/bothyref14.has -/
def i45 : IFn := ⟨36, [.tmp 4], (.seq (.reg [⟨some 4, .mv (.c (.x (.bool false))), none⟩])
  (.seq (.seq (.reg [⟨some 5, .mv (.c (.x (.int .i64 (0)))), none⟩])
  (.block 0
    (.loop
      (.seq (.seq (.reg [⟨some 6, .mv (.t 5), none⟩, ⟨some 7, .mv (.t 0), none⟩, ⟨some 8, .len false (.t 7), none⟩, ⟨some 9, .bin .lss (.t 6) (.t 8), none⟩])
      (.cond (.t 9)
        .skip
        (.exit 0)))
      (.seq (.block 1
        (.seq (.reg [⟨some 12, .mv (.t 0), none⟩, ⟨some 13, .mv (.t 5), none⟩, ⟨some 14, .iad 1 (.t 12) (.t 13), none⟩, ⟨some 15, .ld 1 false (.t 14), none⟩, ⟨some 16, .mv (.t 1), none⟩, ⟨some 17, .bin .eql (.t 15) (.t 16), none⟩, ⟨some 18, .mv (.t 17), none⟩, ⟨some 19, .mv (.t 1), (some (18, false))⟩, ⟨some 20, .bin .eql (.t 19) (.c (.x (.int .i64 (2)))), (some (18, false))⟩, ⟨some 21, .mv (.t 20), (some (18, false))⟩, ⟨some 22, .mv (.t 0), (some (21, true))⟩, ⟨some 23, .mv (.t 5), (some (21, true))⟩, ⟨some 24, .iad 1 (.t 22) (.t 23), (some (21, true))⟩, ⟨some 25, .ld 1 false (.t 24), (some (21, true))⟩, ⟨some 26, .bin .neq (.t 25) (.c (.x (.int .i64 (0)))), (some (21, true))⟩, ⟨some 27, .pick (.t 21) (.t 26) (.c (.x (.bool false))), (some (18, false))⟩, ⟨some 28, .mv (.t 27), (some (18, false))⟩, ⟨some 29, .mv (.t 0), (some (28, true))⟩, ⟨some 30, .mv (.t 5), (some (28, true))⟩, ⟨some 31, .iad 1 (.t 29) (.t 30), (some (28, true))⟩, ⟨some 32, .ld 1 false (.t 31), (some (28, true))⟩, ⟨some 33, .bin .neq (.t 32) (.c (.x (.int .i64 (1)))), (some (28, true))⟩, ⟨some 34, .pick (.t 28) (.t 33) (.c (.x (.bool false))), (some (18, false))⟩, ⟨some 35, .pick (.t 18) (.c (.x (.bool true))) (.t 34), none⟩])
        (.cond (.t 35)
          (.seq (.reg [⟨some 4, .mv (.c (.x (.bool true))), none⟩])
          .ret)
          .skip)))
      (.reg [⟨some 10, .mv (.t 5), none⟩, ⟨some 11, .bin .add (.t 10) (.c (.x (.int .i64 (1)))), none⟩, ⟨some 5, .mv (.t 11), none⟩]))))))
  (.seq (.reg [⟨some 4, .mv (.c (.x (.bool false))), none⟩])
  .ret)))⟩
theorem c45 : compFn Try.prog Try.f45 = some i45 := by kernel_rfl
-- 46 (*bothy/limits.Limits).at: lookup
/-- bothy/bothyref02.bytes -/
def i47 : IFn := ⟨25, [.tmp 4], (.seq (.reg [⟨some 4, .mv (.c (.x (.str []))), none⟩])
  (.seq (.reg [⟨some 5, .mv (.c (.x .nils)), none⟩])
  (.seq (.seq (.reg [⟨some 7, .mv (.t 1), none⟩, ⟨some 8, .bin .sub (.t 7) (.c (.x (.int .i64 (1)))), none⟩, ⟨some 6, .mv (.t 8), none⟩])
  (.block 0
    (.loop
      (.seq (.seq (.reg [⟨some 9, .mv (.t 6), none⟩, ⟨some 10, .bin .geq (.t 9) (.c (.x (.int .i64 (0)))), none⟩])
      (.cond (.t 10)
        .skip
        (.exit 0)))
      (.seq (.block 1
        (.reg [⟨some 13, .mv (.t 5), none⟩, ⟨some 14, .mv (.t 0), none⟩, ⟨some 15, .cvi .u64 (.t 14), none⟩, ⟨some 16, .mv (.t 6), none⟩, ⟨some 17, .bin .mul (.c (.x (.int .i64 (8)))) (.t 16), none⟩, ⟨some 18, .cvi .u64 (.t 17), none⟩, ⟨some 19, .bin .shr (.t 15) (.t 18), none⟩, ⟨some 20, .cvi .u8 (.t 19), none⟩, ⟨some 21, .bsl 5 1 1 [(.t 20)], none⟩, ⟨some 22, .app 5 1 1 (.t 13) (.t 21), none⟩, ⟨some 5, .mv (.t 22), none⟩]))
      (.reg [⟨some 11, .mv (.t 6), none⟩, ⟨some 12, .bin .sub (.t 11) (.c (.x (.int .i64 (1)))), none⟩, ⟨some 6, .mv (.t 12), none⟩]))))))
  (.seq (.reg [⟨some 23, .mv (.t 5), none⟩, ⟨some 24, .b2s (.t 23), none⟩, ⟨some 4, .mv (.t 24), none⟩])
  .ret))))⟩
theorem c47 : compFn Try.prog Try.f47 = some i47 := by kernel_rfl
/-- slices.Clone[[]bothy/api.Change,bothy/api.Change] -/
def i48 : IFn := ⟨8, [.tmp 2], (.seq (.reg [⟨some 2, .mv (.c (.x .nils)), none⟩])
  (.seq (.seq (.reg [⟨some 3, .mv (.t 0), none⟩, ⟨some 4, .eq .sl false (.t 3) (.c (.x .nils)), none⟩])
  (.cond (.t 4)
    (.seq (.reg [⟨some 2, .mv (.c (.x .nils)), none⟩])
    .ret)
    .skip))
  (.seq (.reg [⟨some 5, .bsl 70 7 0 [], none⟩, ⟨some 6, .mv (.t 0), none⟩, ⟨some 7, .app 70 7 112 (.t 5) (.t 6), none⟩, ⟨some 2, .mv (.t 7), none⟩])
  .ret)))⟩
theorem c48 : compFn Try.prog Try.f48 = some i48 := by kernel_rfl
/-- bothy/bothyref10.Equal -/
def i49 : IFn := ⟨56, [.tmp 4], (.seq (.reg [⟨some 2, .box (.t 0), none⟩, ⟨some 3, .box (.t 1), none⟩, ⟨some 4, .mv (.c (.x (.bool false))), none⟩])
  (.seq (.seq (.reg [⟨some 6, .fad 0 (.t 2), none⟩, ⟨some 7, .ld 1 false (.t 6), none⟩, ⟨some 8, .fad 0 (.t 3), none⟩, ⟨some 9, .ld 1 false (.t 8), none⟩, ⟨some 10, .bin .neq (.t 7) (.t 9), none⟩, ⟨some 11, .mv (.t 10), none⟩, ⟨some 12, .fad 1 (.t 2), (some (11, false))⟩, ⟨some 13, .ld 1 false (.t 12), (some (11, false))⟩, ⟨some 14, .len false (.t 13), (some (11, false))⟩, ⟨some 15, .fad 1 (.t 3), (some (11, false))⟩, ⟨some 16, .ld 1 false (.t 15), (some (11, false))⟩, ⟨some 17, .len false (.t 16), (some (11, false))⟩, ⟨some 18, .bin .neq (.t 14) (.t 17), (some (11, false))⟩, ⟨some 19, .pick (.t 11) (.c (.x (.bool true))) (.t 18), none⟩])
  (.cond (.t 19)
    (.seq (.reg [⟨some 4, .mv (.c (.x (.bool false))), none⟩])
    .ret)
    .skip))
  (.seq (.seq (.reg [⟨some 5, .mv (.c (.x (.int .i64 (0)))), none⟩])
  (.block 0
    (.loop
      (.seq (.seq (.reg [⟨some 20, .mv (.t 5), none⟩, ⟨some 21, .fad 1 (.t 2), none⟩, ⟨some 22, .ld 1 false (.t 21), none⟩, ⟨some 23, .len false (.t 22), none⟩, ⟨some 24, .bin .lss (.t 20) (.t 23), none⟩])
      (.cond (.t 24)
        .skip
        (.exit 0)))
      (.seq (.block 1
        (.seq (.dreg 26 [] [⟨some 27, .fad 1 (.t 2), none⟩, ⟨some 28, .ld 1 false (.t 27), none⟩, ⟨some 29, .mv (.t 5), none⟩, ⟨some 30, .iad 2 (.t 28) (.t 29), none⟩, ⟨some 31, .fad 0 (.t 30), none⟩, ⟨some 32, .ld 1 false (.t 31), none⟩, ⟨some 33, .fad 1 (.t 3), none⟩, ⟨some 34, .ld 1 false (.t 33), none⟩, ⟨some 35, .mv (.t 5), none⟩, ⟨some 36, .iad 2 (.t 34) (.t 35), none⟩, ⟨some 37, .fad 0 (.t 36), none⟩, ⟨some 38, .ld 1 false (.t 37), none⟩, ⟨some 39, .bin .neq (.t 32) (.t 38), none⟩, ⟨some 40, .mv (.t 39), none⟩, ⟨some 41, .fad 1 (.t 2), (some (40, false))⟩, ⟨some 42, .ld 1 false (.t 41), (some (40, false))⟩, ⟨some 43, .mv (.t 5), (some (40, false))⟩, ⟨some 44, .iad 2 (.t 42) (.t 43), (some (40, false))⟩, ⟨some 45, .fad 1 (.t 44), (some (40, false))⟩, ⟨some 46, .ld 1 false (.t 45), (some (40, false))⟩, ⟨some 47, .fad 1 (.t 3), (some (40, false))⟩, ⟨some 48, .ld 1 false (.t 47), (some (40, false))⟩, ⟨some 49, .mv (.t 5), (some (40, false))⟩, ⟨some 50, .iad 2 (.t 48) (.t 49), (some (40, false))⟩, ⟨some 51, .fad 1 (.t 50), (some (40, false))⟩, ⟨some 52, .ld 1 false (.t 51), (some (40, false))⟩, ⟨some 53, .call (.c (.fn 50 [])) [(.t 46), (.t 52)], (some (40, false))⟩, ⟨some 54, .un .not (.t 53), (some (40, false))⟩, ⟨some 55, .pick (.t 40) (.c (.x (.bool true))) (.t 54), none⟩])
        (.cond (.t 55)
          (.seq (.reg [⟨some 4, .mv (.c (.x (.bool false))), none⟩])
          .ret)
          .skip)))
      (.reg [⟨some 25, .mv (.t 5), none⟩, ⟨some 26, .bin .add (.t 25) (.c (.x (.int .i64 (1)))), none⟩, ⟨some 5, .mv (.t 26), none⟩]))))))
  (.seq (.reg [⟨some 4, .mv (.c (.x (.bool true))), none⟩])
  .ret))))⟩
theorem c49 : compFn Try.prog Try.f49 = some i49 := by kernel_rfl
/-- bothy/bothyref01.Texts -/
def i50 : IFn := ⟨26, [.tmp 4], (.seq (.reg [⟨some 4, .mv (.c (.x (.bool false))), none⟩])
  (.seq (.seq (.reg [⟨some 6, .mv (.t 0), none⟩, ⟨some 7, .len false (.t 6), none⟩, ⟨some 8, .mv (.t 1), none⟩, ⟨some 9, .len false (.t 8), none⟩, ⟨some 10, .bin .neq (.t 7) (.t 9), none⟩])
  (.cond (.t 10)
    (.seq (.reg [⟨some 4, .mv (.c (.x (.bool false))), none⟩])
    .ret)
    .skip))
  (.seq (.seq (.reg [⟨some 5, .mv (.c (.x (.int .i64 (0)))), none⟩])
  (.block 0
    (.loop
      (.seq (.seq (.reg [⟨some 11, .mv (.t 5), none⟩, ⟨some 12, .mv (.t 0), none⟩, ⟨some 13, .len false (.t 12), none⟩, ⟨some 14, .bin .lss (.t 11) (.t 13), none⟩])
      (.cond (.t 14)
        .skip
        (.exit 0)))
      (.seq (.block 1
        (.seq (.dreg 8 [] [⟨some 17, .mv (.t 0), none⟩, ⟨some 18, .mv (.t 5), none⟩, ⟨some 19, .iad 1 (.t 17) (.t 18), none⟩, ⟨some 20, .ld 1 false (.t 19), none⟩, ⟨some 21, .mv (.t 1), none⟩, ⟨some 22, .mv (.t 5), none⟩, ⟨some 23, .iad 1 (.t 21) (.t 22), none⟩, ⟨some 24, .ld 1 false (.t 23), none⟩, ⟨some 25, .bin .neq (.t 20) (.t 24), none⟩])
        (.cond (.t 25)
          (.seq (.reg [⟨some 4, .mv (.c (.x (.bool false))), none⟩])
          .ret)
          .skip)))
      (.reg [⟨some 15, .mv (.t 5), none⟩, ⟨some 16, .bin .add (.t 15) (.c (.x (.int .i64 (1)))), none⟩, ⟨some 5, .mv (.t 16), none⟩]))))))
  (.seq (.reg [⟨some 4, .mv (.c (.x (.bool true))), none⟩])
  .ret))))⟩
theorem c50 : compFn Try.prog Try.f50 = some i50 := by kernel_rfl
def G : FuncId → Option IFn
  | 3 => some i3
  | 4 => some i4
  | 5 => some i5
  | 6 => some i6
  | 7 => some i7
  | 8 => some i8
  | 9 => some i9
  | 10 => some i10
  | 11 => some i11
  | 12 => some i12
  | 13 => some i13
  | 14 => some i14
  | 15 => some i15
  | 16 => some i16
  | 17 => some i17
  | 18 => some i18
  | 19 => some i19
  | 20 => some i20
  | 21 => some i21
  | 22 => some i22
  | 24 => some i24
  | 25 => some i25
  | 27 => some i27
  | 28 => some i28
  | 29 => some i29
  | 30 => some i30
  | 31 => some i31
  | 32 => some i32
  | 33 => some i33
  | 34 => some i34
  | 35 => some i35
  | 36 => some i36
  | 37 => some i37
  | 38 => some i38
  | 39 => some i39
  | 40 => some i40
  | 41 => some i41
  | 42 => some i42
  | 43 => some i43
  | 44 => some i44
  | 45 => some i45
  | 47 => some i47
  | 48 => some i48
  | 49 => some i49
  | 50 => some i50
  | _ => none
theorem G_ok : GOk Try.prog G := by
  intro f p h
  unfold G at h
  split at h
  · cases h; exact ⟨Try.f3, Try.func3, by decide, c3⟩
  · cases h; exact ⟨Try.f4, Try.func4, by decide, c4⟩
  · cases h; exact ⟨Try.f5, Try.func5, by decide, c5⟩
  · cases h; exact ⟨Try.f6, Try.func6, by decide, c6⟩
  · cases h; exact ⟨Try.f7, Try.func7, by decide, c7⟩
  · cases h; exact ⟨Try.f8, Try.func8, by decide, c8⟩
  · cases h; exact ⟨Try.f9, Try.func9, by decide, c9⟩
  · cases h; exact ⟨Try.f10, Try.func10, by decide, c10⟩
  · cases h; exact ⟨Try.f11, Try.func11, by decide, c11⟩
  · cases h; exact ⟨Try.f12, Try.func12, by decide, c12⟩
  · cases h; exact ⟨Try.f13, Try.func13, by decide, c13⟩
  · cases h; exact ⟨Try.f14, Try.func14, by decide, c14⟩
  · cases h; exact ⟨Try.f15, Try.func15, by decide, c15⟩
  · cases h; exact ⟨Try.f16, Try.func16, by decide, c16⟩
  · cases h; exact ⟨Try.f17, Try.func17, by decide, c17⟩
  · cases h; exact ⟨Try.f18, Try.func18, by decide, c18⟩
  · cases h; exact ⟨Try.f19, Try.func19, by decide, c19⟩
  · cases h; exact ⟨Try.f20, Try.func20, by decide, c20⟩
  · cases h; exact ⟨Try.f21, Try.func21, by decide, c21⟩
  · cases h; exact ⟨Try.f22, Try.func22, by decide, c22⟩
  · cases h; exact ⟨Try.f24, Try.func24, by decide, c24⟩
  · cases h; exact ⟨Try.f25, Try.func25, by decide, c25⟩
  · cases h; exact ⟨Try.f27, Try.func27, by decide, c27⟩
  · cases h; exact ⟨Try.f28, Try.func28, by decide, c28⟩
  · cases h; exact ⟨Try.f29, Try.func29, by decide, c29⟩
  · cases h; exact ⟨Try.f30, Try.func30, by decide, c30⟩
  · cases h; exact ⟨Try.f31, Try.func31, by decide, c31⟩
  · cases h; exact ⟨Try.f32, Try.func32, by decide, c32⟩
  · cases h; exact ⟨Try.f33, Try.func33, by decide, c33⟩
  · cases h; exact ⟨Try.f34, Try.func34, by decide, c34⟩
  · cases h; exact ⟨Try.f35, Try.func35, by decide, c35⟩
  · cases h; exact ⟨Try.f36, Try.func36, by decide, c36⟩
  · cases h; exact ⟨Try.f37, Try.func37, by decide, c37⟩
  · cases h; exact ⟨Try.f38, Try.func38, by decide, c38⟩
  · cases h; exact ⟨Try.f39, Try.func39, by decide, c39⟩
  · cases h; exact ⟨Try.f40, Try.func40, by decide, c40⟩
  · cases h; exact ⟨Try.f41, Try.func41, by decide, c41⟩
  · cases h; exact ⟨Try.f42, Try.func42, by decide, c42⟩
  · cases h; exact ⟨Try.f43, Try.func43, by decide, c43⟩
  · cases h; exact ⟨Try.f44, Try.func44, by decide, c44⟩
  · cases h; exact ⟨Try.f45, Try.func45, by decide, c45⟩
  · cases h; exact ⟨Try.f47, Try.func47, by decide, c47⟩
  · cases h; exact ⟨Try.f48, Try.func48, by decide, c48⟩
  · cases h; exact ⟨Try.f49, Try.func49, by decide, c49⟩
  · cases h; exact ⟨Try.f50, Try.func50, by decide, c50⟩
  · cases h
end Go.Proofs.Ytecfcamlnfmebaa
