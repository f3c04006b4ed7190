/- The code of functions, as the abstract evaluator reads it. Printed by gen_ic.py. -/
import Derived.Test.YtobflnngfochiaaProg
import Derived.Test.YtobflnngfochiaaLA4
namespace Go.Proofs.Ytobflnngfochiaa
open Go.RowKit Go.Bo Go.Ab
/-- bothy/bothylaw50.IdlePlays -/
def i3 : IFn := ⟨204, [.tmp 4], (.seq (.reg [⟨some 4, .mv (.c (.x (.bool false))), none⟩])
  (.seq (.seq (.reg [⟨some 19, .mv (.t 1), none⟩, ⟨some 20, .len false (.t 19), none⟩, ⟨some 21, .bin .gtr (.t 20) (.c (.x (.int .i64 (50)))), none⟩])
  (.cond (.t 21)
    (.seq (.reg [⟨some 22, .call (.c (.fn 5 [])) [], none⟩, ⟨some 4, .mv (.t 22), none⟩])
    .ret)
    .skip))
  (.seq (.reg [⟨some 24, .mv (.t 0), none⟩, ⟨some 25, .call (.c (.fn 6 [])) [(.t 24)], none⟩, ⟨some 23, .mv (.t 25), none⟩, ⟨some 26, .ext (.t 23) 0, none⟩, ⟨some 27, .ext (.t 23) 1, none⟩, ⟨some 5, .mv (.t 26), none⟩, ⟨some 6, .mv (.t 27), none⟩])
  (.seq (.seq (.reg [⟨some 28, .mv (.t 0), none⟩, ⟨some 29, .bin .lss (.t 28) (.c (.x (.int .i64 (1)))), none⟩, ⟨some 30, .mv (.t 29), none⟩, ⟨some 31, .mv (.t 0), (some (30, false))⟩, ⟨some 32, .bin .gtr (.t 31) (.c (.x (.int .i64 (1073741824)))), (some (30, false))⟩, ⟨some 33, .pick (.t 30) (.c (.x (.bool true))) (.t 32), none⟩])
  (.cond (.t 33)
    (.seq (.reg [⟨some 34, .mv (.t 5), none⟩, ⟨some 35, .eq .ptr false (.t 34) (.c (.x .nilp)), none⟩, ⟨some 36, .mv (.t 35), none⟩, ⟨some 37, .mv (.t 6), (some (36, true))⟩, ⟨some 38, .bin .eql (.t 37) (.c (.x (.int .i64 (1)))), (some (36, true))⟩, ⟨some 39, .pick (.t 36) (.t 38) (.c (.x (.bool false))), none⟩, ⟨some 40, .mv (.t 39), none⟩, ⟨some 41, .call (.c (.fn 5 [])) [], (some (40, true))⟩, ⟨some 42, .pick (.t 40) (.t 41) (.c (.x (.bool false))), none⟩, ⟨some 4, .mv (.t 42), none⟩])
    .ret)
    .skip))
  (.seq (.seq (.reg [⟨some 43, .mv (.t 5), none⟩, ⟨some 44, .eq .ptr false (.t 43) (.c (.x .nilp)), none⟩, ⟨some 45, .mv (.t 44), none⟩, ⟨some 46, .mv (.t 6), (some (45, false))⟩, ⟨some 47, .bin .neq (.t 46) (.c (.x (.int .i64 (0)))), (some (45, false))⟩, ⟨some 48, .pick (.t 45) (.c (.x (.bool true))) (.t 47), none⟩])
  (.cond (.t 48)
    (.seq (.reg [⟨some 4, .mv (.c (.x (.bool false))), none⟩])
    .ret)
    .skip))
  (.seq (.reg [⟨some 7, .mv (.c (.x .nils)), none⟩])
  (.seq (.seq (.reg [⟨some 8, .mv (.c (.x (.int .i64 (0)))), none⟩])
  (.block 0
    (.loop
      (.seq (.seq (.reg [⟨some 49, .mv (.t 8), none⟩, ⟨some 50, .mv (.t 1), none⟩, ⟨some 51, .len false (.t 50), none⟩, ⟨some 52, .bin .lss (.t 49) (.t 51), none⟩])
      (.cond (.t 52)
        .skip
        (.exit 0)))
      (.seq (.block 1
        (.seq (.reg [⟨some 55, .mv (.t 1), none⟩, ⟨some 56, .mv (.t 8), none⟩, ⟨some 57, .iad 3 (.t 55) (.t 56), none⟩, ⟨some 58, .ld 3 true (.t 57), none⟩, ⟨some 9, .box (.c (.agg [.x (.int .i64 (0)), .x (.int .i64 (0)), .x (.int .i64 (0))])), none⟩, ⟨none, .sto 3 (.t 9) (.t 58), none⟩])
        (.seq (.seq (.reg [⟨some 59, .fad 0 (.t 9), none⟩, ⟨some 60, .ld 1 false (.t 59), none⟩])
        (.block 2
          (.seq (.reg [⟨some 123, .bin .eql (.t 60) (.c (.x (.int .i64 (0)))), none⟩, ⟨some 122, .mv (.t 123), none⟩])
          (.cond (.t 122)
            (.seq (.reg [⟨some 124, .mv (.t 5), none⟩, ⟨some 125, .fad 1 (.t 9), none⟩, ⟨some 126, .ld 1 false (.t 125), none⟩, ⟨some 127, .fad 2 (.t 9), none⟩, ⟨some 128, .ld 1 false (.t 127), none⟩, ⟨some 129, .call (.c (.fn 7 [])) [(.t 124), (.t 126), (.t 128)], none⟩])
            (.seq (.reg [⟨some 130, .fad 2 (.t 9), none⟩, ⟨some 131, .ld 1 false (.t 130), none⟩, ⟨some 132, .bin .geq (.t 131) (.c (.x (.int .i64 (0)))), none⟩, ⟨some 133, .mv (.t 132), none⟩, ⟨some 134, .fad 2 (.t 9), (some (133, true))⟩, ⟨some 135, .ld 1 false (.t 134), (some (133, true))⟩, ⟨some 136, .bin .leq (.t 135) (.c (.x (.int .i64 (1099511627776)))), (some (133, true))⟩, ⟨some 137, .pick (.t 133) (.t 136) (.c (.x (.bool false))), none⟩])
            (.cond (.t 137)
              (.reg [⟨some 138, .mv (.t 7), none⟩, ⟨some 139, .fad 1 (.t 9), none⟩, ⟨some 140, .ld 1 false (.t 139), none⟩, ⟨some 141, .fad 2 (.t 9), none⟩, ⟨some 142, .ld 1 false (.t 141), none⟩, ⟨some 143, .build [.x (.int .i64 (0)), .x (.int .i64 (0))] [(0, 1, (.t 140)), (1, 1, (.t 142))], none⟩, ⟨some 144, .call (.c (.fn 8 [])) [(.t 138), (.t 143)], none⟩, ⟨some 7, .mv (.t 144), none⟩])
              .skip)))
            (.seq (.reg [⟨some 146, .bin .eql (.t 60) (.c (.x (.int .i64 (1)))), none⟩, ⟨some 145, .mv (.t 146), none⟩])
            (.cond (.t 145)
              (.seq (.reg [⟨some 147, .mv (.t 7), none⟩, ⟨some 148, .fad 1 (.t 9), none⟩, ⟨some 149, .ld 1 false (.t 148), none⟩, ⟨some 150, .call (.c (.fn 9 [])) [(.t 147), (.t 149)], none⟩, ⟨some 10, .mv (.t 150), none⟩])
              (.seq (.seq (.reg [⟨some 151, .mv (.t 5), none⟩, ⟨some 152, .fad 1 (.t 9), none⟩, ⟨some 153, .ld 1 false (.t 152), none⟩, ⟨some 154, .call (.c (.fn 10 [])) [(.t 151), (.t 153)], none⟩, ⟨some 155, .mv (.t 10), none⟩, ⟨some 156, .len false (.t 155), none⟩, ⟨some 157, .mv (.t 7), none⟩, ⟨some 158, .len false (.t 157), none⟩, ⟨some 159, .bin .lss (.t 156) (.t 158), none⟩, ⟨some 160, .eq .bool true (.t 154) (.t 159), none⟩])
              (.cond (.t 160)
                (.seq (.reg [⟨some 4, .mv (.c (.x (.bool false))), none⟩])
                .ret)
                .skip))
              (.reg [⟨some 161, .mv (.t 10), none⟩, ⟨some 7, .mv (.t 161), none⟩])))
              (.seq (.reg [⟨some 61, .mv (.t 5), none⟩, ⟨some 62, .fad 2 (.t 9), none⟩, ⟨some 63, .ld 1 false (.t 62), none⟩, ⟨some 64, .call (.c (.fn 11 [])) [(.t 61), (.t 63)], none⟩, ⟨some 11, .mv (.t 64), none⟩])
              (.seq (.reg [⟨some 12, .mv (.c (.x (.int .i64 (0)))), none⟩])
              (.seq (.reg [⟨some 65, .mv (.t 7), none⟩, ⟨some 13, .mv (.t 65), none⟩])
              (.seq (.seq (.reg [⟨some 14, .mv (.c (.x (.int .i64 (0)))), none⟩])
              (.block 3
                (.loop
                  (.seq (.seq (.reg [⟨some 66, .mv (.t 14), none⟩, ⟨some 67, .mv (.t 7), none⟩, ⟨some 68, .len false (.t 67), none⟩, ⟨some 69, .bin .lss (.t 66) (.t 68), none⟩, ⟨some 70, .mv (.t 69), none⟩, ⟨some 71, .fad 2 (.t 9), (some (70, true))⟩, ⟨some 72, .ld 1 false (.t 71), (some (70, true))⟩, ⟨some 73, .bin .geq (.t 72) (.c (.x (.int .i64 (0)))), (some (70, true))⟩, ⟨some 74, .pick (.t 70) (.t 73) (.c (.x (.bool false))), none⟩, ⟨some 75, .mv (.t 74), none⟩, ⟨some 76, .fad 2 (.t 9), (some (75, true))⟩, ⟨some 77, .ld 1 false (.t 76), (some (75, true))⟩, ⟨some 78, .bin .leq (.t 77) (.c (.x (.int .i64 (2199023255552)))), (some (75, true))⟩, ⟨some 79, .pick (.t 75) (.t 78) (.c (.x (.bool false))), none⟩])
                  (.cond (.t 79)
                    .skip
                    (.exit 3)))
                  (.seq (.block 4
                    (.seq (.seq (.dreg 7 [] [⟨some 82, .fad 2 (.t 9), none⟩, ⟨some 83, .ld 1 false (.t 82), none⟩, ⟨some 84, .mv (.t 7), none⟩, ⟨some 85, .mv (.t 14), none⟩, ⟨some 86, .iad 2 (.t 84) (.t 85), none⟩, ⟨some 87, .fad 1 (.t 86), none⟩, ⟨some 88, .ld 1 false (.t 87), none⟩, ⟨some 89, .bin .sub (.t 83) (.t 88), none⟩, ⟨some 90, .mv (.t 0), none⟩, ⟨some 91, .bin .lss (.t 89) (.t 90), none⟩])
                    (.cond (.t 91)
                      (.exit 4)
                      .skip))
                    (.seq (.seq (.dreg 14 [] [⟨some 92, .mv (.t 12), none⟩, ⟨some 93, .mv (.t 11), none⟩, ⟨some 94, .len false (.t 93), none⟩, ⟨some 95, .bin .geq (.t 92) (.t 94), none⟩, ⟨some 96, .mv (.t 95), none⟩, ⟨some 97, .mv (.t 11), (some (96, false))⟩, ⟨some 98, .mv (.t 12), (some (96, false))⟩, ⟨some 99, .iad 1 (.t 97) (.t 98), (some (96, false))⟩, ⟨some 100, .ld 1 false (.t 99), (some (96, false))⟩, ⟨some 101, .mv (.t 7), (some (96, false))⟩, ⟨some 102, .mv (.t 14), (some (96, false))⟩, ⟨some 103, .iad 2 (.t 101) (.t 102), (some (96, false))⟩, ⟨some 104, .fad 0 (.t 103), (some (96, false))⟩, ⟨some 105, .ld 1 false (.t 104), (some (96, false))⟩, ⟨some 106, .bin .neq (.t 100) (.t 105), (some (96, false))⟩, ⟨some 107, .pick (.t 96) (.c (.x (.bool true))) (.t 106), none⟩])
                    (.cond (.t 107)
                      (.seq (.reg [⟨some 4, .mv (.c (.x (.bool false))), none⟩])
                      .ret)
                      .skip))
                    (.seq (.reg [⟨some 108, .mv (.t 12), none⟩, ⟨some 109, .bin .add (.t 108) (.c (.x (.int .i64 (1)))), none⟩, ⟨some 12, .mv (.t 109), none⟩])
                    (.reg [⟨some 110, .mv (.t 13), none⟩, ⟨some 111, .mv (.t 7), none⟩, ⟨some 112, .mv (.t 14), none⟩, ⟨some 113, .iad 2 (.t 111) (.t 112), none⟩, ⟨some 114, .fad 0 (.t 113), none⟩, ⟨some 115, .ld 1 false (.t 114), none⟩, ⟨some 116, .call (.c (.fn 9 [])) [(.t 110), (.t 115)], none⟩, ⟨some 13, .mv (.t 116), none⟩])))))
                  (.reg [⟨some 80, .mv (.t 14), none⟩, ⟨some 81, .bin .add (.t 80) (.c (.x (.int .i64 (1)))), none⟩, ⟨some 14, .mv (.t 81), none⟩]))))))
              (.seq (.seq (.reg [⟨some 117, .mv (.t 12), none⟩, ⟨some 118, .mv (.t 11), none⟩, ⟨some 119, .len false (.t 118), none⟩, ⟨some 120, .bin .neq (.t 117) (.t 119), none⟩])
              (.cond (.t 120)
                (.seq (.reg [⟨some 4, .mv (.c (.x (.bool false))), none⟩])
                .ret)
                .skip))
              (.reg [⟨some 121, .mv (.t 13), none⟩, ⟨some 7, .mv (.t 121), none⟩]))))))))))))
        (.seq (.reg [⟨some 15, .mv (.c (.x (.int .i64 (0)))), none⟩])
        (.seq (.seq (.reg [⟨some 16, .mv (.c (.x (.int .i64 (0)))), none⟩])
        (.block 5
          (.loop
            (.seq (.seq (.reg [⟨some 162, .mv (.t 16), none⟩, ⟨some 163, .mv (.t 7), none⟩, ⟨some 164, .len false (.t 163), none⟩, ⟨some 165, .bin .lss (.t 162) (.t 164), none⟩])
            (.cond (.t 165)
              .skip
              (.exit 5)))
            (.seq (.block 6
              (.seq (.reg [⟨some 168, .mv (.t 16), none⟩, ⟨some 169, .bin .eql (.t 168) (.c (.x (.int .i64 (0)))), none⟩, ⟨some 170, .mv (.t 169), none⟩, ⟨some 171, .mv (.t 7), (some (170, false))⟩, ⟨some 172, .mv (.t 16), (some (170, false))⟩, ⟨some 173, .iad 2 (.t 171) (.t 172), (some (170, false))⟩, ⟨some 174, .fad 1 (.t 173), (some (170, false))⟩, ⟨some 175, .ld 1 false (.t 174), (some (170, false))⟩, ⟨some 176, .mv (.t 0), (some (170, false))⟩, ⟨some 177, .bin .add (.t 175) (.t 176), (some (170, false))⟩, ⟨some 178, .mv (.t 15), (some (170, false))⟩, ⟨some 179, .bin .lss (.t 177) (.t 178), (some (170, false))⟩, ⟨some 180, .pick (.t 170) (.c (.x (.bool true))) (.t 179), none⟩])
              (.cond (.t 180)
                (.reg [⟨some 181, .mv (.t 7), none⟩, ⟨some 182, .mv (.t 16), none⟩, ⟨some 183, .iad 2 (.t 181) (.t 182), none⟩, ⟨some 184, .fad 1 (.t 183), none⟩, ⟨some 185, .ld 1 false (.t 184), none⟩, ⟨some 186, .mv (.t 0), none⟩, ⟨some 187, .bin .add (.t 185) (.t 186), none⟩, ⟨some 15, .mv (.t 187), none⟩])
                .skip)))
            (.reg [⟨some 166, .mv (.t 16), none⟩, ⟨some 167, .bin .add (.t 166) (.c (.x (.int .i64 (1)))), none⟩, ⟨some 16, .mv (.t 167), none⟩]))))))
        (.seq (.reg [⟨some 189, .mv (.t 5), none⟩, ⟨some 190, .call (.c (.fn 12 [])) [(.t 189)], none⟩, ⟨some 188, .mv (.t 190), none⟩, ⟨some 191, .ext (.t 188) 0, none⟩, ⟨some 192, .ext (.t 188) 1, none⟩, ⟨some 17, .mv (.t 191), none⟩, ⟨some 18, .mv (.t 192), none⟩])
        (.seq (.reg [⟨some 193, .mv (.t 17), none⟩, ⟨some 194, .mv (.t 15), none⟩, ⟨some 195, .bin .neq (.t 193) (.t 194), none⟩, ⟨some 196, .mv (.t 195), none⟩, ⟨some 197, .mv (.t 18), (some (196, false))⟩, ⟨some 198, .mv (.t 7), (some (196, false))⟩, ⟨some 199, .len false (.t 198), (some (196, false))⟩, ⟨some 200, .bin .gtr (.t 199) (.c (.x (.int .i64 (0)))), (some (196, false))⟩, ⟨some 201, .eq .bool true (.t 197) (.t 200), (some (196, false))⟩, ⟨some 202, .pick (.t 196) (.c (.x (.bool true))) (.t 201), none⟩])
        (.cond (.t 202)
          (.seq (.reg [⟨some 4, .mv (.c (.x (.bool false))), none⟩])
          .ret)
          .skip))))))))
      (.reg [⟨some 53, .mv (.t 8), none⟩, ⟨some 54, .bin .add (.t 53) (.c (.x (.int .i64 (1)))), none⟩, ⟨some 8, .mv (.t 54), none⟩]))))))
  (.seq (.reg [⟨some 203, .call (.c (.fn 5 [])) [], none⟩, ⟨some 4, .mv (.t 203), none⟩])
  .ret))))))))⟩
theorem c3 : compFn Try.prog Try.f3 = some i3 := by kernel_rfl
/-- bothy/bothylaw50.IdleNone -/
def i4 : IFn := ⟨39, [.tmp 2], (.seq (.reg [⟨some 1, .box (.t 0), none⟩, ⟨some 2, .mv (.c (.x (.bool false))), none⟩])
  (.seq (.reg [⟨some 3, .mv (.c (.x .nilp)), none⟩])
  (.seq (.reg [⟨some 6, .mv (.t 3), none⟩, ⟨some 7, .fad 1 (.t 1), none⟩, ⟨some 8, .ld 1 false (.t 7), none⟩, ⟨some 9, .fad 2 (.t 1), none⟩, ⟨some 10, .ld 1 false (.t 9), none⟩, ⟨some 11, .call (.c (.fn 7 [])) [(.t 6), (.t 8), (.t 10)], none⟩])
  (.seq (.reg [⟨some 13, .mv (.t 3), none⟩, ⟨some 14, .call (.c (.fn 12 [])) [(.t 13)], none⟩, ⟨some 12, .mv (.t 14), none⟩, ⟨some 15, .ext (.t 12) 0, none⟩, ⟨some 16, .ext (.t 12) 1, none⟩, ⟨some 4, .mv (.t 15), none⟩, ⟨some 5, .mv (.t 16), none⟩])
  (.seq (.reg [⟨some 17, .mv (.t 3), none⟩, ⟨some 18, .fad 1 (.t 1), none⟩, ⟨some 19, .ld 1 false (.t 18), none⟩, ⟨some 20, .call (.c (.fn 10 [])) [(.t 17), (.t 19)], none⟩, ⟨some 21, .un .not (.t 20), none⟩, ⟨some 22, .mv (.t 21), none⟩, ⟨some 23, .mv (.t 3), (some (22, true))⟩, ⟨some 24, .fad 2 (.t 1), (some (22, true))⟩, ⟨some 25, .ld 1 false (.t 24), (some (22, true))⟩, ⟨some 26, .call (.c (.fn 11 [])) [(.t 23), (.t 25)], (some (22, true))⟩, ⟨some 27, .len false (.t 26), (some (22, true))⟩, ⟨some 28, .mv (.t 4), (some (22, true))⟩, ⟨some 29, .bin .add (.t 27) (.t 28), (some (22, true))⟩, ⟨some 30, .bin .eql (.t 29) (.c (.x (.int .i64 (0)))), (some (22, true))⟩, ⟨some 31, .pick (.t 22) (.t 30) (.c (.x (.bool false))), none⟩, ⟨some 32, .mv (.t 31), none⟩, ⟨some 33, .mv (.t 5), (some (32, true))⟩, ⟨some 34, .un .not (.t 33), (some (32, true))⟩, ⟨some 35, .pick (.t 32) (.t 34) (.c (.x (.bool false))), none⟩, ⟨some 36, .mv (.t 35), none⟩, ⟨some 37, .call (.c (.fn 5 [])) [], (some (36, true))⟩, ⟨some 38, .pick (.t 36) (.t 37) (.c (.x (.bool false))), none⟩, ⟨some 2, .mv (.t 38), none⟩])
  .ret)))))⟩
theorem c4 : compFn Try.prog Try.f4 = some i4 := by kernel_rfl
/-- bothy/bothylaw50.awake -/
def i5 : IFn := ⟨81, [.tmp 0], (.seq (.reg [⟨some 0, .mv (.c (.x (.bool false))), none⟩])
  (.seq (.reg [⟨some 12, .call (.c (.fn 6 [])) [(.c (.x (.int .i64 (5))))], none⟩, ⟨some 11, .mv (.t 12), none⟩, ⟨some 13, .ext (.t 11) 0, none⟩, ⟨some 14, .ext (.t 11) 1, none⟩, ⟨some 1, .mv (.t 13), none⟩, ⟨some 2, .mv (.t 14), none⟩])
  (.seq (.reg [⟨some 16, .call (.c (.fn 6 [])) [(.c (.x (.int .i64 (0))))], none⟩, ⟨some 15, .mv (.t 16), none⟩, ⟨some 17, .ext (.t 15) 0, none⟩, ⟨some 18, .ext (.t 15) 1, none⟩, ⟨some 3, .mv (.t 17), none⟩, ⟨some 4, .mv (.t 18), none⟩])
  (.seq (.seq (.reg [⟨some 19, .mv (.t 1), none⟩, ⟨some 20, .eq .ptr false (.t 19) (.c (.x .nilp)), none⟩])
  (.cond (.t 20)
    (.seq (.reg [⟨some 0, .mv (.c (.x (.bool false))), none⟩])
    .ret)
    .skip))
  (.seq (.reg [⟨some 21, .mv (.t 1), none⟩, ⟨some 22, .call (.c (.fn 7 [])) [(.t 21), (.c (.x (.int .i64 (2)))), (.c (.x (.int .i64 (3))))], none⟩])
  (.seq (.reg [⟨some 23, .mv (.t 1), none⟩, ⟨some 24, .call (.c (.fn 7 [])) [(.t 23), (.c (.x (.int .i64 (1)))), (.c (.x (.int .i64 (3))))], none⟩])
  (.seq (.reg [⟨some 26, .mv (.t 1), none⟩, ⟨some 27, .call (.c (.fn 12 [])) [(.t 26)], none⟩, ⟨some 25, .mv (.t 27), none⟩, ⟨some 28, .ext (.t 25) 0, none⟩, ⟨some 29, .ext (.t 25) 1, none⟩, ⟨some 5, .mv (.t 28), none⟩, ⟨some 6, .mv (.t 29), none⟩])
  (.seq (.reg [⟨some 30, .mv (.t 1), none⟩, ⟨some 31, .call (.c (.fn 11 [])) [(.t 30), (.c (.x (.int .i64 (7))))], none⟩, ⟨some 32, .mv (.t 1), none⟩, ⟨some 33, .call (.c (.fn 11 [])) [(.t 32), (.c (.x (.int .i64 (8))))], none⟩, ⟨some 7, .mv (.t 31), none⟩, ⟨some 8, .mv (.t 33), none⟩])
  (.seq (.reg [⟨some 35, .mv (.t 1), none⟩, ⟨some 36, .call (.c (.fn 12 [])) [(.t 35)], none⟩, ⟨some 34, .mv (.t 36), none⟩, ⟨some 37, .ext (.t 34) 0, none⟩, ⟨some 38, .ext (.t 34) 1, none⟩, ⟨some 9, .mv (.t 37), none⟩, ⟨some 10, .mv (.t 38), none⟩])
  (.seq (.seq (.reg [⟨some 39, .mv (.t 8), none⟩, ⟨some 40, .len false (.t 39), none⟩, ⟨some 41, .bin .neq (.t 40) (.c (.x (.int .i64 (2)))), none⟩])
  (.cond (.t 41)
    (.seq (.reg [⟨some 0, .mv (.c (.x (.bool false))), none⟩])
    .ret)
    .skip))
  (.seq (.reg [⟨some 42, .mv (.t 2), none⟩, ⟨some 43, .bin .eql (.t 42) (.c (.x (.int .i64 (0)))), none⟩, ⟨some 44, .mv (.t 43), none⟩, ⟨some 45, .mv (.t 4), (some (44, true))⟩, ⟨some 46, .bin .eql (.t 45) (.c (.x (.int .i64 (1)))), (some (44, true))⟩, ⟨some 47, .pick (.t 44) (.t 46) (.c (.x (.bool false))), none⟩, ⟨some 48, .mv (.t 47), none⟩, ⟨some 49, .mv (.t 5), (some (48, true))⟩, ⟨some 50, .bin .eql (.t 49) (.c (.x (.int .i64 (8)))), (some (48, true))⟩, ⟨some 51, .pick (.t 48) (.t 50) (.c (.x (.bool false))), none⟩, ⟨some 52, .mv (.t 51), none⟩, ⟨some 53, .mv (.t 6), (some (52, true))⟩, ⟨some 54, .pick (.t 52) (.t 53) (.c (.x (.bool false))), none⟩, ⟨some 55, .mv (.t 54), none⟩, ⟨some 56, .mv (.t 7), (some (55, true))⟩, ⟨some 57, .len false (.t 56), (some (55, true))⟩, ⟨some 58, .bin .eql (.t 57) (.c (.x (.int .i64 (0)))), (some (55, true))⟩, ⟨some 59, .pick (.t 55) (.t 58) (.c (.x (.bool false))), none⟩, ⟨some 60, .mv (.t 59), none⟩, ⟨some 61, .mv (.t 8), (some (60, true))⟩, ⟨some 62, .iad 1 (.t 61) (.c (.x (.int .i64 (0)))), (some (60, true))⟩, ⟨some 63, .ld 1 false (.t 62), (some (60, true))⟩, ⟨some 64, .bin .eql (.t 63) (.c (.x (.int .i64 (1)))), (some (60, true))⟩, ⟨some 65, .pick (.t 60) (.t 64) (.c (.x (.bool false))), none⟩, ⟨some 66, .mv (.t 65), none⟩, ⟨some 67, .mv (.t 8), (some (66, true))⟩, ⟨some 68, .iad 1 (.t 67) (.c (.x (.int .i64 (1)))), (some (66, true))⟩, ⟨some 69, .ld 1 false (.t 68), (some (66, true))⟩, ⟨some 70, .bin .eql (.t 69) (.c (.x (.int .i64 (2)))), (some (66, true))⟩, ⟨some 71, .pick (.t 66) (.t 70) (.c (.x (.bool false))), none⟩, ⟨some 72, .mv (.t 71), none⟩, ⟨some 73, .mv (.t 10), (some (72, true))⟩, ⟨some 74, .un .not (.t 73), (some (72, true))⟩, ⟨some 75, .pick (.t 72) (.t 74) (.c (.x (.bool false))), none⟩, ⟨some 76, .mv (.t 75), none⟩, ⟨some 77, .mv (.t 1), (some (76, true))⟩, ⟨some 78, .call (.c (.fn 10 [])) [(.t 77), (.c (.x (.int .i64 (1))))], (some (76, true))⟩, ⟨some 79, .un .not (.t 78), (some (76, true))⟩, ⟨some 80, .pick (.t 76) (.t 79) (.c (.x (.bool false))), none⟩, ⟨some 0, .mv (.t 80), none⟩])
  .ret)))))))))))⟩
theorem c5 : compFn Try.prog Try.f5 = some i5 := by kernel_rfl
/-- bothy/idle.New -/
def i6 : IFn := ⟨14, [.tmp 2, .tmp 3], (.seq (.reg [⟨some 2, .mv (.c (.x .nilp)), none⟩, ⟨some 3, .mv (.c (.x (.int .i64 (0)))), none⟩])
  (.seq (.seq (.reg [⟨some 4, .mv (.t 0), none⟩, ⟨some 5, .bin .lss (.t 4) (.c (.x (.int .i64 (1)))), none⟩, ⟨some 6, .mv (.t 5), none⟩, ⟨some 7, .mv (.t 0), (some (6, false))⟩, ⟨some 8, .bin .gtr (.t 7) (.c (.x (.int .i64 (1073741824)))), (some (6, false))⟩, ⟨some 9, .pick (.t 6) (.c (.x (.bool true))) (.t 8), none⟩])
  (.cond (.t 9)
    (.seq (.reg [⟨some 2, .mv (.c (.x .nilp)), none⟩, ⟨some 3, .mv (.c (.x (.int .i64 (1)))), none⟩])
    .ret)
    .skip))
  (.seq (.reg [⟨some 10, .mkm (.int .i64) false, none⟩, ⟨some 11, .mv (.t 0), none⟩, ⟨some 12, .build [.mnil, .x (.int .i64 (0))] [(0, 1, (.t 10)), (1, 1, (.t 11))], none⟩, ⟨some 13, .box (.t 12), none⟩, ⟨some 2, .mv (.t 13), none⟩, ⟨some 3, .mv (.c (.x (.int .i64 (0)))), none⟩])
  .ret)))⟩
theorem c6 : compFn Try.prog Try.f6 = some i6 := by kernel_rfl
/-- (*bothy/idle.Idle).Touch -/
def i7 : IFn := ⟨22, [], (.seq (.reg [⟨some 6, .mv (.t 0), none⟩, ⟨some 7, .eq .ptr true (.t 6) (.c (.x .nilp)), none⟩, ⟨some 8, .mv (.t 7), none⟩, ⟨some 9, .mv (.t 2), (some (8, true))⟩, ⟨some 10, .bin .geq (.t 9) (.c (.x (.int .i64 (0)))), (some (8, true))⟩, ⟨some 11, .pick (.t 8) (.t 10) (.c (.x (.bool false))), none⟩, ⟨some 12, .mv (.t 11), none⟩, ⟨some 13, .mv (.t 2), (some (12, true))⟩, ⟨some 14, .bin .leq (.t 13) (.c (.x (.int .i64 (1099511627776)))), (some (12, true))⟩, ⟨some 15, .pick (.t 12) (.t 14) (.c (.x (.bool false))), none⟩])
  (.cond (.t 15)
    (.reg [⟨some 16, .mv (.t 0), none⟩, ⟨some 17, .nck (.t 16), none⟩, ⟨some 18, .fad 0 (.t 17), none⟩, ⟨some 19, .ld 1 false (.t 18), none⟩, ⟨some 20, .mv (.t 1), none⟩, ⟨some 21, .mv (.t 2), none⟩, ⟨none, .mup (.int .i64) (.t 19) (.t 20) (.t 21), none⟩])
    .skip))⟩
theorem c7 : compFn Try.prog Try.f7 = some i7 := by kernel_rfl
/-- bothy/bothylaw50.put -/
def i8 : IFn := ⟨41, [.tmp 4], (.seq (.reg [⟨some 3, .box (.t 1), none⟩, ⟨some 4, .mv (.c (.x .nils)), none⟩])
  (.seq (.reg [⟨some 7, .mv (.t 0), none⟩, ⟨some 8, .fad 0 (.t 3), none⟩, ⟨some 9, .ld 1 false (.t 8), none⟩, ⟨some 10, .call (.c (.fn 9 [])) [(.t 7), (.t 9)], none⟩, ⟨some 0, .mv (.t 10), none⟩])
  (.seq (.reg [⟨some 5, .mv (.c (.x (.int .i64 (0)))), none⟩])
  (.seq (.block 0
    (.loop
      (.seq (.seq (.dreg 12 [] [⟨some 11, .mv (.t 5), none⟩, ⟨some 12, .mv (.t 0), none⟩, ⟨some 13, .len false (.t 12), none⟩, ⟨some 14, .bin .lss (.t 11) (.t 13), none⟩, ⟨some 15, .mv (.t 14), none⟩, ⟨some 16, .mv (.t 0), (some (15, true))⟩, ⟨some 17, .mv (.t 5), (some (15, true))⟩, ⟨some 18, .iad 2 (.t 16) (.t 17), (some (15, true))⟩, ⟨some 19, .fad 0 (.t 18), (some (15, true))⟩, ⟨some 20, .ld 1 false (.t 19), (some (15, true))⟩, ⟨some 21, .fad 0 (.t 3), (some (15, true))⟩, ⟨some 22, .ld 1 false (.t 21), (some (15, true))⟩, ⟨some 23, .bin .lss (.t 20) (.t 22), (some (15, true))⟩, ⟨some 24, .pick (.t 15) (.t 23) (.c (.x (.bool false))), none⟩])
      (.cond (.t 24)
        .skip
        (.exit 0)))
      (.block 1
        (.reg [⟨some 25, .mv (.t 5), none⟩, ⟨some 26, .bin .add (.t 25) (.c (.x (.int .i64 (1)))), none⟩, ⟨some 5, .mv (.t 26), none⟩])))))
  (.seq (.reg [⟨some 6, .mv (.c (.x .nils)), none⟩])
  (.seq (.reg [⟨some 27, .mv (.t 6), none⟩, ⟨some 28, .mv (.t 0), none⟩, ⟨some 29, .mv (.t 5), none⟩, ⟨some 30, .slc 2 (.t 28) none (some (.t 29)) none, none⟩, ⟨some 31, .app 34 2 16 (.t 27) (.t 30), none⟩, ⟨some 6, .mv (.t 31), none⟩])
  (.seq (.reg [⟨some 32, .mv (.t 6), none⟩, ⟨some 33, .ld 2 true (.t 3), none⟩, ⟨some 34, .bsl 34 2 1 [(.t 33)], none⟩, ⟨some 35, .app 34 2 16 (.t 32) (.t 34), none⟩, ⟨some 6, .mv (.t 35), none⟩])
  (.seq (.reg [⟨some 36, .mv (.t 6), none⟩, ⟨some 37, .mv (.t 0), none⟩, ⟨some 38, .mv (.t 5), none⟩, ⟨some 39, .slc 2 (.t 37) (some (.t 38)) none none, none⟩, ⟨some 40, .app 34 2 16 (.t 36) (.t 39), none⟩, ⟨some 4, .mv (.t 40), none⟩])
  .ret))))))))⟩
theorem c8 : compFn Try.prog Try.f8 = some i8 := by kernel_rfl
/-- bothy/bothylaw50.out -/
def i9 : IFn := ⟨28, [.tmp 4], (.seq (.reg [⟨some 4, .mv (.c (.x .nils)), none⟩])
  (.seq (.reg [⟨some 5, .mv (.c (.x .nils)), none⟩])
  (.seq (.seq (.reg [⟨some 6, .mv (.c (.x (.int .i64 (0)))), none⟩])
  (.block 0
    (.loop
      (.seq (.seq (.reg [⟨some 7, .mv (.t 6), none⟩, ⟨some 8, .mv (.t 0), none⟩, ⟨some 9, .len false (.t 8), none⟩, ⟨some 10, .bin .lss (.t 7) (.t 9), none⟩])
      (.cond (.t 10)
        .skip
        (.exit 0)))
      (.seq (.block 1
        (.seq (.reg [⟨some 13, .mv (.t 0), none⟩, ⟨some 14, .mv (.t 6), none⟩, ⟨some 15, .iad 2 (.t 13) (.t 14), none⟩, ⟨some 16, .fad 0 (.t 15), none⟩, ⟨some 17, .ld 1 false (.t 16), none⟩, ⟨some 18, .mv (.t 1), none⟩, ⟨some 19, .bin .neq (.t 17) (.t 18), none⟩])
        (.cond (.t 19)
          (.reg [⟨some 20, .mv (.t 5), none⟩, ⟨some 21, .mv (.t 0), none⟩, ⟨some 22, .mv (.t 6), none⟩, ⟨some 23, .iad 2 (.t 21) (.t 22), none⟩, ⟨some 24, .ld 2 true (.t 23), none⟩, ⟨some 25, .bsl 34 2 1 [(.t 24)], none⟩, ⟨some 26, .app 34 2 16 (.t 20) (.t 25), none⟩, ⟨some 5, .mv (.t 26), none⟩])
          .skip)))
      (.reg [⟨some 11, .mv (.t 6), none⟩, ⟨some 12, .bin .add (.t 11) (.c (.x (.int .i64 (1)))), none⟩, ⟨some 6, .mv (.t 12), none⟩]))))))
  (.seq (.reg [⟨some 27, .mv (.t 5), none⟩, ⟨some 4, .mv (.t 27), none⟩])
  .ret))))⟩
theorem c9 : compFn Try.prog Try.f9 = some i9 := by kernel_rfl
/-- (*bothy/idle.Idle).Drop -/
def i10 : IFn := ⟨24, [.tmp 4], (.seq (.reg [⟨some 4, .mv (.c (.x (.bool false))), none⟩])
  (.seq (.seq (.reg [⟨some 7, .mv (.t 0), none⟩, ⟨some 8, .eq .ptr false (.t 7) (.c (.x .nilp)), none⟩])
  (.cond (.t 8)
    (.seq (.reg [⟨some 4, .mv (.c (.x (.bool false))), none⟩])
    .ret)
    .skip))
  (.seq (.reg [⟨some 10, .mv (.t 0), none⟩, ⟨some 11, .nck (.t 10), none⟩, ⟨some 12, .fad 0 (.t 11), none⟩, ⟨some 13, .ld 1 false (.t 12), none⟩, ⟨some 14, .mv (.t 1), none⟩, ⟨some 15, .mlk (.int .i64) true (.x (.int .i64 (0))) (.t 13) (.t 14), none⟩, ⟨some 9, .mv (.t 15), none⟩, ⟨some 16, .ext (.t 9) 0, none⟩, ⟨some 17, .ext (.t 9) 1, none⟩, ⟨some 5, .mv (.t 16), none⟩, ⟨some 6, .mv (.t 17), none⟩])
  (.seq (.reg [⟨some 18, .mv (.t 0), none⟩, ⟨some 19, .nck (.t 18), none⟩, ⟨some 20, .fad 0 (.t 19), none⟩, ⟨some 21, .ld 1 false (.t 20), none⟩, ⟨some 22, .mv (.t 1), none⟩, ⟨none, .mdl (.int .i64) (.t 21) (.t 22), none⟩])
  (.seq (.reg [⟨some 23, .mv (.t 6), none⟩, ⟨some 4, .mv (.t 23), none⟩])
  .ret)))))⟩
theorem c10 : compFn Try.prog Try.f10 = some i10 := by kernel_rfl
/-- (*bothy/idle.Idle).Due -/
def i11 : IFn := ⟨57, [.tmp 4], (.seq (.reg [⟨some 4, .mv (.c (.x .nils)), none⟩])
  (.seq (.seq (.reg [⟨some 10, .mv (.t 0), none⟩, ⟨some 11, .eq .ptr false (.t 10) (.c (.x .nilp)), none⟩, ⟨some 12, .mv (.t 11), none⟩, ⟨some 13, .mv (.t 1), (some (12, false))⟩, ⟨some 14, .bin .lss (.t 13) (.c (.x (.int .i64 (0)))), (some (12, false))⟩, ⟨some 15, .pick (.t 12) (.c (.x (.bool true))) (.t 14), none⟩, ⟨some 16, .mv (.t 15), none⟩, ⟨some 17, .mv (.t 1), (some (16, false))⟩, ⟨some 18, .bin .gtr (.t 17) (.c (.x (.int .i64 (2199023255552)))), (some (16, false))⟩, ⟨some 19, .pick (.t 16) (.c (.x (.bool true))) (.t 18), none⟩])
  (.cond (.t 19)
    (.seq (.reg [⟨some 4, .mv (.c (.x .nils)), none⟩])
    .ret)
    .skip))
  (.seq (.reg [⟨some 5, .mv (.c (.x .nils)), none⟩])
  (.seq (.seq (.reg [⟨some 20, .mv (.t 0), none⟩, ⟨some 21, .nck (.t 20), none⟩, ⟨some 22, .fad 0 (.t 21), none⟩, ⟨some 23, .ld 1 false (.t 22), none⟩, ⟨some 24, .rgm (.t 23), none⟩])
  (.block 0
    (.loop
      (.seq (.reg [⟨some 25, .nxt false (.t 24), none⟩, ⟨some 26, .ext (.t 25) 0, none⟩])
      (.seq (.cond (.t 26)
        .skip
        (.exit 0))
      (.block 1
        (.seq (.reg [⟨some 27, .ent (.t 24), none⟩, ⟨some 28, .ext (.t 27) 0, none⟩, ⟨some 29, .ext (.t 27) 1, none⟩, ⟨some 6, .mv (.t 28), none⟩, ⟨some 7, .mv (.t 29), none⟩])
        (.seq (.reg [⟨some 30, .mv (.t 1), none⟩, ⟨some 31, .mv (.t 7), none⟩, ⟨some 32, .bin .sub (.t 30) (.t 31), none⟩, ⟨some 33, .mv (.t 0), none⟩, ⟨some 34, .nck (.t 33), none⟩, ⟨some 35, .fad 1 (.t 34), none⟩, ⟨some 36, .ld 1 false (.t 35), none⟩, ⟨some 37, .bin .geq (.t 32) (.t 36), none⟩])
        (.cond (.t 37)
          (.reg [⟨some 38, .mv (.t 5), none⟩, ⟨some 39, .mv (.t 6), none⟩, ⟨some 40, .bsl 3 1 1 [(.t 39)], none⟩, ⟨some 41, .app 3 1 8 (.t 38) (.t 40), none⟩, ⟨some 5, .mv (.t 41), none⟩])
          .skip)))))))))
  (.seq (.reg [⟨some 42, .mv (.t 5), none⟩, ⟨some 43, .call (.c (.fn 13 [])) [(.t 42)], none⟩])
  (.seq (.seq (.reg [⟨some 44, .mv (.t 5), none⟩, ⟨some 45, .len false (.t 44), none⟩, ⟨some 46, .mv (.c (.x (.int .i64 (0)))), none⟩])
  (.block 2
    (.loop
      (.seq (.reg [⟨some 47, .bin .lss (.t 46) (.t 45), none⟩])
      (.seq (.cond (.t 47)
        .skip
        (.exit 2))
      (.seq (.block 3
        (.seq (.reg [⟨some 48, .iad 1 (.t 44) (.t 46), none⟩, ⟨some 49, .ld 1 false (.t 48), none⟩, ⟨some 9, .mv (.t 49), none⟩])
        (.reg [⟨some 50, .mv (.t 0), none⟩, ⟨some 51, .nck (.t 50), none⟩, ⟨some 52, .fad 0 (.t 51), none⟩, ⟨some 53, .ld 1 false (.t 52), none⟩, ⟨some 54, .mv (.t 9), none⟩, ⟨none, .mdl (.int .i64) (.t 53) (.t 54), none⟩])))
      (.reg [⟨some 55, .bin .add (.t 46) (.c (.x (.int .i64 (1)))), none⟩, ⟨some 46, .mv (.t 55), none⟩])))))))
  (.seq (.reg [⟨some 56, .mv (.t 5), none⟩, ⟨some 4, .mv (.t 56), none⟩])
  .ret)))))))⟩
theorem c11 : compFn Try.prog Try.f11 = some i11 := by kernel_rfl
/-- (*bothy/idle.Idle).Next -/
def i12 : IFn := ⟨35, [.tmp 2, .tmp 3], (.seq (.reg [⟨some 2, .mv (.c (.x (.int .i64 (0)))), none⟩, ⟨some 3, .mv (.c (.x (.bool false))), none⟩])
  (.seq (.seq (.reg [⟨some 7, .mv (.t 0), none⟩, ⟨some 8, .eq .ptr false (.t 7) (.c (.x .nilp)), none⟩, ⟨some 9, .mv (.t 8), none⟩, ⟨some 10, .mv (.t 0), (some (9, false))⟩, ⟨some 11, .nck (.t 10), (some (9, false))⟩, ⟨some 12, .fad 0 (.t 11), (some (9, false))⟩, ⟨some 13, .ld 1 false (.t 12), (some (9, false))⟩, ⟨some 14, .mln (.t 13), (some (9, false))⟩, ⟨some 15, .bin .eql (.t 14) (.c (.x (.int .i64 (0)))), (some (9, false))⟩, ⟨some 16, .pick (.t 9) (.c (.x (.bool true))) (.t 15), none⟩])
  (.cond (.t 16)
    (.seq (.reg [⟨some 2, .mv (.c (.x (.int .i64 (0)))), none⟩, ⟨some 3, .mv (.c (.x (.bool false))), none⟩])
    .ret)
    .skip))
  (.seq (.reg [⟨some 4, .mv (.c (.x (.int .i64 (2199023255552)))), none⟩])
  (.seq (.seq (.reg [⟨some 17, .mv (.t 0), none⟩, ⟨some 18, .nck (.t 17), none⟩, ⟨some 19, .fad 0 (.t 18), none⟩, ⟨some 20, .ld 1 false (.t 19), none⟩, ⟨some 21, .rgm (.t 20), none⟩])
  (.block 0
    (.loop
      (.seq (.reg [⟨some 22, .nxt false (.t 21), none⟩, ⟨some 23, .ext (.t 22) 0, none⟩])
      (.seq (.cond (.t 23)
        .skip
        (.exit 0))
      (.block 1
        (.seq (.reg [⟨some 24, .ent (.t 21), none⟩, ⟨some 25, .ext (.t 24) 1, none⟩, ⟨some 6, .mv (.t 25), none⟩])
        (.reg [⟨some 26, .mv (.t 4), none⟩, ⟨some 27, .mv (.t 6), none⟩, ⟨some 28, .mv (.t 0), none⟩, ⟨some 29, .nck (.t 28), none⟩, ⟨some 30, .fad 1 (.t 29), none⟩, ⟨some 31, .ld 1 false (.t 30), none⟩, ⟨some 32, .bin .add (.t 27) (.t 31), none⟩, ⟨some 33, .mnx false (.t 26) (.t 32), none⟩, ⟨some 4, .mv (.t 33), none⟩]))))))))
  (.seq (.reg [⟨some 34, .mv (.t 4), none⟩, ⟨some 2, .mv (.t 34), none⟩, ⟨some 3, .mv (.c (.x (.bool true))), none⟩])
  .ret)))))⟩
theorem c12 : compFn Try.prog Try.f12 = some i12 := by kernel_rfl
def G : FuncId → Option IFn
  | 3 => some i3
  | 4 => some i4
  | 5 => some i5
  | 6 => some i6
  | 7 => some i7
  | 8 => some i8
  | 9 => some i9
  | 10 => some i10
  | 11 => some i11
  | 12 => some i12
  | _ => none
theorem G_ok : GOk Try.prog G := by
  intro f p h
  unfold G at h
  split at h
  · cases h; exact ⟨Try.f3, Try.func3, by decide, c3⟩
  · cases h; exact ⟨Try.f4, Try.func4, by decide, c4⟩
  · cases h; exact ⟨Try.f5, Try.func5, by decide, c5⟩
  · cases h; exact ⟨Try.f6, Try.func6, by decide, c6⟩
  · cases h; exact ⟨Try.f7, Try.func7, by decide, c7⟩
  · cases h; exact ⟨Try.f8, Try.func8, by decide, c8⟩
  · cases h; exact ⟨Try.f9, Try.func9, by decide, c9⟩
  · cases h; exact ⟨Try.f10, Try.func10, by decide, c10⟩
  · cases h; exact ⟨Try.f11, Try.func11, by decide, c11⟩
  · cases h; exact ⟨Try.f12, Try.func12, by decide, c12⟩
  · cases h
end Go.Proofs.Ytobflnngfochiaa
