/- The code of functions, as the abstract evaluator reads it. Printed by gen_ic.py. -/
import Derived.Test.YtogplpcamiicgaaProg
import Derived.Test.YtogplpcamiicgaaAb28
namespace Go.Proofs.Ytogplpcamiicgaa
open Go.RowKit Go.Bo Go.Ab
/-- bothy/bothylaw38.PagesPlay -/
def i3 : IFn := ⟨165, [.tmp 4], (.seq (.reg [⟨some 4, .mv (.c (.x (.bool false))), none⟩])
  (.seq (.seq (.reg [⟨some 19, .mv (.t 1), none⟩, ⟨some 20, .len false (.t 19), none⟩, ⟨some 21, .bin .gtr (.t 20) (.c (.x (.int .i64 (40)))), none⟩])
  (.cond (.t 21)
    (.seq (.reg [⟨some 22, .call (.c (.fn 12 [])) [], none⟩, ⟨some 4, .mv (.t 22), none⟩])
    .ret)
    .skip))
  (.seq (.reg [⟨some 24, .mv (.t 0), none⟩, ⟨some 25, .call (.c (.fn 13 [])) [(.t 24)], none⟩, ⟨some 23, .mv (.t 25), none⟩, ⟨some 26, .ext (.t 23) 0, none⟩, ⟨some 27, .ext (.t 23) 1, none⟩, ⟨some 5, .mv (.t 26), none⟩, ⟨some 6, .mv (.t 27), none⟩])
  (.seq (.seq (.reg [⟨some 28, .mv (.t 0), none⟩, ⟨some 29, .bin .lss (.t 28) (.c (.x (.int .i64 (1)))), none⟩, ⟨some 30, .mv (.t 29), none⟩, ⟨some 31, .mv (.t 0), (some (30, false))⟩, ⟨some 32, .bin .gtr (.t 31) (.c (.x (.int .i64 (1024)))), (some (30, false))⟩, ⟨some 33, .pick (.t 30) (.c (.x (.bool true))) (.t 32), none⟩])
  (.cond (.t 33)
    (.seq (.reg [⟨some 34, .mv (.t 5), none⟩, ⟨some 35, .eq .ptr false (.t 34) (.c (.x .nilp)), none⟩, ⟨some 36, .mv (.t 35), none⟩, ⟨some 37, .mv (.t 6), (some (36, true))⟩, ⟨some 38, .bin .eql (.t 37) (.c (.x (.int .i64 (1)))), (some (36, true))⟩, ⟨some 39, .pick (.t 36) (.t 38) (.c (.x (.bool false))), none⟩, ⟨some 40, .mv (.t 39), none⟩, ⟨some 41, .call (.c (.fn 12 [])) [], (some (40, true))⟩, ⟨some 42, .pick (.t 40) (.t 41) (.c (.x (.bool false))), none⟩, ⟨some 4, .mv (.t 42), none⟩])
    .ret)
    .skip))
  (.seq (.seq (.reg [⟨some 43, .mv (.t 5), none⟩, ⟨some 44, .eq .ptr false (.t 43) (.c (.x .nilp)), none⟩, ⟨some 45, .mv (.t 44), none⟩, ⟨some 46, .mv (.t 6), (some (45, false))⟩, ⟨some 47, .bin .neq (.t 46) (.c (.x (.int .i64 (0)))), (some (45, false))⟩, ⟨some 48, .pick (.t 45) (.c (.x (.bool true))) (.t 47), none⟩])
  (.cond (.t 48)
    (.seq (.reg [⟨some 4, .mv (.c (.x (.bool false))), none⟩])
    .ret)
    .skip))
  (.seq (.reg [⟨some 7, .mv (.c (.x .nils)), none⟩])
  (.seq (.reg [⟨some 8, .mv (.c (.x (.int .i64 (0)))), none⟩])
  (.seq (.seq (.reg [⟨some 9, .mv (.c (.x (.int .i64 (0)))), none⟩])
  (.block 0
    (.loop
      (.seq (.seq (.reg [⟨some 49, .mv (.t 9), none⟩, ⟨some 50, .mv (.t 1), none⟩, ⟨some 51, .len false (.t 50), none⟩, ⟨some 52, .bin .lss (.t 49) (.t 51), none⟩])
      (.cond (.t 52)
        .skip
        (.exit 0)))
      (.seq (.block 1
        (.seq (.reg [⟨some 10, .mv (.c (.x (.bool true))), none⟩])
        (.seq (.seq (.reg [⟨some 55, .mv (.t 1), none⟩, ⟨some 56, .mv (.t 9), none⟩, ⟨some 57, .iad 3 (.t 55) (.t 56), none⟩, ⟨some 58, .fad 0 (.t 57), none⟩, ⟨some 59, .ld 1 false (.t 58), none⟩])
        (.block 2
          (.seq (.reg [⟨some 83, .bin .eql (.t 59) (.c (.x (.int .i64 (0)))), none⟩, ⟨some 82, .mv (.t 83), none⟩])
          (.cond (.t 82)
            (.seq (.reg [⟨some 84, .mv (.t 1), none⟩, ⟨some 85, .mv (.t 9), none⟩, ⟨some 86, .iad 3 (.t 84) (.t 85), none⟩, ⟨some 87, .fad 2 (.t 86), none⟩, ⟨some 88, .ld 1 false (.t 87), none⟩, ⟨some 89, .mnx false (.t 88) (.c (.x (.int .i64 (40)))), none⟩, ⟨some 90, .mnx true (.c (.x (.int .i64 (0)))) (.t 89), none⟩, ⟨some 91, .call (.c (.fn 14 [])) [(.t 90)], none⟩, ⟨some 11, .mv (.t 91), none⟩])
            (.seq (.reg [⟨some 93, .mv (.t 5), none⟩, ⟨some 94, .mv (.t 11), none⟩, ⟨some 95, .call (.c (.fn 15 [])) [(.t 93), (.t 94)], none⟩, ⟨some 92, .mv (.t 95), none⟩, ⟨some 96, .ext (.t 92) 0, none⟩, ⟨some 97, .ext (.t 92) 1, none⟩, ⟨some 12, .mv (.t 96), none⟩, ⟨some 13, .mv (.t 97), none⟩])
            (.seq (.reg [⟨some 98, .mv (.t 11), none⟩, ⟨some 99, .len false (.t 98), none⟩, ⟨some 100, .bin .gtr (.t 99) (.c (.x (.int .i64 (0)))), none⟩, ⟨some 101, .mv (.t 100), none⟩, ⟨some 102, .mv (.t 7), (some (101, true))⟩, ⟨some 103, .len false (.t 102), (some (101, true))⟩, ⟨some 104, .mv (.t 0), (some (101, true))⟩, ⟨some 105, .bin .lss (.t 103) (.t 104), (some (101, true))⟩, ⟨some 106, .pick (.t 101) (.t 105) (.c (.x (.bool false))), none⟩])
            (.cond (.t 106)
              (.seq (.reg [⟨some 107, .mv (.t 8), none⟩, ⟨some 108, .bin .add (.t 107) (.c (.x (.int .i64 (1)))), none⟩, ⟨some 8, .mv (.t 108), none⟩])
              (.seq (.reg [⟨some 14, .mv (.c (.x .nils)), none⟩])
              (.seq (.seq (.reg [⟨some 15, .mv (.c (.x (.int .i64 (0)))), none⟩])
              (.block 3
                (.loop
                  (.seq (.seq (.reg [⟨some 109, .mv (.t 15), none⟩, ⟨some 110, .mv (.t 11), none⟩, ⟨some 111, .len false (.t 110), none⟩, ⟨some 112, .bin .lss (.t 109) (.t 111), none⟩])
                  (.cond (.t 112)
                    .skip
                    (.exit 3)))
                  (.seq (.block 4
                    (.reg [⟨some 115, .mv (.t 14), none⟩, ⟨some 116, .mv (.t 11), none⟩, ⟨some 117, .mv (.t 15), none⟩, ⟨some 118, .iad 2 (.t 116) (.t 117), none⟩, ⟨some 119, .fad 0 (.t 118), none⟩, ⟨some 120, .ld 1 false (.t 119), none⟩, ⟨some 121, .bsl 9 1 1 [(.t 120)], none⟩, ⟨some 122, .app 9 1 16 (.t 115) (.t 121), none⟩, ⟨some 14, .mv (.t 122), none⟩]))
                  (.reg [⟨some 113, .mv (.t 15), none⟩, ⟨some 114, .bin .add (.t 113) (.c (.x (.int .i64 (1)))), none⟩, ⟨some 15, .mv (.t 114), none⟩]))))))
              (.seq (.reg [⟨some 123, .mv (.t 7), none⟩, ⟨some 124, .mv (.t 8), none⟩, ⟨some 125, .mv (.t 14), none⟩, ⟨some 126, .build [.x (.int .i64 (0)), .x .nils] [(0, 1, (.t 124)), (1, 1, (.t 125))], none⟩, ⟨some 127, .bsl 40 2 1 [(.t 126)], none⟩, ⟨some 128, .app 40 2 32 (.t 123) (.t 127), none⟩, ⟨some 7, .mv (.t 128), none⟩])
              (.reg [⟨some 129, .mv (.t 12), none⟩, ⟨some 130, .mv (.t 8), none⟩, ⟨some 131, .bin .eql (.t 129) (.t 130), none⟩, ⟨some 132, .mv (.t 131), none⟩, ⟨some 133, .mv (.t 13), (some (132, true))⟩, ⟨some 134, .pick (.t 132) (.t 133) (.c (.x (.bool false))), none⟩, ⟨some 10, .mv (.t 134), none⟩])))))
              (.reg [⟨some 135, .mv (.t 12), none⟩, ⟨some 136, .bin .eql (.t 135) (.c (.x (.int .i64 (0)))), none⟩, ⟨some 137, .mv (.t 136), none⟩, ⟨some 138, .mv (.t 13), (some (137, true))⟩, ⟨some 139, .un .not (.t 138), (some (137, true))⟩, ⟨some 140, .pick (.t 137) (.t 139) (.c (.x (.bool false))), none⟩, ⟨some 10, .mv (.t 140), none⟩])))))
            (.seq (.reg [⟨some 142, .bin .eql (.t 59) (.c (.x (.int .i64 (1)))), none⟩, ⟨some 141, .mv (.t 142), none⟩])
            (.cond (.t 141)
              (.seq (.reg [⟨some 144, .mv (.t 5), none⟩, ⟨some 145, .mv (.t 7), none⟩, ⟨some 146, .mv (.t 1), none⟩, ⟨some 147, .mv (.t 9), none⟩, ⟨some 148, .iad 3 (.t 146) (.t 147), none⟩, ⟨some 149, .ld 3 true (.t 148), none⟩, ⟨some 150, .call (.c (.fn 16 [])) [(.t 144), (.t 145), (.t 149)], none⟩, ⟨some 143, .mv (.t 150), none⟩, ⟨some 151, .ext (.t 143) 0, none⟩, ⟨some 152, .ext (.t 143) 1, none⟩, ⟨some 16, .mv (.t 151), none⟩, ⟨some 17, .mv (.t 152), none⟩])
              (.seq (.reg [⟨some 153, .mv (.t 16), none⟩, ⟨some 7, .mv (.t 153), none⟩])
              (.reg [⟨some 154, .mv (.t 17), none⟩, ⟨some 10, .mv (.t 154), none⟩])))
              (.seq (.reg [⟨some 60, .mv (.t 7), none⟩, ⟨some 61, .mv (.t 1), none⟩, ⟨some 62, .mv (.t 9), none⟩, ⟨some 63, .iad 3 (.t 61) (.t 62), none⟩, ⟨some 64, .fad 1 (.t 63), none⟩, ⟨some 65, .ld 1 false (.t 64), none⟩, ⟨some 66, .call (.c (.fn 17 [])) [(.t 60), (.t 65)], none⟩, ⟨some 18, .mv (.t 66), none⟩])
              (.seq (.reg [⟨some 67, .mv (.t 5), none⟩, ⟨some 68, .mv (.t 1), none⟩, ⟨some 69, .mv (.t 9), none⟩, ⟨some 70, .iad 3 (.t 68) (.t 69), none⟩, ⟨some 71, .fad 1 (.t 70), none⟩, ⟨some 72, .ld 1 false (.t 71), none⟩, ⟨some 73, .call (.c (.fn 18 [])) [(.t 67), (.t 72)], none⟩, ⟨some 74, .mv (.t 18), none⟩, ⟨some 75, .bin .geq (.t 74) (.c (.x (.int .i64 (0)))), none⟩, ⟨some 76, .eq .bool false (.t 73) (.t 75), none⟩, ⟨some 10, .mv (.t 76), none⟩])
              (.seq (.reg [⟨some 77, .mv (.t 18), none⟩, ⟨some 78, .bin .geq (.t 77) (.c (.x (.int .i64 (0)))), none⟩])
              (.cond (.t 78)
                (.reg [⟨some 79, .mv (.t 7), none⟩, ⟨some 80, .mv (.t 18), none⟩, ⟨some 81, .call (.c (.fn 19 [])) [(.t 79), (.t 80)], none⟩, ⟨some 7, .mv (.t 81), none⟩])
                .skip))))))))))
        (.seq (.reg [⟨some 155, .mv (.t 10), none⟩, ⟨some 156, .un .not (.t 155), none⟩, ⟨some 157, .mv (.t 156), none⟩, ⟨some 158, .mv (.t 5), (some (157, false))⟩, ⟨some 159, .call (.c (.fn 20 [])) [(.t 158)], (some (157, false))⟩, ⟨some 160, .mv (.t 7), (some (157, false))⟩, ⟨some 161, .len false (.t 160), (some (157, false))⟩, ⟨some 162, .bin .neq (.t 159) (.t 161), (some (157, false))⟩, ⟨some 163, .pick (.t 157) (.c (.x (.bool true))) (.t 162), none⟩])
        (.cond (.t 163)
          (.seq (.reg [⟨some 4, .mv (.c (.x (.bool false))), none⟩])
          .ret)
          .skip)))))
      (.reg [⟨some 53, .mv (.t 9), none⟩, ⟨some 54, .bin .add (.t 53) (.c (.x (.int .i64 (1)))), none⟩, ⟨some 9, .mv (.t 54), none⟩]))))))
  (.seq (.reg [⟨some 164, .call (.c (.fn 12 [])) [], none⟩, ⟨some 4, .mv (.t 164), none⟩])
  .ret)))))))))⟩
theorem c3 : compFn Try.prog Try.f3 = some i3 := by kernel_rfl
/-- bothy/bothylaw38.PagesNone -/
def i4 : IFn := ⟨53, [.tmp 2], (.seq (.reg [⟨some 1, .box (.t 0), none⟩, ⟨some 2, .mv (.c (.x (.bool false))), none⟩])
  (.seq (.reg [⟨some 3, .mv (.c (.x .nilp)), none⟩])
  (.seq (.reg [⟨some 10, .mv (.t 3), none⟩, ⟨some 11, .call (.c (.fn 14 [])) [(.c (.x (.int .i64 (1))))], none⟩, ⟨some 12, .call (.c (.fn 15 [])) [(.t 10), (.t 11)], none⟩, ⟨some 9, .mv (.t 12), none⟩, ⟨some 13, .ext (.t 9) 0, none⟩, ⟨some 14, .ext (.t 9) 1, none⟩, ⟨some 4, .mv (.t 13), none⟩, ⟨some 5, .mv (.t 14), none⟩])
  (.seq (.reg [⟨some 16, .mv (.t 3), none⟩, ⟨some 17, .fad 1 (.t 1), none⟩, ⟨some 18, .ld 1 false (.t 17), none⟩, ⟨some 19, .fad 2 (.t 1), none⟩, ⟨some 20, .ld 1 false (.t 19), none⟩, ⟨some 21, .call (.c (.fn 21 [])) [(.t 16), (.t 18), (.t 20)], none⟩, ⟨some 15, .mv (.t 21), none⟩, ⟨some 22, .ext (.t 15) 0, none⟩, ⟨some 23, .ext (.t 15) 1, none⟩, ⟨some 24, .ext (.t 15) 2, none⟩, ⟨some 6, .mv (.t 22), none⟩, ⟨some 7, .mv (.t 23), none⟩, ⟨some 8, .mv (.t 24), none⟩])
  (.seq (.reg [⟨some 25, .mv (.t 4), none⟩, ⟨some 26, .mv (.t 7), none⟩, ⟨some 27, .bin .add (.t 25) (.t 26), none⟩, ⟨some 28, .mv (.t 6), none⟩, ⟨some 29, .len false (.t 28), none⟩, ⟨some 30, .bin .add (.t 27) (.t 29), none⟩, ⟨some 31, .mv (.t 3), none⟩, ⟨some 32, .call (.c (.fn 20 [])) [(.t 31)], none⟩, ⟨some 33, .bin .add (.t 30) (.t 32), none⟩, ⟨some 34, .bin .eql (.t 33) (.c (.x (.int .i64 (0)))), none⟩, ⟨some 35, .mv (.t 34), none⟩, ⟨some 36, .mv (.t 5), (some (35, true))⟩, ⟨some 37, .un .not (.t 36), (some (35, true))⟩, ⟨some 38, .pick (.t 35) (.t 37) (.c (.x (.bool false))), none⟩, ⟨some 39, .mv (.t 38), none⟩, ⟨some 40, .mv (.t 8), (some (39, true))⟩, ⟨some 41, .bin .eql (.t 40) (.c (.x (.int .i64 (12)))), (some (39, true))⟩, ⟨some 42, .pick (.t 39) (.t 41) (.c (.x (.bool false))), none⟩, ⟨some 43, .mv (.t 42), none⟩, ⟨some 44, .mv (.t 3), (some (43, true))⟩, ⟨some 45, .fad 1 (.t 1), (some (43, true))⟩, ⟨some 46, .ld 1 false (.t 45), (some (43, true))⟩, ⟨some 47, .call (.c (.fn 18 [])) [(.t 44), (.t 46)], (some (43, true))⟩, ⟨some 48, .un .not (.t 47), (some (43, true))⟩, ⟨some 49, .pick (.t 43) (.t 48) (.c (.x (.bool false))), none⟩, ⟨some 50, .mv (.t 49), none⟩, ⟨some 51, .call (.c (.fn 12 [])) [], (some (50, true))⟩, ⟨some 52, .pick (.t 50) (.t 51) (.c (.x (.bool false))), none⟩, ⟨some 2, .mv (.t 52), none⟩])
  .ret)))))⟩
theorem c4 : compFn Try.prog Try.f4 = some i4 := by kernel_rfl
/-- bothy/bothylaw38.PagesAll -/
def i5 : IFn := ⟨117, [.tmp 4], (.seq (.reg [⟨some 4, .mv (.c (.x (.bool false))), none⟩])
  (.seq (.reg [⟨some 17, .call (.c (.fn 13 [])) [(.c (.x (.int .i64 (4))))], none⟩, ⟨some 16, .mv (.t 17), none⟩, ⟨some 18, .ext (.t 16) 0, none⟩, ⟨some 19, .ext (.t 16) 1, none⟩, ⟨some 5, .mv (.t 18), none⟩, ⟨some 6, .mv (.t 19), none⟩])
  (.seq (.seq (.reg [⟨some 20, .mv (.t 5), none⟩, ⟨some 21, .eq .ptr false (.t 20) (.c (.x .nilp)), none⟩, ⟨some 22, .mv (.t 21), none⟩, ⟨some 23, .mv (.t 1), (some (22, false))⟩, ⟨some 24, .len false (.t 23), (some (22, false))⟩, ⟨some 25, .bin .gtr (.t 24) (.c (.x (.int .i64 (100)))), (some (22, false))⟩, ⟨some 26, .pick (.t 22) (.c (.x (.bool true))) (.t 25), none⟩])
  (.cond (.t 26)
    (.seq (.reg [⟨some 27, .mv (.t 5), none⟩, ⟨some 28, .eq .ptr true (.t 27) (.c (.x .nilp)), none⟩, ⟨some 29, .mv (.t 28), none⟩, ⟨some 30, .call (.c (.fn 12 [])) [], (some (29, true))⟩, ⟨some 31, .pick (.t 29) (.t 30) (.c (.x (.bool false))), none⟩, ⟨some 4, .mv (.t 31), none⟩])
    .ret)
    .skip))
  (.seq (.reg [⟨some 32, .mv (.t 0), none⟩, ⟨some 33, .cvi .i64 (.t 32), none⟩, ⟨some 34, .call (.c (.fn 14 [])) [(.t 33)], none⟩, ⟨some 7, .mv (.t 34), none⟩])
  (.seq (.reg [⟨some 36, .mv (.t 5), none⟩, ⟨some 37, .mv (.t 7), none⟩, ⟨some 38, .call (.c (.fn 15 [])) [(.t 36), (.t 37)], none⟩, ⟨some 35, .mv (.t 38), none⟩, ⟨some 39, .ext (.t 35) 0, none⟩, ⟨some 40, .ext (.t 35) 1, none⟩, ⟨some 8, .mv (.t 39), none⟩, ⟨some 9, .mv (.t 40), none⟩])
  (.seq (.seq (.reg [⟨some 41, .mv (.t 9), none⟩, ⟨some 42, .un .not (.t 41), none⟩])
  (.cond (.t 42)
    (.seq (.reg [⟨some 43, .mv (.t 0), none⟩, ⟨some 44, .bin .eql (.t 43) (.c (.x (.int .u8 (0)))), none⟩, ⟨some 45, .mv (.t 44), none⟩, ⟨some 46, .call (.c (.fn 12 [])) [], (some (45, true))⟩, ⟨some 47, .pick (.t 45) (.t 46) (.c (.x (.bool false))), none⟩, ⟨some 4, .mv (.t 47), none⟩])
    .ret)
    .skip))
  (.seq (.reg [⟨some 10, .mv (.c (.x (.int .i64 (0)))), none⟩])
  (.seq (.seq (.reg [⟨some 11, .mv (.c (.x (.int .i64 (0)))), none⟩])
  (.block 0
    (.loop
      (.seq (.seq (.reg [⟨some 48, .mv (.t 11), none⟩, ⟨some 49, .mv (.t 1), none⟩, ⟨some 50, .len false (.t 49), none⟩, ⟨some 51, .bin .lss (.t 48) (.t 50), none⟩, ⟨some 52, .mv (.t 51), none⟩, ⟨some 53, .mv (.t 8), (some (52, true))⟩, ⟨some 54, .bin .neq (.t 53) (.c (.x (.int .i64 (0)))), (some (52, true))⟩, ⟨some 55, .pick (.t 52) (.t 54) (.c (.x (.bool false))), none⟩])
      (.cond (.t 55)
        .skip
        (.exit 0)))
      (.seq (.block 1
        (.seq (.reg [⟨some 59, .mv (.t 5), none⟩, ⟨some 60, .mv (.t 8), none⟩, ⟨some 61, .mv (.t 1), none⟩, ⟨some 62, .mv (.t 11), none⟩, ⟨some 63, .iad 1 (.t 61) (.t 62), none⟩, ⟨some 64, .ld 1 false (.t 63), none⟩, ⟨some 65, .bin .rem (.t 64) (.c (.x (.int .u8 (20)))), none⟩, ⟨some 66, .cvi .i64 (.t 65), none⟩, ⟨some 67, .bin .add (.t 66) (.c (.x (.int .i64 (1)))), none⟩, ⟨some 68, .call (.c (.fn 21 [])) [(.t 59), (.t 60), (.t 67)], none⟩, ⟨some 58, .mv (.t 68), none⟩, ⟨some 69, .ext (.t 58) 0, none⟩, ⟨some 70, .ext (.t 58) 1, none⟩, ⟨some 71, .ext (.t 58) 2, none⟩, ⟨some 12, .mv (.t 69), none⟩, ⟨some 13, .mv (.t 70), none⟩, ⟨some 14, .mv (.t 71), none⟩])
        (.seq (.seq (.reg [⟨some 72, .mv (.t 14), none⟩, ⟨some 73, .bin .neq (.t 72) (.c (.x (.int .i64 (0)))), none⟩, ⟨some 74, .mv (.t 73), none⟩, ⟨some 75, .mv (.t 12), (some (74, false))⟩, ⟨some 76, .len false (.t 75), (some (74, false))⟩, ⟨some 77, .mv (.t 7), (some (74, false))⟩, ⟨some 78, .len false (.t 77), (some (74, false))⟩, ⟨some 79, .mv (.t 10), (some (74, false))⟩, ⟨some 80, .bin .sub (.t 78) (.t 79), (some (74, false))⟩, ⟨some 81, .bin .gtr (.t 76) (.t 80), (some (74, false))⟩, ⟨some 82, .pick (.t 74) (.c (.x (.bool true))) (.t 81), none⟩])
        (.cond (.t 82)
          (.seq (.reg [⟨some 4, .mv (.c (.x (.bool false))), none⟩])
          .ret)
          .skip))
        (.seq (.seq (.reg [⟨some 15, .mv (.c (.x (.int .i64 (0)))), none⟩])
        (.block 2
          (.loop
            (.seq (.seq (.reg [⟨some 83, .mv (.t 15), none⟩, ⟨some 84, .mv (.t 12), none⟩, ⟨some 85, .len false (.t 84), none⟩, ⟨some 86, .bin .lss (.t 83) (.t 85), none⟩])
            (.cond (.t 86)
              .skip
              (.exit 2)))
            (.seq (.block 3
              (.seq (.dreg 12 [] [⟨some 89, .mv (.t 12), none⟩, ⟨some 90, .mv (.t 15), none⟩, ⟨some 91, .iad 2 (.t 89) (.t 90), none⟩, ⟨some 92, .fad 0 (.t 91), none⟩, ⟨some 93, .ld 1 false (.t 92), none⟩, ⟨some 94, .mv (.t 7), none⟩, ⟨some 95, .mv (.t 10), none⟩, ⟨some 96, .mv (.t 15), none⟩, ⟨some 97, .bin .add (.t 95) (.t 96), none⟩, ⟨some 98, .iad 2 (.t 94) (.t 97), none⟩, ⟨some 99, .fad 0 (.t 98), none⟩, ⟨some 100, .ld 1 false (.t 99), none⟩, ⟨some 101, .bin .neq (.t 93) (.t 100), none⟩])
              (.cond (.t 101)
                (.seq (.reg [⟨some 4, .mv (.c (.x (.bool false))), none⟩])
                .ret)
                .skip)))
            (.reg [⟨some 87, .mv (.t 15), none⟩, ⟨some 88, .bin .add (.t 87) (.c (.x (.int .i64 (1)))), none⟩, ⟨some 15, .mv (.t 88), none⟩]))))))
        (.seq (.reg [⟨some 102, .mv (.t 10), none⟩, ⟨some 103, .mv (.t 12), none⟩, ⟨some 104, .len false (.t 103), none⟩, ⟨some 105, .bin .add (.t 102) (.t 104), none⟩, ⟨some 10, .mv (.t 105), none⟩])
        (.reg [⟨some 106, .mv (.t 13), none⟩, ⟨some 8, .mv (.t 106), none⟩]))))))
      (.reg [⟨some 56, .mv (.t 11), none⟩, ⟨some 57, .bin .add (.t 56) (.c (.x (.int .i64 (1)))), none⟩, ⟨some 11, .mv (.t 57), none⟩]))))))
  (.seq (.reg [⟨some 107, .mv (.t 8), none⟩, ⟨some 108, .bin .eql (.t 107) (.c (.x (.int .i64 (0)))), none⟩, ⟨some 109, .mv (.t 10), none⟩, ⟨some 110, .mv (.t 7), none⟩, ⟨some 111, .len false (.t 110), none⟩, ⟨some 112, .bin .eql (.t 109) (.t 111), none⟩, ⟨some 113, .eq .bool false (.t 108) (.t 112), none⟩, ⟨some 114, .mv (.t 113), none⟩, ⟨some 115, .call (.c (.fn 12 [])) [], (some (114, true))⟩, ⟨some 116, .pick (.t 114) (.t 115) (.c (.x (.bool false))), none⟩, ⟨some 4, .mv (.t 116), none⟩])
  .ret)))))))))⟩
theorem c5 : compFn Try.prog Try.f5 = some i5 := by kernel_rfl
/-- bothy/bothylaw48.PolicyGood -/
def i6 : IFn := ⟨123, [.tmp 6], (.seq (.reg [⟨some 3, .box (.t 0), none⟩, ⟨some 6, .mv (.c (.x (.bool false))), none⟩])
  (.seq (.seq (.reg [⟨some 11, .mv (.t 1), none⟩, ⟨some 12, .len true (.t 11), none⟩, ⟨some 13, .bin .gtr (.t 12) (.c (.x (.int .i64 (300)))), none⟩, ⟨some 14, .mv (.t 13), none⟩, ⟨some 15, .mv (.t 2), (some (14, false))⟩, ⟨some 16, .len false (.t 15), (some (14, false))⟩, ⟨some 17, .bin .gtr (.t 16) (.c (.x (.int .i64 (40)))), (some (14, false))⟩, ⟨some 18, .pick (.t 14) (.c (.x (.bool true))) (.t 17), none⟩])
  (.cond (.t 18)
    (.seq (.reg [⟨some 19, .call (.c (.fn 22 [])) [], none⟩, ⟨some 6, .mv (.t 19), none⟩])
    .ret)
    .skip))
  (.seq (.seq (.reg [⟨some 7, .mv (.c (.x (.int .i64 (0)))), none⟩])
  (.block 0
    (.loop
      (.seq (.seq (.reg [⟨some 20, .mv (.t 7), none⟩, ⟨some 21, .mv (.t 2), none⟩, ⟨some 22, .len false (.t 21), none⟩, ⟨some 23, .bin .lss (.t 20) (.t 22), none⟩])
      (.cond (.t 23)
        .skip
        (.exit 0)))
      (.seq (.block 1
        (.seq (.reg [⟨some 26, .mv (.t 2), none⟩, ⟨some 27, .mv (.t 7), none⟩, ⟨some 28, .iad 1 (.t 26) (.t 27), none⟩, ⟨some 29, .ld 1 false (.t 28), none⟩, ⟨some 30, .len true (.t 29), none⟩, ⟨some 31, .bin .gtr (.t 30) (.c (.x (.int .i64 (200)))), none⟩])
        (.cond (.t 31)
          (.seq (.reg [⟨some 32, .call (.c (.fn 22 [])) [], none⟩, ⟨some 6, .mv (.t 32), none⟩])
          .ret)
          .skip)))
      (.reg [⟨some 24, .mv (.t 7), none⟩, ⟨some 25, .bin .add (.t 24) (.c (.x (.int .i64 (1)))), none⟩, ⟨some 7, .mv (.t 25), none⟩]))))))
  (.seq (.reg [⟨some 33, .fad 0 (.t 3), none⟩, ⟨some 34, .ld 1 false (.t 33), none⟩, ⟨some 35, .bin .geq (.t 34) (.c (.x (.int .i64 (0)))), none⟩, ⟨some 36, .mv (.t 35), none⟩, ⟨some 37, .fad 0 (.t 3), (some (36, true))⟩, ⟨some 38, .ld 1 false (.t 37), (some (36, true))⟩, ⟨some 39, .bin .leq (.t 38) (.c (.x (.int .i64 (128)))), (some (36, true))⟩, ⟨some 40, .pick (.t 36) (.t 39) (.c (.x (.bool false))), none⟩, ⟨some 41, .mv (.t 40), none⟩, ⟨some 42, .fad 1 (.t 3), (some (41, true))⟩, ⟨some 43, .ld 1 false (.t 42), (some (41, true))⟩, ⟨some 44, .bin .geq (.t 43) (.c (.x (.int .i64 (0)))), (some (41, true))⟩, ⟨some 45, .pick (.t 41) (.t 44) (.c (.x (.bool false))), none⟩, ⟨some 46, .mv (.t 45), none⟩, ⟨some 47, .fad 1 (.t 3), (some (46, true))⟩, ⟨some 48, .ld 1 false (.t 47), (some (46, true))⟩, ⟨some 49, .bin .leq (.t 48) (.c (.x (.int .i64 (4)))), (some (46, true))⟩, ⟨some 50, .pick (.t 46) (.t 49) (.c (.x (.bool false))), none⟩, ⟨some 51, .mv (.t 50), none⟩, ⟨some 52, .fad 2 (.t 3), (some (51, true))⟩, ⟨some 53, .ld 1 false (.t 52), (some (51, true))⟩, ⟨some 54, .bin .geq (.t 53) (.c (.x (.int .i64 (0)))), (some (51, true))⟩, ⟨some 55, .pick (.t 51) (.t 54) (.c (.x (.bool false))), none⟩, ⟨some 56, .mv (.t 55), none⟩, ⟨some 57, .fad 2 (.t 3), (some (56, true))⟩, ⟨some 58, .ld 1 false (.t 57), (some (56, true))⟩, ⟨some 59, .bin .leq (.t 58) (.c (.x (.int .i64 (24)))), (some (56, true))⟩, ⟨some 60, .pick (.t 56) (.t 59) (.c (.x (.bool false))), none⟩, ⟨some 8, .mv (.t 60), none⟩])
  (.seq (.reg [⟨some 61, .ld 3 true (.t 3), none⟩, ⟨some 62, .mv (.t 2), none⟩, ⟨some 63, .mv (.t 1), none⟩, ⟨some 64, .call (.c (.fn 23 [])) [(.t 61), (.t 62), (.t 63)], none⟩, ⟨some 9, .mv (.t 64), none⟩])
  (.seq (.seq (.reg [⟨some 65, .mv (.t 8), none⟩, ⟨some 66, .un .not (.t 65), none⟩])
  (.cond (.t 66)
    (.seq (.reg [⟨some 67, .ld 3 true (.t 3), none⟩, ⟨some 68, .call (.c (.fn 24 [])) [(.t 67)], none⟩, ⟨some 69, .bin .eql (.t 68) (.c (.x (.int .i64 (2)))), none⟩, ⟨some 70, .mv (.t 69), none⟩, ⟨some 71, .ld 3 true (.t 3), (some (70, true))⟩, ⟨some 72, .mv (.t 1), (some (70, true))⟩, ⟨some 73, .mv (.t 2), (some (70, true))⟩, ⟨some 74, .call (.c (.fn 25 [])) [(.t 71), (.t 72), (.t 73)], (some (70, true))⟩, ⟨some 75, .bin .eql (.t 74) (.c (.x (.int .i64 (80)))), (some (70, true))⟩, ⟨some 76, .pick (.t 70) (.t 75) (.c (.x (.bool false))), none⟩, ⟨some 77, .mv (.t 76), none⟩, ⟨some 78, .mv (.t 9), (some (77, true))⟩, ⟨some 79, .len false (.t 78), (some (77, true))⟩, ⟨some 80, .bin .eql (.t 79) (.c (.x (.int .i64 (0)))), (some (77, true))⟩, ⟨some 81, .pick (.t 77) (.t 80) (.c (.x (.bool false))), none⟩, ⟨some 82, .mv (.t 81), none⟩, ⟨some 83, .call (.c (.fn 22 [])) [], (some (82, true))⟩, ⟨some 84, .pick (.t 82) (.t 83) (.c (.x (.bool false))), none⟩, ⟨some 6, .mv (.t 84), none⟩])
    .ret)
    .skip))
  (.seq (.reg [⟨some 85, .mv (.t 2), none⟩, ⟨some 86, .mv (.t 2), none⟩, ⟨some 87, .len false (.t 86), none⟩, ⟨some 88, .mv (.t 2), none⟩, ⟨some 89, .len false (.t 88), none⟩, ⟨some 90, .slc 1 (.t 85) none (some (.t 87)) (some (.t 89)), none⟩, ⟨some 91, .mv (.t 1), none⟩, ⟨some 92, .bsl 9 1 1 [(.t 91)], none⟩, ⟨some 93, .app 9 1 16 (.t 90) (.t 92), none⟩, ⟨some 10, .mv (.t 93), none⟩])
  (.seq (.dreg 21 [] [⟨some 94, .ld 3 true (.t 3), none⟩, ⟨some 95, .call (.c (.fn 24 [])) [(.t 94)], none⟩, ⟨some 96, .bin .eql (.t 95) (.c (.x (.int .i64 (0)))), none⟩, ⟨some 97, .mv (.t 96), none⟩, ⟨some 98, .ld 3 true (.t 3), (some (97, true))⟩, ⟨some 99, .mv (.t 1), (some (97, true))⟩, ⟨some 100, .mv (.t 2), (some (97, true))⟩, ⟨some 101, .call (.c (.fn 25 [])) [(.t 98), (.t 99), (.t 100)], (some (97, true))⟩, ⟨some 102, .ld 3 true (.t 3), (some (97, true))⟩, ⟨some 103, .mv (.t 1), (some (97, true))⟩, ⟨some 104, .mv (.t 2), (some (97, true))⟩, ⟨some 105, .call (.c (.fn 26 [])) [(.t 102), (.t 103), (.t 104)], (some (97, true))⟩, ⟨some 106, .bin .eql (.t 101) (.t 105), (some (97, true))⟩, ⟨some 107, .pick (.t 97) (.t 106) (.c (.x (.bool false))), none⟩, ⟨some 108, .mv (.t 107), none⟩, ⟨some 109, .mv (.t 9), (some (108, true))⟩, ⟨some 110, .mv (.t 10), (some (108, true))⟩, ⟨some 111, .mv (.t 10), (some (108, true))⟩, ⟨some 112, .len false (.t 111), (some (108, true))⟩, ⟨some 113, .fad 2 (.t 3), (some (108, true))⟩, ⟨some 114, .ld 1 false (.t 113), (some (108, true))⟩, ⟨some 115, .bin .sub (.t 112) (.t 114), (some (108, true))⟩, ⟨some 116, .mnx true (.c (.x (.int .i64 (0)))) (.t 115), (some (108, true))⟩, ⟨some 117, .slc 1 (.t 110) (some (.t 116)) none none, (some (108, true))⟩, ⟨some 118, .call (.c (.fn 27 [])) [(.t 109), (.t 117)], (some (108, true))⟩, ⟨some 119, .pick (.t 108) (.t 118) (.c (.x (.bool false))), none⟩, ⟨some 120, .mv (.t 119), none⟩, ⟨some 121, .call (.c (.fn 22 [])) [], (some (120, true))⟩, ⟨some 122, .pick (.t 120) (.t 121) (.c (.x (.bool false))), none⟩, ⟨some 6, .mv (.t 122), none⟩])
  .ret))))))))⟩
theorem c6 : compFn Try.prog Try.f6 = some i6 := by kernel_rfl
/-- bothy/bothylaw48.PolicyAgain -/
def i7 : IFn := ⟨47, [.tmp 6], (.seq (.reg [⟨some 3, .box (.t 0), none⟩, ⟨some 6, .mv (.c (.x (.bool false))), none⟩])
  (.seq (.seq (.reg [⟨some 8, .mv (.t 1), none⟩, ⟨some 9, .len true (.t 8), none⟩, ⟨some 10, .bin .gtr (.t 9) (.c (.x (.int .i64 (300)))), none⟩, ⟨some 11, .mv (.t 10), none⟩, ⟨some 12, .mv (.t 2), (some (11, false))⟩, ⟨some 13, .len false (.t 12), (some (11, false))⟩, ⟨some 14, .bin .gtr (.t 13) (.c (.x (.int .i64 (40)))), (some (11, false))⟩, ⟨some 15, .pick (.t 11) (.c (.x (.bool true))) (.t 14), none⟩, ⟨some 16, .mv (.t 15), none⟩, ⟨some 17, .ld 3 true (.t 3), (some (16, false))⟩, ⟨some 18, .mv (.t 1), (some (16, false))⟩, ⟨some 19, .mv (.t 2), (some (16, false))⟩, ⟨some 20, .call (.c (.fn 25 [])) [(.t 17), (.t 18), (.t 19)], (some (16, false))⟩, ⟨some 21, .bin .neq (.t 20) (.c (.x (.int .i64 (0)))), (some (16, false))⟩, ⟨some 22, .pick (.t 16) (.c (.x (.bool true))) (.t 21), none⟩])
  (.cond (.t 22)
    (.seq (.reg [⟨some 23, .call (.c (.fn 22 [])) [], none⟩, ⟨some 6, .mv (.t 23), none⟩])
    .ret)
    .skip))
  (.seq (.reg [⟨some 24, .ld 3 true (.t 3), none⟩, ⟨some 25, .mv (.t 2), none⟩, ⟨some 26, .mv (.t 1), none⟩, ⟨some 27, .call (.c (.fn 23 [])) [(.t 24), (.t 25), (.t 26)], none⟩, ⟨some 7, .mv (.t 27), none⟩])
  (.seq (.dreg 14 [] [⟨some 28, .ld 3 true (.t 3), none⟩, ⟨some 29, .mv (.t 1), none⟩, ⟨some 30, .mv (.t 7), none⟩, ⟨some 31, .call (.c (.fn 25 [])) [(.t 28), (.t 29), (.t 30)], none⟩, ⟨some 32, .bin .eql (.t 31) (.c (.x (.int .i64 (20)))), none⟩, ⟨some 33, .fad 2 (.t 3), none⟩, ⟨some 34, .ld 1 false (.t 33), none⟩, ⟨some 35, .bin .gtr (.t 34) (.c (.x (.int .i64 (0)))), none⟩, ⟨some 36, .eq .bool false (.t 32) (.t 35), none⟩, ⟨some 37, .mv (.t 36), none⟩, ⟨some 38, .mv (.t 7), (some (37, true))⟩, ⟨some 39, .len false (.t 38), (some (37, true))⟩, ⟨some 40, .fad 2 (.t 3), (some (37, true))⟩, ⟨some 41, .ld 1 false (.t 40), (some (37, true))⟩, ⟨some 42, .bin .leq (.t 39) (.t 41), (some (37, true))⟩, ⟨some 43, .pick (.t 37) (.t 42) (.c (.x (.bool false))), none⟩, ⟨some 44, .mv (.t 43), none⟩, ⟨some 45, .call (.c (.fn 22 [])) [], (some (44, true))⟩, ⟨some 46, .pick (.t 44) (.t 45) (.c (.x (.bool false))), none⟩, ⟨some 6, .mv (.t 46), none⟩])
  .ret))))⟩
theorem c7 : compFn Try.prog Try.f7 = some i7 := by kernel_rfl
/-- bothy/bothylaw48.PolicyLess -/
def i8 : IFn := ⟨64, [.tmp 6], (.seq (.reg [⟨some 3, .box (.t 0), none⟩, ⟨some 6, .mv (.c (.x (.bool false))), none⟩])
  (.seq (.dreg 6 [2, 3] [⟨some 9, .iada 3 2 (.t 3) (.c (.x (.int .i64 (0)))), none⟩, ⟨some 10, .ld 3 true (.t 9), none⟩, ⟨some 11, .iada 3 2 (.t 3) (.c (.x (.int .i64 (1)))), none⟩, ⟨some 12, .ld 3 true (.t 11), none⟩, ⟨some 7, .box (.c (.agg [.x (.int .i64 (0)), .x (.int .i64 (0)), .x (.int .i64 (0))])), none⟩, ⟨some 8, .box (.c (.agg [.x (.int .i64 (0)), .x (.int .i64 (0)), .x (.int .i64 (0))])), none⟩, ⟨none, .sto 3 (.t 7) (.t 10), none⟩, ⟨none, .sto 3 (.t 8) (.t 12), none⟩])
  (.seq (.seq (.dreg 12 [] [⟨some 13, .mv (.t 1), none⟩, ⟨some 14, .len true (.t 13), none⟩, ⟨some 15, .bin .gtr (.t 14) (.c (.x (.int .i64 (200)))), none⟩, ⟨some 16, .mv (.t 15), none⟩, ⟨some 17, .mv (.t 2), (some (16, false))⟩, ⟨some 18, .len false (.t 17), (some (16, false))⟩, ⟨some 19, .bin .gtr (.t 18) (.c (.x (.int .i64 (40)))), (some (16, false))⟩, ⟨some 20, .pick (.t 16) (.c (.x (.bool true))) (.t 19), none⟩, ⟨some 21, .mv (.t 20), none⟩, ⟨some 22, .ld 3 true (.t 7), (some (21, false))⟩, ⟨some 23, .call (.c (.fn 24 [])) [(.t 22)], (some (21, false))⟩, ⟨some 24, .ld 3 true (.t 8), (some (21, false))⟩, ⟨some 25, .call (.c (.fn 24 [])) [(.t 24)], (some (21, false))⟩, ⟨some 26, .bin .neq (.t 23) (.t 25), (some (21, false))⟩, ⟨some 27, .pick (.t 21) (.c (.x (.bool true))) (.t 26), none⟩])
  (.cond (.t 27)
    (.seq (.reg [⟨some 28, .call (.c (.fn 22 [])) [], none⟩, ⟨some 6, .mv (.t 28), none⟩])
    .ret)
    .skip))
  (.seq (.seq (.reg [⟨some 29, .fad 0 (.t 8), none⟩, ⟨some 30, .ld 1 false (.t 29), none⟩, ⟨some 31, .fad 0 (.t 7), none⟩, ⟨some 32, .ld 1 false (.t 31), none⟩, ⟨some 33, .bin .gtr (.t 30) (.t 32), none⟩, ⟨some 34, .mv (.t 33), none⟩, ⟨some 35, .fad 1 (.t 8), (some (34, false))⟩, ⟨some 36, .ld 1 false (.t 35), (some (34, false))⟩, ⟨some 37, .fad 1 (.t 7), (some (34, false))⟩, ⟨some 38, .ld 1 false (.t 37), (some (34, false))⟩, ⟨some 39, .bin .gtr (.t 36) (.t 38), (some (34, false))⟩, ⟨some 40, .pick (.t 34) (.c (.x (.bool true))) (.t 39), none⟩, ⟨some 41, .mv (.t 40), none⟩, ⟨some 42, .fad 2 (.t 8), (some (41, false))⟩, ⟨some 43, .ld 1 false (.t 42), (some (41, false))⟩, ⟨some 44, .fad 2 (.t 7), (some (41, false))⟩, ⟨some 45, .ld 1 false (.t 44), (some (41, false))⟩, ⟨some 46, .bin .gtr (.t 43) (.t 45), (some (41, false))⟩, ⟨some 47, .pick (.t 41) (.c (.x (.bool true))) (.t 46), none⟩, ⟨some 48, .mv (.t 47), none⟩, ⟨some 49, .ld 3 true (.t 7), (some (48, false))⟩, ⟨some 50, .mv (.t 1), (some (48, false))⟩, ⟨some 51, .mv (.t 2), (some (48, false))⟩, ⟨some 52, .call (.c (.fn 25 [])) [(.t 49), (.t 50), (.t 51)], (some (48, false))⟩, ⟨some 53, .bin .neq (.t 52) (.c (.x (.int .i64 (0)))), (some (48, false))⟩, ⟨some 54, .pick (.t 48) (.c (.x (.bool true))) (.t 53), none⟩])
  (.cond (.t 54)
    (.seq (.reg [⟨some 55, .call (.c (.fn 22 [])) [], none⟩, ⟨some 6, .mv (.t 55), none⟩])
    .ret)
    .skip))
  (.seq (.reg [⟨some 56, .ld 3 true (.t 8), none⟩, ⟨some 57, .mv (.t 1), none⟩, ⟨some 58, .mv (.t 2), none⟩, ⟨some 59, .call (.c (.fn 25 [])) [(.t 56), (.t 57), (.t 58)], none⟩, ⟨some 60, .bin .eql (.t 59) (.c (.x (.int .i64 (0)))), none⟩, ⟨some 61, .mv (.t 60), none⟩, ⟨some 62, .call (.c (.fn 22 [])) [], (some (61, true))⟩, ⟨some 63, .pick (.t 61) (.t 62) (.c (.x (.bool false))), none⟩, ⟨some 6, .mv (.t 63), none⟩])
  .ret)))))⟩
theorem c8 : compFn Try.prog Try.f8 = some i8 := by kernel_rfl
/-- bothy/bothylaw36.StampPuts -/
def i9 : IFn := ⟨36, [.tmp 2], (.seq (.reg [⟨some 2, .mv (.c (.x (.bool false))), none⟩])
  (.seq (.reg [⟨some 8, .mv (.t 0), none⟩, ⟨some 9, .call (.c (.fn 28 [])) [(.t 8)], none⟩, ⟨some 7, .mv (.t 9), none⟩, ⟨some 10, .ext (.t 7) 0, none⟩, ⟨some 11, .ext (.t 7) 1, none⟩, ⟨some 3, .mv (.t 10), none⟩, ⟨some 4, .mv (.t 11), none⟩])
  (.seq (.reg [⟨some 13, .mv (.t 0), none⟩, ⟨some 14, .call (.c (.fn 29 [])) [(.t 13)], none⟩, ⟨some 12, .mv (.t 14), none⟩, ⟨some 15, .ext (.t 12) 0, none⟩, ⟨some 16, .ext (.t 12) 1, none⟩, ⟨some 5, .mv (.t 15), none⟩, ⟨some 6, .mv (.t 16), none⟩])
  (.seq (.reg [⟨some 17, .mv (.t 3), none⟩, ⟨some 18, .mv (.t 5), none⟩, ⟨some 19, .bin .eql (.t 17) (.t 18), none⟩, ⟨some 20, .mv (.t 19), none⟩, ⟨some 21, .mv (.t 4), (some (20, true))⟩, ⟨some 22, .bin .eql (.t 21) (.c (.x (.int .i64 (0)))), (some (20, true))⟩, ⟨some 23, .mv (.t 6), (some (20, true))⟩, ⟨some 24, .eq .bool false (.t 22) (.t 23), (some (20, true))⟩, ⟨some 25, .pick (.t 20) (.t 24) (.c (.x (.bool false))), none⟩, ⟨some 26, .mv (.t 25), none⟩, ⟨some 27, .mv (.t 6), (some (26, true))⟩, ⟨some 28, .mv (.t 27), (some (26, true))⟩, ⟨some 29, .mv (.t 4), (some (28, false))⟩, ⟨some 30, .bin .eql (.t 29) (.c (.x (.int .i64 (2)))), (some (28, false))⟩, ⟨some 31, .pick (.t 28) (.c (.x (.bool true))) (.t 30), (some (26, true))⟩, ⟨some 32, .pick (.t 26) (.t 31) (.c (.x (.bool false))), none⟩, ⟨some 33, .mv (.t 32), none⟩, ⟨some 34, .call (.c (.fn 30 [])) [], (some (33, true))⟩, ⟨some 35, .pick (.t 33) (.t 34) (.c (.x (.bool false))), none⟩, ⟨some 2, .mv (.t 35), none⟩])
  .ret))))⟩
theorem c9 : compFn Try.prog Try.f9 = some i9 := by kernel_rfl
/-- bothy/bothylaw36.StampBack -/
def i10 : IFn := ⟨75, [.tmp 4], (.seq (.reg [⟨some 4, .mv (.c (.x (.bool false))), none⟩])
  (.seq (.seq (.reg [⟨some 14, .mv (.t 1), none⟩, ⟨some 15, .len true (.t 14), none⟩, ⟨some 16, .bin .gtr (.t 15) (.c (.x (.int .i64 (100)))), none⟩])
  (.cond (.t 16)
    (.seq (.reg [⟨some 17, .call (.c (.fn 30 [])) [], none⟩, ⟨some 4, .mv (.t 17), none⟩])
    .ret)
    .skip))
  (.seq (.reg [⟨some 18, .mv (.t 0), none⟩, ⟨some 19, .bin .rem (.t 18) (.c (.x (.int .u64 (253402300800)))), none⟩, ⟨some 20, .cvi .i64 (.t 19), none⟩, ⟨some 5, .mv (.t 20), none⟩])
  (.seq (.reg [⟨some 22, .mv (.t 5), none⟩, ⟨some 23, .call (.c (.fn 28 [])) [(.t 22)], none⟩, ⟨some 21, .mv (.t 23), none⟩, ⟨some 24, .ext (.t 21) 0, none⟩, ⟨some 25, .ext (.t 21) 1, none⟩, ⟨some 6, .mv (.t 24), none⟩, ⟨some 7, .mv (.t 25), none⟩])
  (.seq (.reg [⟨some 27, .mv (.t 6), none⟩, ⟨some 28, .call (.c (.fn 31 [])) [(.t 27)], none⟩, ⟨some 26, .mv (.t 28), none⟩, ⟨some 29, .ext (.t 26) 0, none⟩, ⟨some 30, .ext (.t 26) 1, none⟩, ⟨some 8, .mv (.t 29), none⟩, ⟨some 9, .mv (.t 30), none⟩])
  (.seq (.reg [⟨some 32, .mv (.t 1), none⟩, ⟨some 33, .call (.c (.fn 31 [])) [(.t 32)], none⟩, ⟨some 31, .mv (.t 33), none⟩, ⟨some 34, .ext (.t 31) 0, none⟩, ⟨some 35, .ext (.t 31) 1, none⟩, ⟨some 10, .mv (.t 34), none⟩, ⟨some 11, .mv (.t 35), none⟩])
  (.seq (.reg [⟨some 37, .mv (.t 10), none⟩, ⟨some 38, .call (.c (.fn 29 [])) [(.t 37)], none⟩, ⟨some 36, .mv (.t 38), none⟩, ⟨some 39, .ext (.t 36) 0, none⟩, ⟨some 40, .ext (.t 36) 1, none⟩, ⟨some 12, .mv (.t 39), none⟩, ⟨some 13, .mv (.t 40), none⟩])
  (.seq (.reg [⟨some 41, .mv (.t 7), none⟩, ⟨some 42, .bin .eql (.t 41) (.c (.x (.int .i64 (0)))), none⟩, ⟨some 43, .mv (.t 42), none⟩, ⟨some 44, .mv (.t 8), (some (43, true))⟩, ⟨some 45, .mv (.t 5), (some (43, true))⟩, ⟨some 46, .bin .eql (.t 44) (.t 45), (some (43, true))⟩, ⟨some 47, .pick (.t 43) (.t 46) (.c (.x (.bool false))), none⟩, ⟨some 48, .mv (.t 47), none⟩, ⟨some 49, .mv (.t 9), (some (48, true))⟩, ⟨some 50, .bin .eql (.t 49) (.c (.x (.int .i64 (0)))), (some (48, true))⟩, ⟨some 51, .pick (.t 48) (.t 50) (.c (.x (.bool false))), none⟩, ⟨some 52, .mv (.t 51), none⟩, ⟨some 53, .mv (.t 11), (some (52, true))⟩, ⟨some 54, .bin .eql (.t 53) (.c (.x (.int .i64 (0)))), (some (52, true))⟩, ⟨some 55, .mv (.t 54), (some (52, true))⟩, ⟨some 56, .mv (.t 13), (some (55, true))⟩, ⟨some 57, .pick (.t 55) (.t 56) (.c (.x (.bool false))), (some (52, true))⟩, ⟨some 58, .mv (.t 57), (some (52, true))⟩, ⟨some 59, .mv (.t 12), (some (58, true))⟩, ⟨some 60, .mv (.t 1), (some (58, true))⟩, ⟨some 61, .bin .eql (.t 59) (.t 60), (some (58, true))⟩, ⟨some 62, .pick (.t 58) (.t 61) (.c (.x (.bool false))), (some (52, true))⟩, ⟨some 63, .mv (.t 62), (some (52, true))⟩, ⟨some 64, .mv (.t 11), (some (63, false))⟩, ⟨some 65, .bin .eql (.t 64) (.c (.x (.int .i64 (5)))), (some (63, false))⟩, ⟨some 66, .mv (.t 65), (some (63, false))⟩, ⟨some 67, .mv (.t 10), (some (66, true))⟩, ⟨some 68, .bin .eql (.t 67) (.c (.x (.int .i64 (0)))), (some (66, true))⟩, ⟨some 69, .pick (.t 66) (.t 68) (.c (.x (.bool false))), (some (63, false))⟩, ⟨some 70, .pick (.t 63) (.c (.x (.bool true))) (.t 69), (some (52, true))⟩, ⟨some 71, .pick (.t 52) (.t 70) (.c (.x (.bool false))), none⟩, ⟨some 72, .mv (.t 71), none⟩, ⟨some 73, .call (.c (.fn 30 [])) [], (some (72, true))⟩, ⟨some 74, .pick (.t 72) (.t 73) (.c (.x (.bool false))), none⟩, ⟨some 4, .mv (.t 74), none⟩])
  .ret))))))))⟩
theorem c10 : compFn Try.prog Try.f10 = some i10 := by kernel_rfl
/-- bothy/bothylaw36.StampOrder -/
def i11 : IFn := ⟨59, [.tmp 4], (.seq (.reg [⟨some 4, .mv (.c (.x (.bool false))), none⟩])
  (.seq (.reg [⟨some 11, .mv (.t 0), none⟩, ⟨some 12, .bin .rem (.t 11) (.c (.x (.int .u64 (253402300800)))), none⟩, ⟨some 13, .cvi .i64 (.t 12), none⟩, ⟨some 14, .mv (.t 1), none⟩, ⟨some 15, .bin .rem (.t 14) (.c (.x (.int .u64 (253402300800)))), none⟩, ⟨some 16, .cvi .i64 (.t 15), none⟩, ⟨some 5, .mv (.t 13), none⟩, ⟨some 6, .mv (.t 16), none⟩])
  (.seq (.reg [⟨some 18, .mv (.t 5), none⟩, ⟨some 19, .call (.c (.fn 28 [])) [(.t 18)], none⟩, ⟨some 17, .mv (.t 19), none⟩, ⟨some 20, .ext (.t 17) 0, none⟩, ⟨some 21, .ext (.t 17) 1, none⟩, ⟨some 7, .mv (.t 20), none⟩, ⟨some 8, .mv (.t 21), none⟩])
  (.seq (.reg [⟨some 23, .mv (.t 6), none⟩, ⟨some 24, .call (.c (.fn 28 [])) [(.t 23)], none⟩, ⟨some 22, .mv (.t 24), none⟩, ⟨some 25, .ext (.t 22) 0, none⟩, ⟨some 26, .ext (.t 22) 1, none⟩, ⟨some 9, .mv (.t 25), none⟩, ⟨some 10, .mv (.t 26), none⟩])
  (.seq (.reg [⟨some 27, .mv (.t 8), none⟩, ⟨some 28, .bin .eql (.t 27) (.c (.x (.int .i64 (0)))), none⟩, ⟨some 29, .mv (.t 28), none⟩, ⟨some 30, .mv (.t 10), (some (29, true))⟩, ⟨some 31, .bin .eql (.t 30) (.c (.x (.int .i64 (0)))), (some (29, true))⟩, ⟨some 32, .pick (.t 29) (.t 31) (.c (.x (.bool false))), none⟩, ⟨some 33, .mv (.t 32), none⟩, ⟨some 34, .mv (.t 7), (some (33, true))⟩, ⟨some 35, .len true (.t 34), (some (33, true))⟩, ⟨some 36, .bin .eql (.t 35) (.c (.x (.int .i64 (15)))), (some (33, true))⟩, ⟨some 37, .pick (.t 33) (.t 36) (.c (.x (.bool false))), none⟩, ⟨some 38, .mv (.t 37), none⟩, ⟨some 39, .mv (.t 5), (some (38, true))⟩, ⟨some 40, .mv (.t 6), (some (38, true))⟩, ⟨some 41, .bin .lss (.t 39) (.t 40), (some (38, true))⟩, ⟨some 42, .mv (.t 7), (some (38, true))⟩, ⟨some 43, .mv (.t 9), (some (38, true))⟩, ⟨some 44, .bin .lss (.t 42) (.t 43), (some (38, true))⟩, ⟨some 45, .eq .bool false (.t 41) (.t 44), (some (38, true))⟩, ⟨some 46, .pick (.t 38) (.t 45) (.c (.x (.bool false))), none⟩, ⟨some 47, .mv (.t 46), none⟩, ⟨some 48, .mv (.t 5), (some (47, true))⟩, ⟨some 49, .mv (.t 6), (some (47, true))⟩, ⟨some 50, .bin .eql (.t 48) (.t 49), (some (47, true))⟩, ⟨some 51, .mv (.t 7), (some (47, true))⟩, ⟨some 52, .mv (.t 9), (some (47, true))⟩, ⟨some 53, .bin .eql (.t 51) (.t 52), (some (47, true))⟩, ⟨some 54, .eq .bool false (.t 50) (.t 53), (some (47, true))⟩, ⟨some 55, .pick (.t 47) (.t 54) (.c (.x (.bool false))), none⟩, ⟨some 56, .mv (.t 55), none⟩, ⟨some 57, .call (.c (.fn 30 [])) [], (some (56, true))⟩, ⟨some 58, .pick (.t 56) (.t 57) (.c (.x (.bool false))), none⟩, ⟨some 4, .mv (.t 58), none⟩])
  .ret)))))⟩
theorem c11 : compFn Try.prog Try.f11 = some i11 := by kernel_rfl
/-- bothy/bothylaw38.awake -/
def i12 : IFn := ⟨118, [.tmp 0], (.seq (.reg [⟨some 0, .mv (.c (.x (.bool false))), none⟩])
  (.seq (.reg [⟨some 19, .call (.c (.fn 13 [])) [(.c (.x (.int .i64 (1))))], none⟩, ⟨some 18, .mv (.t 19), none⟩, ⟨some 20, .ext (.t 18) 0, none⟩, ⟨some 21, .ext (.t 18) 1, none⟩, ⟨some 1, .mv (.t 20), none⟩, ⟨some 2, .mv (.t 21), none⟩])
  (.seq (.reg [⟨some 23, .call (.c (.fn 13 [])) [(.c (.x (.int .i64 (0))))], none⟩, ⟨some 22, .mv (.t 23), none⟩, ⟨some 24, .ext (.t 22) 0, none⟩, ⟨some 25, .ext (.t 22) 1, none⟩, ⟨some 3, .mv (.t 24), none⟩, ⟨some 4, .mv (.t 25), none⟩])
  (.seq (.seq (.reg [⟨some 26, .mv (.t 1), none⟩, ⟨some 27, .eq .ptr false (.t 26) (.c (.x .nilp)), none⟩])
  (.cond (.t 27)
    (.seq (.reg [⟨some 0, .mv (.c (.x (.bool false))), none⟩])
    .ret)
    .skip))
  (.seq (.reg [⟨some 29, .mv (.t 1), none⟩, ⟨some 30, .call (.c (.fn 14 [])) [(.c (.x (.int .i64 (3))))], none⟩, ⟨some 31, .call (.c (.fn 15 [])) [(.t 29), (.t 30)], none⟩, ⟨some 28, .mv (.t 31), none⟩, ⟨some 32, .ext (.t 28) 0, none⟩, ⟨some 33, .ext (.t 28) 1, none⟩, ⟨some 5, .mv (.t 32), none⟩, ⟨some 6, .mv (.t 33), none⟩])
  (.seq (.reg [⟨some 35, .mv (.t 1), none⟩, ⟨some 36, .call (.c (.fn 14 [])) [(.c (.x (.int .i64 (1))))], none⟩, ⟨some 37, .call (.c (.fn 15 [])) [(.t 35), (.t 36)], none⟩, ⟨some 34, .mv (.t 37), none⟩, ⟨some 38, .ext (.t 34) 0, none⟩, ⟨some 39, .ext (.t 34) 1, none⟩, ⟨some 7, .mv (.t 38), none⟩, ⟨some 8, .mv (.t 39), none⟩])
  (.seq (.reg [⟨some 41, .mv (.t 1), none⟩, ⟨some 42, .mv (.t 5), none⟩, ⟨some 43, .call (.c (.fn 21 [])) [(.t 41), (.t 42), (.c (.x (.int .i64 (2))))], none⟩, ⟨some 40, .mv (.t 43), none⟩, ⟨some 44, .ext (.t 40) 0, none⟩, ⟨some 45, .ext (.t 40) 1, none⟩, ⟨some 46, .ext (.t 40) 2, none⟩, ⟨some 9, .mv (.t 44), none⟩, ⟨some 10, .mv (.t 45), none⟩, ⟨some 11, .mv (.t 46), none⟩])
  (.seq (.reg [⟨some 48, .mv (.t 1), none⟩, ⟨some 49, .mv (.t 5), none⟩, ⟨some 50, .call (.c (.fn 21 [])) [(.t 48), (.t 49), (.c (.x (.int .i64 (2))))], none⟩, ⟨some 47, .mv (.t 50), none⟩, ⟨some 51, .ext (.t 47) 0, none⟩, ⟨some 52, .ext (.t 47) 1, none⟩, ⟨some 53, .ext (.t 47) 2, none⟩, ⟨some 12, .mv (.t 51), none⟩, ⟨some 13, .mv (.t 52), none⟩, ⟨some 14, .mv (.t 53), none⟩])
  (.seq (.reg [⟨some 55, .mv (.t 1), none⟩, ⟨some 56, .mv (.t 5), none⟩, ⟨some 57, .call (.c (.fn 21 [])) [(.t 55), (.t 56), (.c (.x (.int .i64 (2))))], none⟩, ⟨some 54, .mv (.t 57), none⟩, ⟨some 58, .ext (.t 54) 0, none⟩, ⟨some 59, .ext (.t 54) 1, none⟩, ⟨some 60, .ext (.t 54) 2, none⟩, ⟨some 15, .mv (.t 58), none⟩, ⟨some 16, .mv (.t 59), none⟩, ⟨some 17, .mv (.t 60), none⟩])
  (.seq (.reg [⟨some 61, .mv (.t 2), none⟩, ⟨some 62, .bin .eql (.t 61) (.c (.x (.int .i64 (0)))), none⟩, ⟨some 63, .mv (.t 62), none⟩, ⟨some 64, .mv (.t 4), (some (63, true))⟩, ⟨some 65, .bin .eql (.t 64) (.c (.x (.int .i64 (1)))), (some (63, true))⟩, ⟨some 66, .pick (.t 63) (.t 65) (.c (.x (.bool false))), none⟩, ⟨some 67, .mv (.t 66), none⟩, ⟨some 68, .mv (.t 5), (some (67, true))⟩, ⟨some 69, .bin .eql (.t 68) (.c (.x (.int .i64 (1)))), (some (67, true))⟩, ⟨some 70, .pick (.t 67) (.t 69) (.c (.x (.bool false))), none⟩, ⟨some 71, .mv (.t 70), none⟩, ⟨some 72, .mv (.t 6), (some (71, true))⟩, ⟨some 73, .pick (.t 71) (.t 72) (.c (.x (.bool false))), none⟩, ⟨some 74, .mv (.t 73), none⟩, ⟨some 75, .mv (.t 8), (some (74, true))⟩, ⟨some 76, .un .not (.t 75), (some (74, true))⟩, ⟨some 77, .pick (.t 74) (.t 76) (.c (.x (.bool false))), none⟩, ⟨some 78, .mv (.t 77), none⟩, ⟨some 79, .mv (.t 9), (some (78, true))⟩, ⟨some 80, .len false (.t 79), (some (78, true))⟩, ⟨some 81, .bin .eql (.t 80) (.c (.x (.int .i64 (2)))), (some (78, true))⟩, ⟨some 82, .pick (.t 78) (.t 81) (.c (.x (.bool false))), none⟩, ⟨some 83, .mv (.t 82), none⟩, ⟨some 84, .mv (.t 10), (some (83, true))⟩, ⟨some 85, .bin .eql (.t 84) (.c (.x (.int .i64 (1)))), (some (83, true))⟩, ⟨some 86, .pick (.t 83) (.t 85) (.c (.x (.bool false))), none⟩, ⟨some 87, .mv (.t 86), none⟩, ⟨some 88, .mv (.t 11), (some (87, true))⟩, ⟨some 89, .bin .eql (.t 88) (.c (.x (.int .i64 (0)))), (some (87, true))⟩, ⟨some 90, .pick (.t 87) (.t 89) (.c (.x (.bool false))), none⟩, ⟨some 91, .mv (.t 90), none⟩, ⟨some 92, .mv (.t 12), (some (91, true))⟩, ⟨some 93, .len false (.t 92), (some (91, true))⟩, ⟨some 94, .bin .eql (.t 93) (.c (.x (.int .i64 (1)))), (some (91, true))⟩, ⟨some 95, .pick (.t 91) (.t 94) (.c (.x (.bool false))), none⟩, ⟨some 96, .mv (.t 95), none⟩, ⟨some 97, .mv (.t 13), (some (96, true))⟩, ⟨some 98, .bin .eql (.t 97) (.c (.x (.int .i64 (0)))), (some (96, true))⟩, ⟨some 99, .pick (.t 96) (.t 98) (.c (.x (.bool false))), none⟩, ⟨some 100, .mv (.t 99), none⟩, ⟨some 101, .mv (.t 14), (some (100, true))⟩, ⟨some 102, .bin .eql (.t 101) (.c (.x (.int .i64 (0)))), (some (100, true))⟩, ⟨some 103, .pick (.t 100) (.t 102) (.c (.x (.bool false))), none⟩, ⟨some 104, .mv (.t 103), none⟩, ⟨some 105, .mv (.t 17), (some (104, true))⟩, ⟨some 106, .bin .eql (.t 105) (.c (.x (.int .i64 (8)))), (some (104, true))⟩, ⟨some 107, .pick (.t 104) (.t 106) (.c (.x (.bool false))), none⟩, ⟨some 108, .mv (.t 107), none⟩, ⟨some 109, .mv (.t 1), (some (108, true))⟩, ⟨some 110, .call (.c (.fn 20 [])) [(.t 109)], (some (108, true))⟩, ⟨some 111, .bin .eql (.t 110) (.c (.x (.int .i64 (0)))), (some (108, true))⟩, ⟨some 112, .pick (.t 108) (.t 111) (.c (.x (.bool false))), none⟩, ⟨some 113, .mv (.t 112), none⟩, ⟨some 114, .mv (.t 1), (some (113, true))⟩, ⟨some 115, .call (.c (.fn 18 [])) [(.t 114), (.c (.x (.int .i64 (1))))], (some (113, true))⟩, ⟨some 116, .un .not (.t 115), (some (113, true))⟩, ⟨some 117, .pick (.t 113) (.t 116) (.c (.x (.bool false))), none⟩, ⟨some 0, .mv (.t 117), none⟩])
  .ret))))))))))⟩
theorem c12 : compFn Try.prog Try.f12 = some i12 := by kernel_rfl
-- 13 bothy/pages.New: makeMap
/-- bothy/bothylaw38.some -/
def i14 : IFn := ⟨21, [.tmp 2], (.seq (.reg [⟨some 2, .mv (.c (.x .nils)), none⟩])
  (.seq (.reg [⟨some 3, .mv (.c (.x .nils)), none⟩])
  (.seq (.seq (.reg [⟨some 4, .mv (.c (.x (.int .i64 (0)))), none⟩])
  (.block 0
    (.loop
      (.seq (.seq (.reg [⟨some 5, .mv (.t 4), none⟩, ⟨some 6, .mv (.t 0), none⟩, ⟨some 7, .bin .lss (.t 5) (.t 6), none⟩])
      (.cond (.t 7)
        .skip
        (.exit 0)))
      (.seq (.block 1
        (.reg [⟨some 10, .mv (.t 3), none⟩, ⟨some 11, .mv (.t 4), none⟩, ⟨some 12, .bin .rem (.t 11) (.c (.x (.int .i64 (26)))), none⟩, ⟨some 13, .bin .add (.c (.x (.int .i64 (97)))) (.t 12), none⟩, ⟨some 14, .cvi .u8 (.t 13), none⟩, ⟨some 15, .bsl 5 1 1 [(.t 14)], none⟩, ⟨some 16, .b2s (.t 15), none⟩, ⟨some 17, .build [.x (.str []), .x .nils] [(0, 1, (.t 16))], none⟩, ⟨some 18, .bsl 38 2 1 [(.t 17)], none⟩, ⟨some 19, .app 38 2 40 (.t 10) (.t 18), none⟩, ⟨some 3, .mv (.t 19), none⟩]))
      (.reg [⟨some 8, .mv (.t 4), none⟩, ⟨some 9, .bin .add (.t 8) (.c (.x (.int .i64 (1)))), none⟩, ⟨some 4, .mv (.t 9), none⟩]))))))
  (.seq (.reg [⟨some 20, .mv (.t 3), none⟩, ⟨some 2, .mv (.t 20), none⟩])
  .ret))))⟩
theorem c14 : compFn Try.prog Try.f14 = some i14 := by kernel_rfl
-- 15 (*bothy/pages.Pager).Begin: len map
/-- bothy/bothylaw38.next -/
def i16 : IFn := ⟨141, [.tmp 6, .tmp 7], (.seq (.reg [⟨some 5, .box (.t 2), none⟩, ⟨some 6, .mv (.c (.x .nils)), none⟩, ⟨some 7, .mv (.c (.x (.bool false))), none⟩])
  (.seq (.reg [⟨some 17, .mv (.t 1), none⟩, ⟨some 18, .fad 1 (.t 5), none⟩, ⟨some 19, .ld 1 false (.t 18), none⟩, ⟨some 20, .call (.c (.fn 17 [])) [(.t 17), (.t 19)], none⟩, ⟨some 8, .mv (.t 20), none⟩])
  (.seq (.reg [⟨some 22, .mv (.t 0), none⟩, ⟨some 23, .fad 1 (.t 5), none⟩, ⟨some 24, .ld 1 false (.t 23), none⟩, ⟨some 25, .fad 2 (.t 5), none⟩, ⟨some 26, .ld 1 false (.t 25), none⟩, ⟨some 27, .call (.c (.fn 21 [])) [(.t 22), (.t 24), (.t 26)], none⟩, ⟨some 21, .mv (.t 27), none⟩, ⟨some 28, .ext (.t 21) 0, none⟩, ⟨some 29, .ext (.t 21) 1, none⟩, ⟨some 30, .ext (.t 21) 2, none⟩, ⟨some 9, .mv (.t 28), none⟩, ⟨some 10, .mv (.t 29), none⟩, ⟨some 11, .mv (.t 30), none⟩])
  (.seq (.block 0
    (.seq (.reg [⟨some 32, .fad 2 (.t 5), none⟩, ⟨some 33, .ld 1 false (.t 32), none⟩, ⟨some 34, .bin .lss (.t 33) (.c (.x (.int .i64 (1)))), none⟩, ⟨some 35, .mv (.t 34), none⟩, ⟨some 36, .fad 2 (.t 5), (some (35, false))⟩, ⟨some 37, .ld 1 false (.t 36), (some (35, false))⟩, ⟨some 38, .bin .gtr (.t 37) (.c (.x (.int .i64 (1024)))), (some (35, false))⟩, ⟨some 39, .pick (.t 35) (.c (.x (.bool true))) (.t 38), none⟩, ⟨some 31, .mv (.t 39), none⟩])
    (.cond (.t 31)
      (.seq (.reg [⟨some 40, .mv (.t 1), none⟩, ⟨some 41, .mv (.t 9), none⟩, ⟨some 42, .len false (.t 41), none⟩, ⟨some 43, .bin .eql (.t 42) (.c (.x (.int .i64 (0)))), none⟩, ⟨some 44, .mv (.t 43), none⟩, ⟨some 45, .mv (.t 10), (some (44, true))⟩, ⟨some 46, .bin .eql (.t 45) (.c (.x (.int .i64 (0)))), (some (44, true))⟩, ⟨some 47, .pick (.t 44) (.t 46) (.c (.x (.bool false))), none⟩, ⟨some 48, .mv (.t 47), none⟩, ⟨some 49, .mv (.t 11), (some (48, true))⟩, ⟨some 50, .bin .eql (.t 49) (.c (.x (.int .i64 (2)))), (some (48, true))⟩, ⟨some 51, .pick (.t 48) (.t 50) (.c (.x (.bool false))), none⟩, ⟨some 6, .mv (.t 40), none⟩, ⟨some 7, .mv (.t 51), none⟩])
      .ret)
      (.seq (.reg [⟨some 53, .mv (.t 8), none⟩, ⟨some 54, .bin .lss (.t 53) (.c (.x (.int .i64 (0)))), none⟩, ⟨some 52, .mv (.t 54), none⟩])
      (.cond (.t 52)
        (.seq (.reg [⟨some 55, .mv (.t 1), none⟩, ⟨some 56, .mv (.t 9), none⟩, ⟨some 57, .len false (.t 56), none⟩, ⟨some 58, .bin .eql (.t 57) (.c (.x (.int .i64 (0)))), none⟩, ⟨some 59, .mv (.t 58), none⟩, ⟨some 60, .mv (.t 10), (some (59, true))⟩, ⟨some 61, .bin .eql (.t 60) (.c (.x (.int .i64 (0)))), (some (59, true))⟩, ⟨some 62, .pick (.t 59) (.t 61) (.c (.x (.bool false))), none⟩, ⟨some 63, .mv (.t 62), none⟩, ⟨some 64, .mv (.t 11), (some (63, true))⟩, ⟨some 65, .bin .eql (.t 64) (.c (.x (.int .i64 (8)))), (some (63, true))⟩, ⟨some 66, .pick (.t 63) (.t 65) (.c (.x (.bool false))), none⟩, ⟨some 6, .mv (.t 55), none⟩, ⟨some 7, .mv (.t 66), none⟩])
        .ret)
        .skip)))))
  (.seq (.dreg 8 [] [⟨some 67, .fad 2 (.t 5), none⟩, ⟨some 68, .ld 1 false (.t 67), none⟩, ⟨some 69, .mv (.t 1), none⟩, ⟨some 70, .mv (.t 8), none⟩, ⟨some 71, .iad 2 (.t 69) (.t 70), none⟩, ⟨some 72, .fad 1 (.t 71), none⟩, ⟨some 73, .ld 1 false (.t 72), none⟩, ⟨some 74, .len false (.t 73), none⟩, ⟨some 75, .mnx false (.t 68) (.t 74), none⟩, ⟨some 12, .mv (.t 75), none⟩])
  (.seq (.reg [⟨some 76, .mv (.t 9), none⟩, ⟨some 77, .len false (.t 76), none⟩, ⟨some 78, .mv (.t 12), none⟩, ⟨some 79, .bin .eql (.t 77) (.t 78), none⟩, ⟨some 80, .mv (.t 79), none⟩, ⟨some 81, .mv (.t 11), (some (80, true))⟩, ⟨some 82, .bin .eql (.t 81) (.c (.x (.int .i64 (0)))), (some (80, true))⟩, ⟨some 83, .pick (.t 80) (.t 82) (.c (.x (.bool false))), none⟩, ⟨some 13, .mv (.t 83), none⟩])
  (.seq (.seq (.reg [⟨some 14, .mv (.c (.x (.int .i64 (0)))), none⟩])
  (.block 1
    (.loop
      (.seq (.seq (.reg [⟨some 84, .mv (.t 14), none⟩, ⟨some 85, .mv (.t 12), none⟩, ⟨some 86, .bin .lss (.t 84) (.t 85), none⟩, ⟨some 87, .mv (.t 86), none⟩, ⟨some 88, .mv (.t 13), (some (87, true))⟩, ⟨some 89, .pick (.t 87) (.t 88) (.c (.x (.bool false))), none⟩])
      (.cond (.t 89)
        .skip
        (.exit 1)))
      (.seq (.block 2
        (.dreg 13 [] [⟨some 92, .mv (.t 9), none⟩, ⟨some 93, .mv (.t 14), none⟩, ⟨some 94, .iad 2 (.t 92) (.t 93), none⟩, ⟨some 95, .fad 0 (.t 94), none⟩, ⟨some 96, .ld 1 false (.t 95), none⟩, ⟨some 97, .mv (.t 1), none⟩, ⟨some 98, .mv (.t 8), none⟩, ⟨some 99, .iad 2 (.t 97) (.t 98), none⟩, ⟨some 100, .fad 1 (.t 99), none⟩, ⟨some 101, .ld 1 false (.t 100), none⟩, ⟨some 102, .mv (.t 14), none⟩, ⟨some 103, .iad 1 (.t 101) (.t 102), none⟩, ⟨some 104, .ld 1 false (.t 103), none⟩, ⟨some 105, .bin .eql (.t 96) (.t 104), none⟩, ⟨some 13, .mv (.t 105), none⟩]))
      (.reg [⟨some 90, .mv (.t 14), none⟩, ⟨some 91, .bin .add (.t 90) (.c (.x (.int .i64 (1)))), none⟩, ⟨some 14, .mv (.t 91), none⟩]))))))
  (.seq (.reg [⟨some 106, .mv (.t 1), none⟩, ⟨some 107, .mv (.t 8), none⟩, ⟨some 108, .iad 2 (.t 106) (.t 107), none⟩, ⟨some 109, .fad 1 (.t 108), none⟩, ⟨some 110, .ld 1 false (.t 109), none⟩, ⟨some 111, .mv (.t 12), none⟩, ⟨some 112, .slc 1 (.t 110) (some (.t 111)) none none, none⟩, ⟨some 15, .mv (.t 112), none⟩])
  (.seq (.seq (.reg [⟨some 113, .mv (.t 15), none⟩, ⟨some 114, .len false (.t 113), none⟩, ⟨some 115, .bin .eql (.t 114) (.c (.x (.int .i64 (0)))), none⟩])
  (.cond (.t 115)
    (.seq (.reg [⟨some 116, .mv (.t 1), none⟩, ⟨some 117, .mv (.t 8), none⟩, ⟨some 118, .call (.c (.fn 19 [])) [(.t 116), (.t 117)], none⟩, ⟨some 119, .mv (.t 13), none⟩, ⟨some 120, .mv (.t 119), none⟩, ⟨some 121, .mv (.t 10), (some (120, true))⟩, ⟨some 122, .bin .eql (.t 121) (.c (.x (.int .i64 (0)))), (some (120, true))⟩, ⟨some 123, .pick (.t 120) (.t 122) (.c (.x (.bool false))), none⟩, ⟨some 6, .mv (.t 118), none⟩, ⟨some 7, .mv (.t 123), none⟩])
    .ret)
    .skip))
  (.seq (.dreg 8 [] [⟨some 124, .mv (.t 1), none⟩, ⟨some 125, .mv (.t 8), none⟩, ⟨some 126, .call (.c (.fn 19 [])) [(.t 124), (.t 125)], none⟩, ⟨some 127, .fad 1 (.t 5), none⟩, ⟨some 128, .ld 1 false (.t 127), none⟩, ⟨some 129, .mv (.t 15), none⟩, ⟨some 130, .build [.x (.int .i64 (0)), .x .nils] [(0, 1, (.t 128)), (1, 1, (.t 129))], none⟩, ⟨some 131, .bsl 40 2 1 [(.t 130)], none⟩, ⟨some 132, .app 40 2 32 (.t 126) (.t 131), none⟩, ⟨some 16, .mv (.t 132), none⟩])
  (.seq (.dreg 0 [] [⟨some 133, .mv (.t 16), none⟩, ⟨some 134, .mv (.t 13), none⟩, ⟨some 135, .mv (.t 134), none⟩, ⟨some 136, .mv (.t 10), (some (135, true))⟩, ⟨some 137, .fad 1 (.t 5), (some (135, true))⟩, ⟨some 138, .ld 1 false (.t 137), (some (135, true))⟩, ⟨some 139, .bin .eql (.t 136) (.t 138), (some (135, true))⟩, ⟨some 140, .pick (.t 135) (.t 139) (.c (.x (.bool false))), none⟩, ⟨some 6, .mv (.t 133), none⟩, ⟨some 7, .mv (.t 140), none⟩])
  .ret)))))))))))⟩
theorem c16 : compFn Try.prog Try.f16 = some i16 := by kernel_rfl
/-- bothy/bothylaw38.find -/
def i17 : IFn := ⟨20, [.tmp 4], (.seq (.reg [⟨some 4, .mv (.c (.x (.int .i64 (0)))), none⟩])
  (.seq (.seq (.reg [⟨some 5, .mv (.c (.x (.int .i64 (0)))), none⟩])
  (.block 0
    (.loop
      (.seq (.seq (.reg [⟨some 6, .mv (.t 5), none⟩, ⟨some 7, .mv (.t 0), none⟩, ⟨some 8, .len false (.t 7), none⟩, ⟨some 9, .bin .lss (.t 6) (.t 8), none⟩])
      (.cond (.t 9)
        .skip
        (.exit 0)))
      (.seq (.block 1
        (.seq (.reg [⟨some 12, .mv (.t 0), none⟩, ⟨some 13, .mv (.t 5), none⟩, ⟨some 14, .iad 2 (.t 12) (.t 13), none⟩, ⟨some 15, .fad 0 (.t 14), none⟩, ⟨some 16, .ld 1 false (.t 15), none⟩, ⟨some 17, .mv (.t 1), none⟩, ⟨some 18, .bin .eql (.t 16) (.t 17), none⟩])
        (.cond (.t 18)
          (.seq (.reg [⟨some 19, .mv (.t 5), none⟩, ⟨some 4, .mv (.t 19), none⟩])
          .ret)
          .skip)))
      (.reg [⟨some 10, .mv (.t 5), none⟩, ⟨some 11, .bin .add (.t 10) (.c (.x (.int .i64 (1)))), none⟩, ⟨some 5, .mv (.t 11), none⟩]))))))
  (.seq (.reg [⟨some 4, .mv (.c (.x (.int .i64 (-1)))), none⟩])
  .ret)))⟩
theorem c17 : compFn Try.prog Try.f17 = some i17 := by kernel_rfl
-- 18 (*bothy/pages.Pager).Drop: lookup
/-- bothy/bothylaw38.out -/
def i19 : IFn := ⟨17, [.tmp 4], (.seq (.reg [⟨some 4, .mv (.c (.x .nils)), none⟩])
  (.seq (.reg [⟨some 5, .mv (.c (.x .nils)), none⟩])
  (.seq (.reg [⟨some 6, .mv (.t 5), none⟩, ⟨some 7, .mv (.t 0), none⟩, ⟨some 8, .mv (.t 1), none⟩, ⟨some 9, .slc 2 (.t 7) none (some (.t 8)) none, none⟩, ⟨some 10, .app 40 2 32 (.t 6) (.t 9), none⟩, ⟨some 5, .mv (.t 10), none⟩])
  (.seq (.reg [⟨some 11, .mv (.t 5), none⟩, ⟨some 12, .mv (.t 0), none⟩, ⟨some 13, .mv (.t 1), none⟩, ⟨some 14, .bin .add (.t 13) (.c (.x (.int .i64 (1)))), none⟩, ⟨some 15, .slc 2 (.t 12) (some (.t 14)) none none, none⟩, ⟨some 16, .app 40 2 32 (.t 11) (.t 15), none⟩, ⟨some 4, .mv (.t 16), none⟩])
  .ret))))⟩
theorem c19 : compFn Try.prog Try.f19 = some i19 := by kernel_rfl
-- 20 (*bothy/pages.Pager).Len: len map
-- 21 (*bothy/pages.Pager).Next: lookup
/-- bothy/bothylaw48.awake -/
def i22 : IFn := ⟨47, [.tmp 0], (.seq (.reg [⟨some 0, .mv (.c (.x (.bool false))), none⟩])
  (.seq (.reg [⟨some 3, .build [.x (.int .i64 (0)), .x (.int .i64 (0)), .x (.int .i64 (0))] [(0, 1, (.c (.x (.int .i64 (4))))), (1, 1, (.c (.x (.int .i64 (2))))), (2, 1, (.c (.x (.int .i64 (2)))))], none⟩, ⟨some 1, .box (.c (.agg [.x (.int .i64 (0)), .x (.int .i64 (0)), .x (.int .i64 (0))])), none⟩, ⟨none, .sto 3 (.t 1) (.t 3), none⟩])
  (.seq (.reg [⟨some 4, .ld 3 true (.t 1), none⟩, ⟨some 5, .bsl 9 1 2 [(.c (.x (.str [97]))), (.c (.x (.str [98])))], none⟩, ⟨some 6, .call (.c (.fn 23 [])) [(.t 4), (.t 5), (.c (.x (.str [99])))], none⟩, ⟨some 2, .mv (.t 6), none⟩])
  (.seq (.reg [⟨some 7, .ld 3 true (.t 1), none⟩, ⟨some 8, .call (.c (.fn 25 [])) [(.t 7), (.c (.x (.str [97, 98, 99]))), (.c (.x .nils))], none⟩, ⟨some 9, .bin .eql (.t 8) (.c (.x (.int .i64 (19)))), none⟩, ⟨some 10, .mv (.t 9), none⟩, ⟨some 11, .ld 3 true (.t 1), (some (10, true))⟩, ⟨some 12, .call (.c (.fn 25 [])) [(.t 11), (.c (.x (.str [97, 98, 99, 100]))), (.c (.x .nils))], (some (10, true))⟩, ⟨some 13, .bin .eql (.t 12) (.c (.x (.int .i64 (19)))), (some (10, true))⟩, ⟨some 14, .pick (.t 10) (.t 13) (.c (.x (.bool false))), none⟩, ⟨some 15, .mv (.t 14), none⟩, ⟨some 16, .ld 3 true (.t 1), (some (15, true))⟩, ⟨some 17, .call (.c (.fn 25 [])) [(.t 16), (.c (.x (.str [97, 98, 99, 49]))), (.c (.x .nils))], (some (15, true))⟩, ⟨some 18, .bin .eql (.t 17) (.c (.x (.int .i64 (0)))), (some (15, true))⟩, ⟨some 19, .pick (.t 15) (.t 18) (.c (.x (.bool false))), none⟩, ⟨some 20, .mv (.t 19), none⟩, ⟨some 21, .ld 3 true (.t 1), (some (20, true))⟩, ⟨some 22, .bsl 9 1 3 [(.c (.x (.str [97, 98, 99, 49]))), (.c (.x (.str [120]))), (.c (.x (.str [121])))], (some (20, true))⟩, ⟨some 23, .call (.c (.fn 25 [])) [(.t 21), (.c (.x (.str [97, 98, 99, 49]))), (.t 22)], (some (20, true))⟩, ⟨some 24, .bin .eql (.t 23) (.c (.x (.int .i64 (0)))), (some (20, true))⟩, ⟨some 25, .pick (.t 20) (.t 24) (.c (.x (.bool false))), none⟩, ⟨some 26, .mv (.t 25), none⟩, ⟨some 27, .ld 3 true (.t 1), (some (26, true))⟩, ⟨some 28, .bsl 9 1 2 [(.c (.x (.str [97, 98, 99, 49]))), (.c (.x (.str [120])))], (some (26, true))⟩, ⟨some 29, .call (.c (.fn 25 [])) [(.t 27), (.c (.x (.str [97, 98, 99, 49]))), (.t 28)], (some (26, true))⟩, ⟨some 30, .bin .eql (.t 29) (.c (.x (.int .i64 (20)))), (some (26, true))⟩, ⟨some 31, .pick (.t 26) (.t 30) (.c (.x (.bool false))), none⟩, ⟨some 32, .mv (.t 31), none⟩, ⟨some 33, .build [.x (.int .i64 (0)), .x (.int .i64 (0)), .x (.int .i64 (0))] [(0, 1, (.c (.x (.int .i64 (-1)))))], (some (32, true))⟩, ⟨some 34, .call (.c (.fn 25 [])) [(.t 33), (.c (.x (.str [97]))), (.c (.x .nils))], (some (32, true))⟩, ⟨some 35, .bin .eql (.t 34) (.c (.x (.int .i64 (80)))), (some (32, true))⟩, ⟨some 36, .pick (.t 32) (.t 35) (.c (.x (.bool false))), none⟩, ⟨some 37, .mv (.t 36), none⟩, ⟨some 38, .build [.x (.int .i64 (0)), .x (.int .i64 (0)), .x (.int .i64 (0))] [(2, 1, (.c (.x (.int .i64 (25)))))], (some (37, true))⟩, ⟨some 39, .call (.c (.fn 24 [])) [(.t 38)], (some (37, true))⟩, ⟨some 40, .bin .eql (.t 39) (.c (.x (.int .i64 (2)))), (some (37, true))⟩, ⟨some 41, .pick (.t 37) (.t 40) (.c (.x (.bool false))), none⟩, ⟨some 42, .mv (.t 41), none⟩, ⟨some 43, .mv (.t 2), (some (42, true))⟩, ⟨some 44, .bsl 9 1 2 [(.c (.x (.str [98]))), (.c (.x (.str [99])))], (some (42, true))⟩, ⟨some 45, .call (.c (.fn 27 [])) [(.t 43), (.t 44)], (some (42, true))⟩, ⟨some 46, .pick (.t 42) (.t 45) (.c (.x (.bool false))), none⟩, ⟨some 0, .mv (.t 46), none⟩])
  .ret))))⟩
theorem c22 : compFn Try.prog Try.f22 = some i22 := by kernel_rfl
/-- bothy/policy.Next -/
def i23 : IFn := ⟨18, [.tmp 6], (.seq (.reg [⟨some 3, .box (.t 0), none⟩, ⟨some 6, .mv (.c (.x .nils)), none⟩])
  (.seq (.seq (.reg [⟨some 7, .ld 3 true (.t 3), none⟩, ⟨some 8, .call (.c (.fn 24 [])) [(.t 7)], none⟩, ⟨some 9, .bin .neq (.t 8) (.c (.x (.int .i64 (0)))), none⟩])
  (.cond (.t 9)
    (.seq (.reg [⟨some 6, .mv (.c (.x .nils)), none⟩])
    .ret)
    .skip))
  (.seq (.dreg 4 [6] [⟨some 10, .mv (.t 1), none⟩, ⟨some 11, .call (.c (.fn 34 [])) [(.t 10)], none⟩, ⟨some 12, .mv (.t 2), none⟩, ⟨some 13, .bsl 9 1 1 [(.t 12)], none⟩, ⟨some 14, .app 9 1 16 (.t 11) (.t 13), none⟩, ⟨some 15, .fad 2 (.t 3), none⟩, ⟨some 16, .ld 1 false (.t 15), none⟩, ⟨some 17, .call (.c (.fn 33 [])) [(.t 14), (.t 16)], none⟩, ⟨some 6, .mv (.t 17), none⟩])
  .ret)))⟩
theorem c23 : compFn Try.prog Try.f23 = some i23 := by kernel_rfl
/-- bothy/policy.Check -/
def i24 : IFn := ⟨19, [.tmp 2], (.seq (.reg [⟨some 1, .box (.t 0), none⟩, ⟨some 2, .mv (.c (.x (.int .i64 (0)))), none⟩])
  (.seq (.seq (.reg [⟨some 3, .fad 0 (.t 1), none⟩, ⟨some 4, .ld 1 false (.t 3), none⟩, ⟨some 5, .call (.c (.fn 35 [])) [(.t 4), (.c (.x (.int .i64 (128))))], none⟩, ⟨some 6, .un .not (.t 5), none⟩, ⟨some 7, .mv (.t 6), none⟩, ⟨some 8, .fad 1 (.t 1), (some (7, false))⟩, ⟨some 9, .ld 1 false (.t 8), (some (7, false))⟩, ⟨some 10, .call (.c (.fn 35 [])) [(.t 9), (.c (.x (.int .i64 (4))))], (some (7, false))⟩, ⟨some 11, .un .not (.t 10), (some (7, false))⟩, ⟨some 12, .pick (.t 7) (.c (.x (.bool true))) (.t 11), none⟩, ⟨some 13, .mv (.t 12), none⟩, ⟨some 14, .fad 2 (.t 1), (some (13, false))⟩, ⟨some 15, .ld 1 false (.t 14), (some (13, false))⟩, ⟨some 16, .call (.c (.fn 35 [])) [(.t 15), (.c (.x (.int .i64 (24))))], (some (13, false))⟩, ⟨some 17, .un .not (.t 16), (some (13, false))⟩, ⟨some 18, .pick (.t 13) (.c (.x (.bool true))) (.t 17), none⟩])
  (.cond (.t 18)
    (.seq (.reg [⟨some 2, .mv (.c (.x (.int .i64 (2)))), none⟩])
    .ret)
    .skip))
  (.seq (.reg [⟨some 2, .mv (.c (.x (.int .i64 (0)))), none⟩])
  .ret)))⟩
theorem c24 : compFn Try.prog Try.f24 = some i24 := by kernel_rfl
/-- bothy/policy.Good -/
def i25 : IFn := ⟨36, [.tmp 6], (.seq (.reg [⟨some 3, .box (.t 0), none⟩, ⟨some 6, .mv (.c (.x (.int .i64 (0)))), none⟩])
  (.seq (.block 0
    (.seq (.reg [⟨some 8, .ld 3 true (.t 3), none⟩, ⟨some 9, .call (.c (.fn 24 [])) [(.t 8)], none⟩, ⟨some 10, .bin .neq (.t 9) (.c (.x (.int .i64 (0)))), none⟩, ⟨some 7, .mv (.t 10), none⟩])
    (.cond (.t 7)
      (.seq (.reg [⟨some 6, .mv (.c (.x (.int .i64 (80)))), none⟩])
      .ret)
      (.seq (.dreg 15 [] [⟨some 12, .mv (.t 1), none⟩, ⟨some 13, .len true (.t 12), none⟩, ⟨some 14, .bin .gtr (.t 13) (.c (.x (.int .i64 (128)))), none⟩, ⟨some 15, .mv (.t 14), none⟩, ⟨some 16, .mv (.t 1), (some (15, false))⟩, ⟨some 17, .len true (.t 16), (some (15, false))⟩, ⟨some 18, .fad 0 (.t 3), (some (15, false))⟩, ⟨some 19, .ld 1 false (.t 18), (some (15, false))⟩, ⟨some 20, .bin .lss (.t 17) (.t 19), (some (15, false))⟩, ⟨some 21, .pick (.t 15) (.c (.x (.bool true))) (.t 20), none⟩, ⟨some 22, .mv (.t 21), none⟩, ⟨some 23, .mv (.t 1), (some (22, false))⟩, ⟨some 24, .call (.c (.fn 36 [])) [(.t 23)], (some (22, false))⟩, ⟨some 25, .fad 1 (.t 3), (some (22, false))⟩, ⟨some 26, .ld 1 false (.t 25), (some (22, false))⟩, ⟨some 27, .bin .lss (.t 24) (.t 26), (some (22, false))⟩, ⟨some 28, .pick (.t 22) (.c (.x (.bool true))) (.t 27), none⟩, ⟨some 11, .mv (.t 28), none⟩])
      (.cond (.t 11)
        (.seq (.reg [⟨some 6, .mv (.c (.x (.int .i64 (19)))), none⟩])
        .ret)
        (.seq (.reg [⟨some 30, .mv (.t 2), none⟩, ⟨some 31, .fad 2 (.t 3), none⟩, ⟨some 32, .ld 1 false (.t 31), none⟩, ⟨some 33, .call (.c (.fn 33 [])) [(.t 30), (.t 32)], none⟩, ⟨some 34, .mv (.t 1), none⟩, ⟨some 35, .call (.c (.fn 37 [])) [(.t 33), (.t 34)], none⟩, ⟨some 29, .mv (.t 35), none⟩])
        (.cond (.t 29)
          (.seq (.reg [⟨some 6, .mv (.c (.x (.int .i64 (20)))), none⟩])
          .ret)
          .skip)))))))
  (.seq (.reg [⟨some 6, .mv (.c (.x (.int .i64 (0)))), none⟩])
  .ret)))⟩
theorem c25 : compFn Try.prog Try.f25 = some i25 := by kernel_rfl
/-- bothy/bothylaw48.good -/
def i26 : IFn := ⟨53, [.tmp 6], (.seq (.reg [⟨some 3, .box (.t 0), none⟩, ⟨some 6, .mv (.c (.x (.int .i64 (0)))), none⟩])
  (.seq (.reg [⟨some 7, .mv (.c (.x (.int .i64 (0)))), none⟩])
  (.seq (.seq (.reg [⟨some 8, .mv (.c (.x (.int .i64 (0)))), none⟩])
  (.block 0
    (.loop
      (.seq (.seq (.reg [⟨some 10, .mv (.t 8), none⟩, ⟨some 11, .bin .lss (.t 10) (.c (.x (.int .i64 (4)))), none⟩])
      (.cond (.t 11)
        .skip
        (.exit 0)))
      (.seq (.block 1
        (.seq (.reg [⟨some 14, .mv (.t 1), none⟩, ⟨some 15, .mv (.t 8), none⟩, ⟨some 16, .call (.c (.fn 38 [])) [(.t 14), (.t 15)], none⟩])
        (.cond (.t 16)
          (.reg [⟨some 17, .mv (.t 7), none⟩, ⟨some 18, .bin .add (.t 17) (.c (.x (.int .i64 (1)))), none⟩, ⟨some 7, .mv (.t 18), none⟩])
          .skip)))
      (.reg [⟨some 12, .mv (.t 8), none⟩, ⟨some 13, .bin .add (.t 12) (.c (.x (.int .i64 (1)))), none⟩, ⟨some 8, .mv (.t 13), none⟩]))))))
  (.seq (.seq (.reg [⟨some 19, .mv (.t 1), none⟩, ⟨some 20, .len true (.t 19), none⟩, ⟨some 21, .bin .gtr (.t 20) (.c (.x (.int .i64 (128)))), none⟩, ⟨some 22, .mv (.t 21), none⟩, ⟨some 23, .mv (.t 1), (some (22, false))⟩, ⟨some 24, .len true (.t 23), (some (22, false))⟩, ⟨some 25, .fad 0 (.t 3), (some (22, false))⟩, ⟨some 26, .ld 1 false (.t 25), (some (22, false))⟩, ⟨some 27, .bin .lss (.t 24) (.t 26), (some (22, false))⟩, ⟨some 28, .pick (.t 22) (.c (.x (.bool true))) (.t 27), none⟩, ⟨some 29, .mv (.t 28), none⟩, ⟨some 30, .mv (.t 7), (some (29, false))⟩, ⟨some 31, .fad 1 (.t 3), (some (29, false))⟩, ⟨some 32, .ld 1 false (.t 31), (some (29, false))⟩, ⟨some 33, .bin .lss (.t 30) (.t 32), (some (29, false))⟩, ⟨some 34, .pick (.t 29) (.c (.x (.bool true))) (.t 33), none⟩])
  (.cond (.t 34)
    (.seq (.reg [⟨some 6, .mv (.c (.x (.int .i64 (19)))), none⟩])
    .ret)
    .skip))
  (.seq (.seq (.reg [⟨some 35, .mv (.t 2), none⟩, ⟨some 36, .len false (.t 35), none⟩, ⟨some 37, .fad 2 (.t 3), none⟩, ⟨some 38, .ld 1 false (.t 37), none⟩, ⟨some 39, .bin .sub (.t 36) (.t 38), none⟩, ⟨some 40, .mnx true (.c (.x (.int .i64 (0)))) (.t 39), none⟩, ⟨some 9, .mv (.t 40), none⟩])
  (.block 2
    (.loop
      (.seq (.seq (.reg [⟨some 41, .mv (.t 9), none⟩, ⟨some 42, .mv (.t 2), none⟩, ⟨some 43, .len false (.t 42), none⟩, ⟨some 44, .bin .lss (.t 41) (.t 43), none⟩])
      (.cond (.t 44)
        .skip
        (.exit 2)))
      (.seq (.block 3
        (.seq (.reg [⟨some 47, .mv (.t 2), none⟩, ⟨some 48, .mv (.t 9), none⟩, ⟨some 49, .iad 1 (.t 47) (.t 48), none⟩, ⟨some 50, .ld 1 false (.t 49), none⟩, ⟨some 51, .mv (.t 1), none⟩, ⟨some 52, .bin .eql (.t 50) (.t 51), none⟩])
        (.cond (.t 52)
          (.seq (.reg [⟨some 6, .mv (.c (.x (.int .i64 (20)))), none⟩])
          .ret)
          .skip)))
      (.reg [⟨some 45, .mv (.t 9), none⟩, ⟨some 46, .bin .add (.t 45) (.c (.x (.int .i64 (1)))), none⟩, ⟨some 9, .mv (.t 46), none⟩]))))))
  (.seq (.reg [⟨some 6, .mv (.c (.x (.int .i64 (0)))), none⟩])
  .ret))))))⟩
theorem c26 : compFn Try.prog Try.f26 = some i26 := by kernel_rfl
/-- bothy/bothyref01.Texts -/
def i27 : IFn := ⟨26, [.tmp 4], (.seq (.reg [⟨some 4, .mv (.c (.x (.bool false))), none⟩])
  (.seq (.seq (.reg [⟨some 6, .mv (.t 0), none⟩, ⟨some 7, .len false (.t 6), none⟩, ⟨some 8, .mv (.t 1), none⟩, ⟨some 9, .len false (.t 8), none⟩, ⟨some 10, .bin .neq (.t 7) (.t 9), none⟩])
  (.cond (.t 10)
    (.seq (.reg [⟨some 4, .mv (.c (.x (.bool false))), none⟩])
    .ret)
    .skip))
  (.seq (.seq (.reg [⟨some 5, .mv (.c (.x (.int .i64 (0)))), none⟩])
  (.block 0
    (.loop
      (.seq (.seq (.reg [⟨some 11, .mv (.t 5), none⟩, ⟨some 12, .mv (.t 0), none⟩, ⟨some 13, .len false (.t 12), none⟩, ⟨some 14, .bin .lss (.t 11) (.t 13), none⟩])
      (.cond (.t 14)
        .skip
        (.exit 0)))
      (.seq (.block 1
        (.seq (.dreg 8 [] [⟨some 17, .mv (.t 0), none⟩, ⟨some 18, .mv (.t 5), none⟩, ⟨some 19, .iad 1 (.t 17) (.t 18), none⟩, ⟨some 20, .ld 1 false (.t 19), none⟩, ⟨some 21, .mv (.t 1), none⟩, ⟨some 22, .mv (.t 5), none⟩, ⟨some 23, .iad 1 (.t 21) (.t 22), none⟩, ⟨some 24, .ld 1 false (.t 23), none⟩, ⟨some 25, .bin .neq (.t 20) (.t 24), none⟩])
        (.cond (.t 25)
          (.seq (.reg [⟨some 4, .mv (.c (.x (.bool false))), none⟩])
          .ret)
          .skip)))
      (.reg [⟨some 15, .mv (.t 5), none⟩, ⟨some 16, .bin .add (.t 15) (.c (.x (.int .i64 (1)))), none⟩, ⟨some 5, .mv (.t 16), none⟩]))))))
  (.seq (.reg [⟨some 4, .mv (.c (.x (.bool true))), none⟩])
  .ret))))⟩
theorem c27 : compFn Try.prog Try.f27 = some i27 := by kernel_rfl
/-- bothy/stamp.Put -/
def i28 : IFn := ⟨76, [.tmp 2, .tmp 3], (.seq (.reg [⟨some 2, .mv (.c (.x (.str []))), none⟩, ⟨some 3, .mv (.c (.x (.int .i64 (0)))), none⟩])
  (.seq (.seq (.reg [⟨some 12, .mv (.t 0), none⟩, ⟨some 13, .bin .lss (.t 12) (.c (.x (.int .i64 (0)))), none⟩, ⟨some 14, .mv (.t 13), none⟩, ⟨some 15, .mv (.t 0), (some (14, false))⟩, ⟨some 16, .bin .gtr (.t 15) (.c (.x (.int .i64 (253402300799)))), (some (14, false))⟩, ⟨some 17, .pick (.t 14) (.c (.x (.bool true))) (.t 16), none⟩])
  (.cond (.t 17)
    (.seq (.reg [⟨some 2, .mv (.c (.x (.str []))), none⟩, ⟨some 3, .mv (.c (.x (.int .i64 (2)))), none⟩])
    .ret)
    .skip))
  (.seq (.reg [⟨some 18, .mv (.t 0), none⟩, ⟨some 19, .bin .quo (.t 18) (.c (.x (.int .i64 (86400)))), none⟩, ⟨some 20, .mv (.t 0), none⟩, ⟨some 21, .bin .rem (.t 20) (.c (.x (.int .i64 (86400)))), none⟩, ⟨some 4, .mv (.t 19), none⟩, ⟨some 5, .mv (.t 21), none⟩])
  (.seq (.reg [⟨some 22, .mv (.t 4), none⟩, ⟨some 23, .bin .quo (.t 22) (.c (.x (.int .i64 (366)))), none⟩, ⟨some 24, .bin .add (.c (.x (.int .i64 (1970)))) (.t 23), none⟩, ⟨some 6, .mv (.t 24), none⟩])
  (.seq (.block 0
    (.loop
      (.seq (.seq (.reg [⟨some 25, .mv (.t 6), none⟩, ⟨some 26, .bin .add (.t 25) (.c (.x (.int .i64 (1)))), none⟩, ⟨some 27, .call (.c (.fn 39 [])) [(.t 26)], none⟩, ⟨some 28, .mv (.t 4), none⟩, ⟨some 29, .bin .leq (.t 27) (.t 28), none⟩])
      (.cond (.t 29)
        .skip
        (.exit 0)))
      (.block 1
        (.reg [⟨some 30, .mv (.t 6), none⟩, ⟨some 31, .bin .add (.t 30) (.c (.x (.int .i64 (1)))), none⟩, ⟨some 6, .mv (.t 31), none⟩])))))
  (.seq (.reg [⟨some 32, .mv (.t 4), none⟩, ⟨some 33, .mv (.t 6), none⟩, ⟨some 34, .call (.c (.fn 39 [])) [(.t 33)], none⟩, ⟨some 35, .bin .sub (.t 32) (.t 34), none⟩, ⟨some 4, .mv (.t 35), none⟩])
  (.seq (.reg [⟨some 7, .mv (.c (.x (.int .i64 (0)))), none⟩])
  (.seq (.reg [⟨some 36, .mv (.t 6), none⟩, ⟨some 37, .call (.c (.fn 40 [])) [(.t 36)], none⟩, ⟨some 8, .box (.c (.agg [.x (.int .i64 (0)), .x (.int .i64 (0)), .x (.int .i64 (0)), .x (.int .i64 (0)), .x (.int .i64 (0)), .x (.int .i64 (0)), .x (.int .i64 (0)), .x (.int .i64 (0)), .x (.int .i64 (0)), .x (.int .i64 (0)), .x (.int .i64 (0)), .x (.int .i64 (0))])), none⟩, ⟨none, .sto 12 (.t 8) (.t 37), none⟩])
  (.seq (.block 2
    (.loop
      (.seq (.seq (.reg [⟨some 38, .mv (.t 4), none⟩, ⟨some 39, .mv (.t 7), none⟩, ⟨some 40, .iada 1 12 (.t 8) (.t 39), none⟩, ⟨some 41, .ld 1 false (.t 40), none⟩, ⟨some 42, .bin .geq (.t 38) (.t 41), none⟩])
      (.cond (.t 42)
        .skip
        (.exit 2)))
      (.block 3
        (.seq (.reg [⟨some 43, .mv (.t 4), none⟩, ⟨some 44, .mv (.t 7), none⟩, ⟨some 45, .iada 1 12 (.t 8) (.t 44), none⟩, ⟨some 46, .ld 1 false (.t 45), none⟩, ⟨some 47, .bin .sub (.t 43) (.t 46), none⟩, ⟨some 4, .mv (.t 47), none⟩])
        (.reg [⟨some 48, .mv (.t 7), none⟩, ⟨some 49, .bin .add (.t 48) (.c (.x (.int .i64 (1)))), none⟩, ⟨some 7, .mv (.t 49), none⟩]))))))
  (.seq (.reg [⟨some 9, .mv (.c (.x .nils)), none⟩])
  (.seq (.reg [⟨some 50, .mv (.t 9), none⟩, ⟨some 51, .mv (.t 6), none⟩, ⟨some 52, .call (.c (.fn 41 [])) [(.t 50), (.t 51), (.c (.x (.int .i64 (4))))], none⟩, ⟨some 9, .mv (.t 52), none⟩])
  (.seq (.seq (.reg [⟨some 53, .mv (.t 7), none⟩, ⟨some 54, .bin .add (.t 53) (.c (.x (.int .i64 (1)))), none⟩, ⟨some 55, .mv (.t 4), none⟩, ⟨some 56, .bin .add (.t 55) (.c (.x (.int .i64 (1)))), none⟩, ⟨some 57, .mv (.t 5), none⟩, ⟨some 58, .bin .quo (.t 57) (.c (.x (.int .i64 (3600)))), none⟩, ⟨some 59, .mv (.t 5), none⟩, ⟨some 60, .bin .quo (.t 59) (.c (.x (.int .i64 (60)))), none⟩, ⟨some 61, .bin .rem (.t 60) (.c (.x (.int .i64 (60)))), none⟩, ⟨some 62, .mv (.t 5), none⟩, ⟨some 63, .bin .rem (.t 62) (.c (.x (.int .i64 (60)))), none⟩, ⟨some 64, .build [.x (.int .i64 (0)), .x (.int .i64 (0)), .x (.int .i64 (0)), .x (.int .i64 (0)), .x (.int .i64 (0))] [(0, 1, (.t 54)), (1, 1, (.t 56)), (2, 1, (.t 58)), (3, 1, (.t 61)), (4, 1, (.t 63))], none⟩, ⟨some 65, .mv (.c (.x (.int .i64 (0)))), none⟩])
  (.block 4
    (.loop
      (.seq (.reg [⟨some 66, .bin .lss (.t 65) (.c (.x (.int .i64 (5)))), none⟩])
      (.seq (.cond (.t 66)
        .skip
        (.exit 4))
      (.seq (.block 5
        (.seq (.reg [⟨some 67, .idxa 1 5 false (.t 64) (.t 65), none⟩, ⟨some 11, .mv (.t 67), none⟩])
        (.reg [⟨some 68, .mv (.t 9), none⟩, ⟨some 69, .mv (.t 11), none⟩, ⟨some 70, .call (.c (.fn 41 [])) [(.t 68), (.t 69), (.c (.x (.int .i64 (2))))], none⟩, ⟨some 9, .mv (.t 70), none⟩])))
      (.reg [⟨some 71, .bin .add (.t 65) (.c (.x (.int .i64 (1)))), none⟩, ⟨some 65, .mv (.t 71), none⟩])))))))
  (.seq (.reg [⟨some 72, .mv (.t 9), none⟩, ⟨some 73, .bsl 5 1 1 [(.c (.x (.int .u8 (90))))], none⟩, ⟨some 74, .app 5 1 1 (.t 72) (.t 73), none⟩, ⟨some 75, .b2s (.t 74), none⟩, ⟨some 2, .mv (.t 75), none⟩, ⟨some 3, .mv (.c (.x (.int .i64 (0)))), none⟩])
  .ret)))))))))))))⟩
theorem c28 : compFn Try.prog Try.f28 = some i28 := by kernel_rfl
/-- bothy/bothylaw36.put -/
def i29 : IFn := ⟨64, [.tmp 2, .tmp 3], (.seq (.reg [⟨some 2, .mv (.c (.x (.str []))), none⟩, ⟨some 3, .mv (.c (.x (.bool false))), none⟩])
  (.seq (.seq (.reg [⟨some 9, .mv (.t 0), none⟩, ⟨some 10, .bin .lss (.t 9) (.c (.x (.int .i64 (0)))), none⟩, ⟨some 11, .mv (.t 10), none⟩, ⟨some 12, .mv (.t 0), (some (11, false))⟩, ⟨some 13, .bin .gtr (.t 12) (.c (.x (.int .i64 (253402300799)))), (some (11, false))⟩, ⟨some 14, .pick (.t 11) (.c (.x (.bool true))) (.t 13), none⟩])
  (.cond (.t 14)
    (.seq (.reg [⟨some 2, .mv (.c (.x (.str []))), none⟩, ⟨some 3, .mv (.c (.x (.bool false))), none⟩])
    .ret)
    .skip))
  (.seq (.reg [⟨some 15, .mv (.t 0), none⟩, ⟨some 16, .bin .quo (.t 15) (.c (.x (.int .i64 (86400)))), none⟩, ⟨some 17, .mv (.t 0), none⟩, ⟨some 18, .bin .rem (.t 17) (.c (.x (.int .i64 (86400)))), none⟩, ⟨some 4, .mv (.t 16), none⟩, ⟨some 5, .mv (.t 18), none⟩])
  (.seq (.reg [⟨some 6, .mv (.c (.x (.int .i64 (1970)))), none⟩, ⟨some 7, .mv (.c (.x (.int .i64 (1)))), none⟩])
  (.seq (.block 0
    (.loop
      (.block 1
        (.seq (.reg [⟨some 8, .mv (.c (.x (.int .i64 (365)))), none⟩])
        (.seq (.seq (.reg [⟨some 19, .mv (.t 6), none⟩, ⟨some 20, .call (.c (.fn 42 [])) [(.t 19)], none⟩])
        (.cond (.t 20)
          (.reg [⟨some 8, .mv (.c (.x (.int .i64 (366)))), none⟩])
          .skip))
        (.seq (.seq (.reg [⟨some 21, .mv (.t 4), none⟩, ⟨some 22, .mv (.t 8), none⟩, ⟨some 23, .bin .lss (.t 21) (.t 22), none⟩])
        (.cond (.t 23)
          (.exit 0)
          .skip))
        (.seq (.reg [⟨some 24, .mv (.t 4), none⟩, ⟨some 25, .mv (.t 8), none⟩, ⟨some 26, .bin .sub (.t 24) (.t 25), none⟩, ⟨some 4, .mv (.t 26), none⟩])
        (.reg [⟨some 27, .mv (.t 6), none⟩, ⟨some 28, .bin .add (.t 27) (.c (.x (.int .i64 (1)))), none⟩, ⟨some 6, .mv (.t 28), none⟩]))))))))
  (.seq (.block 2
    (.loop
      (.seq (.seq (.reg [⟨some 29, .mv (.t 4), none⟩, ⟨some 30, .mv (.t 6), none⟩, ⟨some 31, .mv (.t 7), none⟩, ⟨some 32, .call (.c (.fn 43 [])) [(.t 30), (.t 31)], none⟩, ⟨some 33, .bin .geq (.t 29) (.t 32), none⟩])
      (.cond (.t 33)
        .skip
        (.exit 2)))
      (.block 3
        (.seq (.reg [⟨some 34, .mv (.t 4), none⟩, ⟨some 35, .mv (.t 6), none⟩, ⟨some 36, .mv (.t 7), none⟩, ⟨some 37, .call (.c (.fn 43 [])) [(.t 35), (.t 36)], none⟩, ⟨some 38, .bin .sub (.t 34) (.t 37), none⟩, ⟨some 4, .mv (.t 38), none⟩])
        (.reg [⟨some 39, .mv (.t 7), none⟩, ⟨some 40, .bin .add (.t 39) (.c (.x (.int .i64 (1)))), none⟩, ⟨some 7, .mv (.t 40), none⟩]))))))
  (.seq (.reg [⟨some 41, .mv (.t 6), none⟩, ⟨some 42, .call (.c (.fn 44 [])) [(.t 41), (.c (.x (.int .i64 (4))))], none⟩, ⟨some 43, .mv (.t 7), none⟩, ⟨some 44, .call (.c (.fn 44 [])) [(.t 43), (.c (.x (.int .i64 (2))))], none⟩, ⟨some 45, .bin .add (.t 42) (.t 44), none⟩, ⟨some 46, .mv (.t 4), none⟩, ⟨some 47, .bin .add (.t 46) (.c (.x (.int .i64 (1)))), none⟩, ⟨some 48, .call (.c (.fn 44 [])) [(.t 47), (.c (.x (.int .i64 (2))))], none⟩, ⟨some 49, .bin .add (.t 45) (.t 48), none⟩, ⟨some 50, .mv (.t 5), none⟩, ⟨some 51, .bin .quo (.t 50) (.c (.x (.int .i64 (3600)))), none⟩, ⟨some 52, .call (.c (.fn 44 [])) [(.t 51), (.c (.x (.int .i64 (2))))], none⟩, ⟨some 53, .bin .add (.t 49) (.t 52), none⟩, ⟨some 54, .mv (.t 5), none⟩, ⟨some 55, .bin .quo (.t 54) (.c (.x (.int .i64 (60)))), none⟩, ⟨some 56, .bin .rem (.t 55) (.c (.x (.int .i64 (60)))), none⟩, ⟨some 57, .call (.c (.fn 44 [])) [(.t 56), (.c (.x (.int .i64 (2))))], none⟩, ⟨some 58, .bin .add (.t 53) (.t 57), none⟩, ⟨some 59, .mv (.t 5), none⟩, ⟨some 60, .bin .rem (.t 59) (.c (.x (.int .i64 (60)))), none⟩, ⟨some 61, .call (.c (.fn 44 [])) [(.t 60), (.c (.x (.int .i64 (2))))], none⟩, ⟨some 62, .bin .add (.t 58) (.t 61), none⟩, ⟨some 63, .bin .add (.t 62) (.c (.x (.str [90]))), none⟩, ⟨some 2, .mv (.t 63), none⟩, ⟨some 3, .mv (.c (.x (.bool true))), none⟩])
  .ret)))))))⟩
theorem c29 : compFn Try.prog Try.f29 = some i29 := by kernel_rfl
/-- bothy/bothylaw36.awake -/
def i30 : IFn := ⟨57, [.tmp 0], (.seq (.reg [⟨some 0, .mv (.c (.x (.bool false))), none⟩])
  (.seq (.reg [⟨some 12, .call (.c (.fn 28 [])) [(.c (.x (.int .i64 (0))))], none⟩, ⟨some 11, .mv (.t 12), none⟩, ⟨some 13, .ext (.t 11) 0, none⟩, ⟨some 14, .ext (.t 11) 1, none⟩, ⟨some 1, .mv (.t 13), none⟩, ⟨some 2, .mv (.t 14), none⟩])
  (.seq (.reg [⟨some 16, .call (.c (.fn 28 [])) [(.c (.x (.int .i64 (951782400))))], none⟩, ⟨some 15, .mv (.t 16), none⟩, ⟨some 17, .ext (.t 15) 0, none⟩, ⟨some 18, .ext (.t 15) 1, none⟩, ⟨some 3, .mv (.t 17), none⟩, ⟨some 4, .mv (.t 18), none⟩])
  (.seq (.reg [⟨some 20, .call (.c (.fn 31 [])) [(.c (.x (.str [57, 57, 57, 57, 49, 50, 51, 49, 50, 51, 53, 57, 53, 57, 90])))], none⟩, ⟨some 19, .mv (.t 20), none⟩, ⟨some 21, .ext (.t 19) 0, none⟩, ⟨some 22, .ext (.t 19) 1, none⟩, ⟨some 5, .mv (.t 21), none⟩, ⟨some 6, .mv (.t 22), none⟩])
  (.seq (.reg [⟨some 24, .call (.c (.fn 31 [])) [(.c (.x (.str [50, 48, 50, 51, 48, 50, 50, 57, 48, 48, 48, 48, 48, 48, 90])))], none⟩, ⟨some 23, .mv (.t 24), none⟩, ⟨some 25, .ext (.t 23) 0, none⟩, ⟨some 26, .ext (.t 23) 1, none⟩, ⟨some 7, .mv (.t 25), none⟩, ⟨some 8, .mv (.t 26), none⟩])
  (.seq (.reg [⟨some 28, .call (.c (.fn 28 [])) [(.c (.x (.int .i64 (-1))))], none⟩, ⟨some 27, .mv (.t 28), none⟩, ⟨some 29, .ext (.t 27) 0, none⟩, ⟨some 30, .ext (.t 27) 1, none⟩, ⟨some 9, .mv (.t 29), none⟩, ⟨some 10, .mv (.t 30), none⟩])
  (.seq (.reg [⟨some 31, .mv (.t 1), none⟩, ⟨some 32, .bin .eql (.t 31) (.c (.x (.str [49, 57, 55, 48, 48, 49, 48, 49, 48, 48, 48, 48, 48, 48, 90]))), none⟩, ⟨some 33, .mv (.t 32), none⟩, ⟨some 34, .mv (.t 2), (some (33, true))⟩, ⟨some 35, .bin .eql (.t 34) (.c (.x (.int .i64 (0)))), (some (33, true))⟩, ⟨some 36, .pick (.t 33) (.t 35) (.c (.x (.bool false))), none⟩, ⟨some 37, .mv (.t 36), none⟩, ⟨some 38, .mv (.t 3), (some (37, true))⟩, ⟨some 39, .bin .eql (.t 38) (.c (.x (.str [50, 48, 48, 48, 48, 50, 50, 57, 48, 48, 48, 48, 48, 48, 90]))), (some (37, true))⟩, ⟨some 40, .pick (.t 37) (.t 39) (.c (.x (.bool false))), none⟩, ⟨some 41, .mv (.t 40), none⟩, ⟨some 42, .mv (.t 5), (some (41, true))⟩, ⟨some 43, .bin .eql (.t 42) (.c (.x (.int .i64 (253402300799)))), (some (41, true))⟩, ⟨some 44, .pick (.t 41) (.t 43) (.c (.x (.bool false))), none⟩, ⟨some 45, .mv (.t 44), none⟩, ⟨some 46, .mv (.t 6), (some (45, true))⟩, ⟨some 47, .bin .eql (.t 46) (.c (.x (.int .i64 (0)))), (some (45, true))⟩, ⟨some 48, .pick (.t 45) (.t 47) (.c (.x (.bool false))), none⟩, ⟨some 49, .mv (.t 48), none⟩, ⟨some 50, .mv (.t 8), (some (49, true))⟩, ⟨some 51, .bin .eql (.t 50) (.c (.x (.int .i64 (5)))), (some (49, true))⟩, ⟨some 52, .pick (.t 49) (.t 51) (.c (.x (.bool false))), none⟩, ⟨some 53, .mv (.t 52), none⟩, ⟨some 54, .mv (.t 10), (some (53, true))⟩, ⟨some 55, .bin .eql (.t 54) (.c (.x (.int .i64 (2)))), (some (53, true))⟩, ⟨some 56, .pick (.t 53) (.t 55) (.c (.x (.bool false))), none⟩, ⟨some 0, .mv (.t 56), none⟩])
  .ret)))))))⟩
theorem c30 : compFn Try.prog Try.f30 = some i30 := by kernel_rfl
-- 31 bothy/stamp.Read: slice of array
/-- slices.Clone[[]bothy/api.Entry,bothy/api.Entry] -/
def i32 : IFn := ⟨8, [.tmp 2], (.seq (.reg [⟨some 2, .mv (.c (.x .nils)), none⟩])
  (.seq (.seq (.reg [⟨some 3, .mv (.t 0), none⟩, ⟨some 4, .eq .sl false (.t 3) (.c (.x .nils)), none⟩])
  (.cond (.t 4)
    (.seq (.reg [⟨some 2, .mv (.c (.x .nils)), none⟩])
    .ret)
    .skip))
  (.seq (.reg [⟨some 5, .bsl 38 2 0 [], none⟩, ⟨some 6, .mv (.t 0), none⟩, ⟨some 7, .app 38 2 40 (.t 5) (.t 6), none⟩, ⟨some 2, .mv (.t 7), none⟩])
  .ret)))⟩
theorem c32 : compFn Try.prog Try.f32 = some i32 := by kernel_rfl
/-- bothy/policy.last -/
def i33 : IFn := ⟨12, [.tmp 4], (.seq (.reg [⟨some 4, .mv (.c (.x .nils)), none⟩])
  (.seq (.reg [⟨some 5, .mv (.t 0), none⟩, ⟨some 6, .mv (.t 0), none⟩, ⟨some 7, .len false (.t 6), none⟩, ⟨some 8, .mv (.t 1), none⟩, ⟨some 9, .bin .sub (.t 7) (.t 8), none⟩, ⟨some 10, .mnx true (.c (.x (.int .i64 (0)))) (.t 9), none⟩, ⟨some 11, .slc 1 (.t 5) (some (.t 10)) none none, none⟩, ⟨some 4, .mv (.t 11), none⟩])
  .ret))⟩
theorem c33 : compFn Try.prog Try.f33 = some i33 := by kernel_rfl
/-- slices.Clone[[]string,string] -/
def i34 : IFn := ⟨8, [.tmp 2], (.seq (.reg [⟨some 2, .mv (.c (.x .nils)), none⟩])
  (.seq (.seq (.reg [⟨some 3, .mv (.t 0), none⟩, ⟨some 4, .eq .sl false (.t 3) (.c (.x .nils)), none⟩])
  (.cond (.t 4)
    (.seq (.reg [⟨some 2, .mv (.c (.x .nils)), none⟩])
    .ret)
    .skip))
  (.seq (.reg [⟨some 5, .bsl 9 1 0 [], none⟩, ⟨some 6, .mv (.t 0), none⟩, ⟨some 7, .app 9 1 16 (.t 5) (.t 6), none⟩, ⟨some 2, .mv (.t 7), none⟩])
  .ret)))⟩
theorem c34 : compFn Try.prog Try.f34 = some i34 := by kernel_rfl
/-- bothy/policy.within -/
def i35 : IFn := ⟨12, [.tmp 4], (.seq (.reg [⟨some 4, .mv (.c (.x (.bool false))), none⟩])
  (.seq (.reg [⟨some 5, .mv (.t 0), none⟩, ⟨some 6, .bin .geq (.t 5) (.c (.x (.int .i64 (0)))), none⟩, ⟨some 7, .mv (.t 6), none⟩, ⟨some 8, .mv (.t 0), (some (7, true))⟩, ⟨some 9, .mv (.t 1), (some (7, true))⟩, ⟨some 10, .bin .leq (.t 8) (.t 9), (some (7, true))⟩, ⟨some 11, .pick (.t 7) (.t 10) (.c (.x (.bool false))), none⟩, ⟨some 4, .mv (.t 11), none⟩])
  .ret))⟩
theorem c35 : compFn Try.prog Try.f35 = some i35 := by kernel_rfl
/-- bothy/policy.kinds -/
def i36 : IFn := ⟨29, [.tmp 2], (.seq (.reg [⟨some 2, .mv (.c (.x (.int .i64 (0)))), none⟩])
  (.seq (.reg [⟨some 3, .box (.c (.agg [.x (.bool false), .x (.bool false), .x (.bool false), .x (.bool false)])), none⟩])
  (.seq (.seq (.reg [⟨some 9, .mv (.t 0), none⟩, ⟨some 10, .s2b 5 (.t 9), none⟩, ⟨some 11, .len false (.t 10), none⟩, ⟨some 12, .mv (.c (.x (.int .i64 (0)))), none⟩])
  (.block 0
    (.loop
      (.seq (.reg [⟨some 13, .bin .lss (.t 12) (.t 11), none⟩])
      (.seq (.cond (.t 13)
        .skip
        (.exit 0))
      (.seq (.block 1
        (.seq (.reg [⟨some 14, .iad 1 (.t 10) (.t 12), none⟩, ⟨some 15, .ld 1 false (.t 14), none⟩, ⟨some 5, .mv (.t 15), none⟩])
        (.reg [⟨some 16, .mv (.t 5), none⟩, ⟨some 17, .call (.c (.fn 46 [])) [(.t 16)], none⟩, ⟨some 18, .iada 1 4 (.t 3) (.t 17), none⟩, ⟨none, .sto 1 (.t 18) (.c (.x (.bool true))), none⟩])))
      (.reg [⟨some 19, .bin .add (.t 12) (.c (.x (.int .i64 (1)))), none⟩, ⟨some 12, .mv (.t 19), none⟩])))))))
  (.seq (.reg [⟨some 6, .mv (.c (.x (.int .i64 (0)))), none⟩])
  (.seq (.seq (.reg [⟨some 20, .ld 4 true (.t 3), none⟩, ⟨some 21, .mv (.c (.x (.int .i64 (0)))), none⟩])
  (.block 2
    (.loop
      (.seq (.reg [⟨some 22, .bin .lss (.t 21) (.c (.x (.int .i64 (4)))), none⟩])
      (.seq (.cond (.t 22)
        .skip
        (.exit 2))
      (.seq (.block 3
        (.seq (.reg [⟨some 23, .idxa 1 4 false (.t 20) (.t 21), none⟩, ⟨some 8, .mv (.t 23), none⟩])
        (.seq (.reg [⟨some 24, .mv (.t 8), none⟩])
        (.cond (.t 24)
          (.reg [⟨some 25, .mv (.t 6), none⟩, ⟨some 26, .bin .add (.t 25) (.c (.x (.int .i64 (1)))), none⟩, ⟨some 6, .mv (.t 26), none⟩])
          .skip))))
      (.reg [⟨some 27, .bin .add (.t 21) (.c (.x (.int .i64 (1)))), none⟩, ⟨some 21, .mv (.t 27), none⟩])))))))
  (.seq (.reg [⟨some 28, .mv (.t 6), none⟩, ⟨some 2, .mv (.t 28), none⟩])
  .ret))))))⟩
theorem c36 : compFn Try.prog Try.f36 = some i36 := by kernel_rfl
/-- slices.Contains[[]string,string] -/
def i37 : IFn := ⟨9, [.tmp 4], (.seq (.reg [⟨some 4, .mv (.c (.x (.bool false))), none⟩])
  (.seq (.reg [⟨some 5, .mv (.t 0), none⟩, ⟨some 6, .mv (.t 1), none⟩, ⟨some 7, .call (.c (.fn 47 [])) [(.t 5), (.t 6)], none⟩, ⟨some 8, .bin .geq (.t 7) (.c (.x (.int .i64 (0)))), none⟩, ⟨some 4, .mv (.t 8), none⟩])
  .ret))⟩
theorem c37 : compFn Try.prog Try.f37 = some i37 := by kernel_rfl
/-- bothy/bothylaw48.has -/
def i38 : IFn := ⟨41, [.tmp 4], (.seq (.reg [⟨some 4, .mv (.c (.x (.bool false))), none⟩])
  (.seq (.seq (.reg [⟨some 5, .mv (.c (.x (.int .i64 (0)))), none⟩])
  (.block 0
    (.loop
      (.seq (.seq (.reg [⟨some 8, .mv (.t 5), none⟩, ⟨some 9, .mv (.t 0), none⟩, ⟨some 10, .len true (.t 9), none⟩, ⟨some 11, .bin .lss (.t 8) (.t 10), none⟩])
      (.cond (.t 11)
        .skip
        (.exit 0)))
      (.seq (.block 1
        (.seq (.reg [⟨some 14, .mv (.t 0), none⟩, ⟨some 15, .mv (.t 5), none⟩, ⟨some 16, .idx (.t 14) (.t 15), none⟩, ⟨some 6, .mv (.t 16), none⟩, ⟨some 7, .mv (.c (.x (.int .i64 (3)))), none⟩])
        (.seq (.block 2
          (.seq (.reg [⟨some 18, .mv (.t 6), none⟩, ⟨some 19, .bin .geq (.t 18) (.c (.x (.int .u8 (97)))), none⟩, ⟨some 20, .mv (.t 19), none⟩, ⟨some 21, .mv (.t 6), (some (20, true))⟩, ⟨some 22, .bin .leq (.t 21) (.c (.x (.int .u8 (122)))), (some (20, true))⟩, ⟨some 23, .pick (.t 20) (.t 22) (.c (.x (.bool false))), none⟩, ⟨some 17, .mv (.t 23), none⟩])
          (.cond (.t 17)
            (.reg [⟨some 7, .mv (.c (.x (.int .i64 (0)))), none⟩])
            (.seq (.reg [⟨some 25, .mv (.t 6), none⟩, ⟨some 26, .bin .geq (.t 25) (.c (.x (.int .u8 (65)))), none⟩, ⟨some 27, .mv (.t 26), none⟩, ⟨some 28, .mv (.t 6), (some (27, true))⟩, ⟨some 29, .bin .leq (.t 28) (.c (.x (.int .u8 (90)))), (some (27, true))⟩, ⟨some 30, .pick (.t 27) (.t 29) (.c (.x (.bool false))), none⟩, ⟨some 24, .mv (.t 30), none⟩])
            (.cond (.t 24)
              (.reg [⟨some 7, .mv (.c (.x (.int .i64 (1)))), none⟩])
              (.seq (.reg [⟨some 32, .mv (.t 6), none⟩, ⟨some 33, .bin .geq (.t 32) (.c (.x (.int .u8 (48)))), none⟩, ⟨some 34, .mv (.t 33), none⟩, ⟨some 35, .mv (.t 6), (some (34, true))⟩, ⟨some 36, .bin .leq (.t 35) (.c (.x (.int .u8 (57)))), (some (34, true))⟩, ⟨some 37, .pick (.t 34) (.t 36) (.c (.x (.bool false))), none⟩, ⟨some 31, .mv (.t 37), none⟩])
              (.cond (.t 31)
                (.reg [⟨some 7, .mv (.c (.x (.int .i64 (2)))), none⟩])
                .skip)))))))
        (.seq (.reg [⟨some 38, .mv (.t 7), none⟩, ⟨some 39, .mv (.t 1), none⟩, ⟨some 40, .bin .eql (.t 38) (.t 39), none⟩])
        (.cond (.t 40)
          (.seq (.reg [⟨some 4, .mv (.c (.x (.bool true))), none⟩])
          .ret)
          .skip)))))
      (.reg [⟨some 12, .mv (.t 5), none⟩, ⟨some 13, .bin .add (.t 12) (.c (.x (.int .i64 (1)))), none⟩, ⟨some 5, .mv (.t 13), none⟩]))))))
  (.seq (.reg [⟨some 4, .mv (.c (.x (.bool false))), none⟩])
  .ret)))⟩
theorem c38 : compFn Try.prog Try.f38 = some i38 := by kernel_rfl
/-- bothy/stamp.before -/
def i39 : IFn := ⟨15, [.tmp 2], (.seq (.reg [⟨some 2, .mv (.c (.x (.int .i64 (0)))), none⟩])
  (.seq (.reg [⟨some 3, .mv (.c (.fn 48 [])), none⟩])
  (.seq (.reg [⟨some 4, .mv (.t 0), none⟩, ⟨some 5, .bin .sub (.t 4) (.c (.x (.int .i64 (1970)))), none⟩, ⟨some 6, .bin .mul (.c (.x (.int .i64 (365)))) (.t 5), none⟩, ⟨some 7, .mv (.t 3), none⟩, ⟨some 8, .mv (.t 0), none⟩, ⟨some 9, .bin .sub (.t 8) (.c (.x (.int .i64 (1)))), none⟩, ⟨some 10, .call (.t 7) [(.t 9)], none⟩, ⟨some 11, .bin .add (.t 6) (.t 10), none⟩, ⟨some 12, .mv (.t 3), none⟩, ⟨some 13, .call (.t 12) [(.c (.x (.int .i64 (1969))))], none⟩, ⟨some 14, .bin .sub (.t 11) (.t 13), none⟩, ⟨some 2, .mv (.t 14), none⟩])
  .ret)))⟩
theorem c39 : compFn Try.prog Try.f39 = some i39 := by kernel_rfl
/-- bothy/stamp.months -/
def i40 : IFn := ⟨12, [.cell 2 12 true], (.seq (.reg [⟨some 2, .box (.c (.agg [.x (.int .i64 (0)), .x (.int .i64 (0)), .x (.int .i64 (0)), .x (.int .i64 (0)), .x (.int .i64 (0)), .x (.int .i64 (0)), .x (.int .i64 (0)), .x (.int .i64 (0)), .x (.int .i64 (0)), .x (.int .i64 (0)), .x (.int .i64 (0)), .x (.int .i64 (0))])), none⟩])
  (.seq (.reg [⟨some 4, .build [.x (.int .i64 (0)), .x (.int .i64 (0)), .x (.int .i64 (0)), .x (.int .i64 (0)), .x (.int .i64 (0)), .x (.int .i64 (0)), .x (.int .i64 (0)), .x (.int .i64 (0)), .x (.int .i64 (0)), .x (.int .i64 (0)), .x (.int .i64 (0)), .x (.int .i64 (0))] [(0, 1, (.c (.x (.int .i64 (31))))), (1, 1, (.c (.x (.int .i64 (28))))), (2, 1, (.c (.x (.int .i64 (31))))), (3, 1, (.c (.x (.int .i64 (30))))), (4, 1, (.c (.x (.int .i64 (31))))), (5, 1, (.c (.x (.int .i64 (30))))), (6, 1, (.c (.x (.int .i64 (31))))), (7, 1, (.c (.x (.int .i64 (31))))), (8, 1, (.c (.x (.int .i64 (30))))), (9, 1, (.c (.x (.int .i64 (31))))), (10, 1, (.c (.x (.int .i64 (30))))), (11, 1, (.c (.x (.int .i64 (31)))))], none⟩, ⟨some 3, .box (.c (.agg [.x (.int .i64 (0)), .x (.int .i64 (0)), .x (.int .i64 (0)), .x (.int .i64 (0)), .x (.int .i64 (0)), .x (.int .i64 (0)), .x (.int .i64 (0)), .x (.int .i64 (0)), .x (.int .i64 (0)), .x (.int .i64 (0)), .x (.int .i64 (0)), .x (.int .i64 (0))])), none⟩, ⟨none, .sto 12 (.t 3) (.t 4), none⟩])
  (.seq (.seq (.reg [⟨some 5, .mv (.t 0), none⟩, ⟨some 6, .call (.c (.fn 49 [])) [(.t 5)], none⟩])
  (.cond (.t 6)
    (.reg [⟨some 7, .iada 1 12 (.t 3) (.c (.x (.int .i64 (1)))), none⟩, ⟨some 8, .ld 1 false (.t 7), none⟩, ⟨some 9, .bin .add (.t 8) (.c (.x (.int .i64 (1)))), none⟩, ⟨some 10, .iada 1 12 (.t 3) (.c (.x (.int .i64 (1)))), none⟩, ⟨none, .sto 1 (.t 10) (.t 9), none⟩])
    .skip))
  (.seq (.reg [⟨some 11, .ld 12 true (.t 3), none⟩, ⟨none, .sto 12 (.t 2) (.t 11), none⟩])
  .ret))))⟩
theorem c40 : compFn Try.prog Try.f40 = some i40 := by kernel_rfl
-- 41 bothy/stamp.digits: append of another type
/-- bothy/bothylaw36.leap -/
def i42 : IFn := ⟨16, [.tmp 2], (.seq (.reg [⟨some 2, .mv (.c (.x (.bool false))), none⟩])
  (.seq (.reg [⟨some 3, .mv (.t 0), none⟩, ⟨some 4, .bin .rem (.t 3) (.c (.x (.int .i64 (4)))), none⟩, ⟨some 5, .bin .eql (.t 4) (.c (.x (.int .i64 (0)))), none⟩, ⟨some 6, .mv (.t 5), none⟩, ⟨some 7, .mv (.t 0), (some (6, true))⟩, ⟨some 8, .bin .rem (.t 7) (.c (.x (.int .i64 (100)))), (some (6, true))⟩, ⟨some 9, .bin .neq (.t 8) (.c (.x (.int .i64 (0)))), (some (6, true))⟩, ⟨some 10, .mv (.t 9), (some (6, true))⟩, ⟨some 11, .mv (.t 0), (some (10, false))⟩, ⟨some 12, .bin .rem (.t 11) (.c (.x (.int .i64 (400)))), (some (10, false))⟩, ⟨some 13, .bin .eql (.t 12) (.c (.x (.int .i64 (0)))), (some (10, false))⟩, ⟨some 14, .pick (.t 10) (.c (.x (.bool true))) (.t 13), (some (6, true))⟩, ⟨some 15, .pick (.t 6) (.t 14) (.c (.x (.bool false))), none⟩, ⟨some 2, .mv (.t 15), none⟩])
  .ret))⟩
theorem c42 : compFn Try.prog Try.f42 = some i42 := by kernel_rfl
/-- bothy/bothylaw36.long -/
def i43 : IFn := ⟨15, [.tmp 4], (.seq (.reg [⟨some 4, .mv (.c (.x (.int .i64 (0)))), none⟩])
  (.seq (.seq (.reg [⟨some 5, .mv (.t 1), none⟩])
  (.block 0
    (.seq (.reg [⟨some 7, .bin .eql (.t 5) (.c (.x (.int .i64 (2)))), none⟩, ⟨some 6, .mv (.t 7), none⟩])
    (.cond (.t 6)
      (.seq (.seq (.reg [⟨some 8, .mv (.t 0), none⟩, ⟨some 9, .call (.c (.fn 42 [])) [(.t 8)], none⟩])
      (.cond (.t 9)
        (.seq (.reg [⟨some 4, .mv (.c (.x (.int .i64 (29)))), none⟩])
        .ret)
        .skip))
      (.seq (.reg [⟨some 4, .mv (.c (.x (.int .i64 (28)))), none⟩])
      .ret))
      (.seq (.seq (.reg [⟨some 11, .bin .eql (.t 5) (.c (.x (.int .i64 (4)))), none⟩, ⟨some 10, .mv (.t 11), none⟩])
      (.cond (.t 10)
        .skip
        (.seq (.reg [⟨some 12, .bin .eql (.t 5) (.c (.x (.int .i64 (6)))), none⟩, ⟨some 10, .mv (.t 12), none⟩])
        (.cond (.t 10)
          .skip
          (.seq (.reg [⟨some 13, .bin .eql (.t 5) (.c (.x (.int .i64 (9)))), none⟩, ⟨some 10, .mv (.t 13), none⟩])
          (.cond (.t 10)
            .skip
            (.reg [⟨some 14, .bin .eql (.t 5) (.c (.x (.int .i64 (11)))), none⟩, ⟨some 10, .mv (.t 14), none⟩])))))))
      (.cond (.t 10)
        (.seq (.reg [⟨some 4, .mv (.c (.x (.int .i64 (30)))), none⟩])
        .ret)
        .skip))))))
  (.seq (.reg [⟨some 4, .mv (.c (.x (.int .i64 (31)))), none⟩])
  .ret)))⟩
theorem c43 : compFn Try.prog Try.f43 = some i43 := by kernel_rfl
/-- bothy/bothylaw36.digits -/
def i44 : IFn := ⟨23, [.tmp 4], (.seq (.reg [⟨some 4, .mv (.c (.x (.str []))), none⟩])
  (.seq (.reg [⟨some 5, .mv (.c (.x (.str []))), none⟩])
  (.seq (.seq (.reg [⟨some 6, .mv (.c (.x (.int .i64 (0)))), none⟩])
  (.block 0
    (.loop
      (.seq (.seq (.reg [⟨some 7, .mv (.t 6), none⟩, ⟨some 8, .mv (.t 1), none⟩, ⟨some 9, .bin .lss (.t 7) (.t 8), none⟩])
      (.cond (.t 9)
        .skip
        (.exit 0)))
      (.seq (.block 1
        (.seq (.reg [⟨some 12, .mv (.t 0), none⟩, ⟨some 13, .bin .rem (.t 12) (.c (.x (.int .i64 (10)))), none⟩, ⟨some 14, .bin .add (.c (.x (.int .i64 (48)))) (.t 13), none⟩, ⟨some 15, .cvi .u8 (.t 14), none⟩, ⟨some 16, .bsl 5 1 1 [(.t 15)], none⟩, ⟨some 17, .b2s (.t 16), none⟩, ⟨some 18, .mv (.t 5), none⟩, ⟨some 19, .bin .add (.t 17) (.t 18), none⟩, ⟨some 5, .mv (.t 19), none⟩])
        (.reg [⟨some 20, .mv (.t 0), none⟩, ⟨some 21, .bin .quo (.t 20) (.c (.x (.int .i64 (10)))), none⟩, ⟨some 0, .mv (.t 21), none⟩])))
      (.reg [⟨some 10, .mv (.t 6), none⟩, ⟨some 11, .bin .add (.t 10) (.c (.x (.int .i64 (1)))), none⟩, ⟨some 6, .mv (.t 11), none⟩]))))))
  (.seq (.reg [⟨some 22, .mv (.t 5), none⟩, ⟨some 4, .mv (.t 22), none⟩])
  .ret))))⟩
theorem c44 : compFn Try.prog Try.f44 = some i44 := by kernel_rfl
/-- bothy/stamp.number -/
def i45 : IFn := ⟨28, [.tmp 2, .tmp 3], (.seq (.reg [⟨some 2, .mv (.c (.x (.int .i64 (0)))), none⟩, ⟨some 3, .mv (.c (.x (.bool false))), none⟩])
  (.seq (.reg [⟨some 4, .mv (.c (.x (.int .i64 (0)))), none⟩])
  (.seq (.seq (.reg [⟨some 7, .mv (.t 0), none⟩, ⟨some 8, .s2b 5 (.t 7), none⟩, ⟨some 9, .len false (.t 8), none⟩, ⟨some 10, .mv (.c (.x (.int .i64 (0)))), none⟩])
  (.block 0
    (.loop
      (.seq (.reg [⟨some 11, .bin .lss (.t 10) (.t 9), none⟩])
      (.seq (.cond (.t 11)
        .skip
        (.exit 0))
      (.seq (.block 1
        (.seq (.reg [⟨some 12, .iad 1 (.t 8) (.t 10), none⟩, ⟨some 13, .ld 1 false (.t 12), none⟩, ⟨some 6, .mv (.t 13), none⟩])
        (.seq (.seq (.reg [⟨some 14, .mv (.t 6), none⟩, ⟨some 15, .bin .lss (.t 14) (.c (.x (.int .u8 (48)))), none⟩, ⟨some 16, .mv (.t 15), none⟩, ⟨some 17, .mv (.t 6), (some (16, false))⟩, ⟨some 18, .bin .gtr (.t 17) (.c (.x (.int .u8 (57)))), (some (16, false))⟩, ⟨some 19, .pick (.t 16) (.c (.x (.bool true))) (.t 18), none⟩])
        (.cond (.t 19)
          (.seq (.reg [⟨some 2, .mv (.c (.x (.int .i64 (0)))), none⟩, ⟨some 3, .mv (.c (.x (.bool false))), none⟩])
          .ret)
          .skip))
        (.reg [⟨some 20, .mv (.t 4), none⟩, ⟨some 21, .bin .mul (.c (.x (.int .i64 (10)))) (.t 20), none⟩, ⟨some 22, .mv (.t 6), none⟩, ⟨some 23, .bin .sub (.t 22) (.c (.x (.int .u8 (48)))), none⟩, ⟨some 24, .cvi .i64 (.t 23), none⟩, ⟨some 25, .bin .add (.t 21) (.t 24), none⟩, ⟨some 4, .mv (.t 25), none⟩]))))
      (.reg [⟨some 26, .bin .add (.t 10) (.c (.x (.int .i64 (1)))), none⟩, ⟨some 10, .mv (.t 26), none⟩])))))))
  (.seq (.reg [⟨some 27, .mv (.t 4), none⟩, ⟨some 2, .mv (.t 27), none⟩, ⟨some 3, .mv (.c (.x (.bool true))), none⟩])
  .ret))))⟩
theorem c45 : compFn Try.prog Try.f45 = some i45 := by kernel_rfl
/-- bothy/policy.class -/
def i46 : IFn := ⟨24, [.tmp 2], (.seq (.reg [⟨some 2, .mv (.c (.x (.int .i64 (0)))), none⟩])
  (.seq (.block 0
    (.seq (.reg [⟨some 4, .mv (.t 0), none⟩, ⟨some 5, .bin .geq (.t 4) (.c (.x (.int .u8 (97)))), none⟩, ⟨some 6, .mv (.t 5), none⟩, ⟨some 7, .mv (.t 0), (some (6, true))⟩, ⟨some 8, .bin .leq (.t 7) (.c (.x (.int .u8 (122)))), (some (6, true))⟩, ⟨some 9, .pick (.t 6) (.t 8) (.c (.x (.bool false))), none⟩, ⟨some 3, .mv (.t 9), none⟩])
    (.cond (.t 3)
      (.seq (.reg [⟨some 2, .mv (.c (.x (.int .i64 (0)))), none⟩])
      .ret)
      (.seq (.reg [⟨some 11, .mv (.t 0), none⟩, ⟨some 12, .bin .geq (.t 11) (.c (.x (.int .u8 (65)))), none⟩, ⟨some 13, .mv (.t 12), none⟩, ⟨some 14, .mv (.t 0), (some (13, true))⟩, ⟨some 15, .bin .leq (.t 14) (.c (.x (.int .u8 (90)))), (some (13, true))⟩, ⟨some 16, .pick (.t 13) (.t 15) (.c (.x (.bool false))), none⟩, ⟨some 10, .mv (.t 16), none⟩])
      (.cond (.t 10)
        (.seq (.reg [⟨some 2, .mv (.c (.x (.int .i64 (1)))), none⟩])
        .ret)
        (.seq (.reg [⟨some 18, .mv (.t 0), none⟩, ⟨some 19, .bin .geq (.t 18) (.c (.x (.int .u8 (48)))), none⟩, ⟨some 20, .mv (.t 19), none⟩, ⟨some 21, .mv (.t 0), (some (20, true))⟩, ⟨some 22, .bin .leq (.t 21) (.c (.x (.int .u8 (57)))), (some (20, true))⟩, ⟨some 23, .pick (.t 20) (.t 22) (.c (.x (.bool false))), none⟩, ⟨some 17, .mv (.t 23), none⟩])
        (.cond (.t 17)
          (.seq (.reg [⟨some 2, .mv (.c (.x (.int .i64 (2)))), none⟩])
          .ret)
          .skip)))))))
  (.seq (.reg [⟨some 2, .mv (.c (.x (.int .i64 (3)))), none⟩])
  .ret)))⟩
theorem c46 : compFn Try.prog Try.f46 = some i46 := by kernel_rfl
/-- slices.Index[[]string,string] -/
def i47 : IFn := ⟨19, [.tmp 4], (.seq (.reg [⟨some 4, .mv (.c (.x (.int .i64 (0)))), none⟩])
  (.seq (.seq (.reg [⟨some 6, .mv (.t 0), none⟩, ⟨some 7, .len false (.t 6), none⟩, ⟨some 8, .mv (.c (.x (.int .i64 (0)))), none⟩])
  (.block 0
    (.loop
      (.seq (.reg [⟨some 9, .bin .lss (.t 8) (.t 7), none⟩])
      (.seq (.cond (.t 9)
        .skip
        (.exit 0))
      (.seq (.block 1
        (.seq (.reg [⟨some 10, .mv (.t 8), none⟩, ⟨some 5, .mv (.t 10), none⟩])
        (.seq (.reg [⟨some 11, .mv (.t 1), none⟩, ⟨some 12, .mv (.t 0), none⟩, ⟨some 13, .mv (.t 5), none⟩, ⟨some 14, .iad 1 (.t 12) (.t 13), none⟩, ⟨some 15, .ld 1 false (.t 14), none⟩, ⟨some 16, .bin .eql (.t 11) (.t 15), none⟩])
        (.cond (.t 16)
          (.seq (.reg [⟨some 17, .mv (.t 5), none⟩, ⟨some 4, .mv (.t 17), none⟩])
          .ret)
          .skip))))
      (.reg [⟨some 18, .bin .add (.t 8) (.c (.x (.int .i64 (1)))), none⟩, ⟨some 8, .mv (.t 18), none⟩])))))))
  (.seq (.reg [⟨some 4, .mv (.c (.x (.int .i64 (-1)))), none⟩])
  .ret)))⟩
theorem c47 : compFn Try.prog Try.f47 = some i47 := by kernel_rfl
/-- bothy/stamp.before$1 -/
def i48 : IFn := ⟨11, [.tmp 2], (.seq (.reg [⟨some 2, .mv (.c (.x (.int .i64 (0)))), none⟩])
  (.seq (.reg [⟨some 3, .mv (.t 0), none⟩, ⟨some 4, .bin .quo (.t 3) (.c (.x (.int .i64 (4)))), none⟩, ⟨some 5, .mv (.t 0), none⟩, ⟨some 6, .bin .quo (.t 5) (.c (.x (.int .i64 (100)))), none⟩, ⟨some 7, .bin .sub (.t 4) (.t 6), none⟩, ⟨some 8, .mv (.t 0), none⟩, ⟨some 9, .bin .quo (.t 8) (.c (.x (.int .i64 (400)))), none⟩, ⟨some 10, .bin .add (.t 7) (.t 9), none⟩, ⟨some 2, .mv (.t 10), none⟩])
  .ret))⟩
theorem c48 : compFn Try.prog Try.f48 = some i48 := by kernel_rfl
/-- bothy/stamp.leap -/
def i49 : IFn := ⟨16, [.tmp 2], (.seq (.reg [⟨some 2, .mv (.c (.x (.bool false))), none⟩])
  (.seq (.reg [⟨some 3, .mv (.t 0), none⟩, ⟨some 4, .bin .rem (.t 3) (.c (.x (.int .i64 (4)))), none⟩, ⟨some 5, .bin .eql (.t 4) (.c (.x (.int .i64 (0)))), none⟩, ⟨some 6, .mv (.t 5), none⟩, ⟨some 7, .mv (.t 0), (some (6, true))⟩, ⟨some 8, .bin .rem (.t 7) (.c (.x (.int .i64 (100)))), (some (6, true))⟩, ⟨some 9, .bin .neq (.t 8) (.c (.x (.int .i64 (0)))), (some (6, true))⟩, ⟨some 10, .pick (.t 6) (.t 9) (.c (.x (.bool false))), none⟩, ⟨some 11, .mv (.t 10), none⟩, ⟨some 12, .mv (.t 0), (some (11, false))⟩, ⟨some 13, .bin .rem (.t 12) (.c (.x (.int .i64 (400)))), (some (11, false))⟩, ⟨some 14, .bin .eql (.t 13) (.c (.x (.int .i64 (0)))), (some (11, false))⟩, ⟨some 15, .pick (.t 11) (.c (.x (.bool true))) (.t 14), none⟩, ⟨some 2, .mv (.t 15), none⟩])
  .ret))⟩
theorem c49 : compFn Try.prog Try.f49 = some i49 := by kernel_rfl
def G : FuncId → Option IFn
  | 3 => some i3
  | 4 => some i4
  | 5 => some i5
  | 6 => some i6
  | 7 => some i7
  | 8 => some i8
  | 9 => some i9
  | 10 => some i10
  | 11 => some i11
  | 12 => some i12
  | 14 => some i14
  | 16 => some i16
  | 17 => some i17
  | 19 => some i19
  | 22 => some i22
  | 23 => some i23
  | 24 => some i24
  | 25 => some i25
  | 26 => some i26
  | 27 => some i27
  | 28 => some i28
  | 29 => some i29
  | 30 => some i30
  | 32 => some i32
  | 33 => some i33
  | 34 => some i34
  | 35 => some i35
  | 36 => some i36
  | 37 => some i37
  | 38 => some i38
  | 39 => some i39
  | 40 => some i40
  | 42 => some i42
  | 43 => some i43
  | 44 => some i44
  | 45 => some i45
  | 46 => some i46
  | 47 => some i47
  | 48 => some i48
  | 49 => some i49
  | _ => none
theorem G_ok : GOk Try.prog G := by
  intro f p h
  unfold G at h
  split at h
  · cases h; exact ⟨Try.f3, Try.func3, by decide, c3⟩
  · cases h; exact ⟨Try.f4, Try.func4, by decide, c4⟩
  · cases h; exact ⟨Try.f5, Try.func5, by decide, c5⟩
  · cases h; exact ⟨Try.f6, Try.func6, by decide, c6⟩
  · cases h; exact ⟨Try.f7, Try.func7, by decide, c7⟩
  · cases h; exact ⟨Try.f8, Try.func8, by decide, c8⟩
  · cases h; exact ⟨Try.f9, Try.func9, by decide, c9⟩
  · cases h; exact ⟨Try.f10, Try.func10, by decide, c10⟩
  · cases h; exact ⟨Try.f11, Try.func11, by decide, c11⟩
  · cases h; exact ⟨Try.f12, Try.func12, by decide, c12⟩
  · cases h; exact ⟨Try.f14, Try.func14, by decide, c14⟩
  · cases h; exact ⟨Try.f16, Try.func16, by decide, c16⟩
  · cases h; exact ⟨Try.f17, Try.func17, by decide, c17⟩
  · cases h; exact ⟨Try.f19, Try.func19, by decide, c19⟩
  · cases h; exact ⟨Try.f22, Try.func22, by decide, c22⟩
  · cases h; exact ⟨Try.f23, Try.func23, by decide, c23⟩
  · cases h; exact ⟨Try.f24, Try.func24, by decide, c24⟩
  · cases h; exact ⟨Try.f25, Try.func25, by decide, c25⟩
  · cases h; exact ⟨Try.f26, Try.func26, by decide, c26⟩
  · cases h; exact ⟨Try.f27, Try.func27, by decide, c27⟩
  · cases h; exact ⟨Try.f28, Try.func28, by decide, c28⟩
  · cases h; exact ⟨Try.f29, Try.func29, by decide, c29⟩
  · cases h; exact ⟨Try.f30, Try.func30, by decide, c30⟩
  · cases h; exact ⟨Try.f32, Try.func32, by decide, c32⟩
  · cases h; exact ⟨Try.f33, Try.func33, by decide, c33⟩
  · cases h; exact ⟨Try.f34, Try.func34, by decide, c34⟩
  · cases h; exact ⟨Try.f35, Try.func35, by decide, c35⟩
  · cases h; exact ⟨Try.f36, Try.func36, by decide, c36⟩
  · cases h; exact ⟨Try.f37, Try.func37, by decide, c37⟩
  · cases h; exact ⟨Try.f38, Try.func38, by decide, c38⟩
  · cases h; exact ⟨Try.f39, Try.func39, by decide, c39⟩
  · cases h; exact ⟨Try.f40, Try.func40, by decide, c40⟩
  · cases h; exact ⟨Try.f42, Try.func42, by decide, c42⟩
  · cases h; exact ⟨Try.f43, Try.func43, by decide, c43⟩
  · cases h; exact ⟨Try.f44, Try.func44, by decide, c44⟩
  · cases h; exact ⟨Try.f45, Try.func45, by decide, c45⟩
  · cases h; exact ⟨Try.f46, Try.func46, by decide, c46⟩
  · cases h; exact ⟨Try.f47, Try.func47, by decide, c47⟩
  · cases h; exact ⟨Try.f48, Try.func48, by decide, c48⟩
  · cases h; exact ⟨Try.f49, Try.func49, by decide, c49⟩
  · cases h
end Go.Proofs.Ytogplpcamiicgaa
