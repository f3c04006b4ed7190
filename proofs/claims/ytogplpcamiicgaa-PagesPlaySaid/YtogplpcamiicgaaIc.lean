/- The code of functions, as the abstract evaluator reads it. Printed by gen_ic.py. -/
import Derived.Test.YtogplpcamiicgaaProg
import Derived.Test.YtogplpcamiicgaaLA4
namespace Go.Proofs.Ytogplpcamiicgaa
open Go.RowKit Go.Bo Go.Ab
/-- bothy/bothylaw38.PagesPlay -/
def i3 : IFn := ⟨165, [.tmp 4], (.seq (.reg [⟨some 4, .mv (.c (.x (.bool false))), none⟩])
  (.seq (.seq (.reg [⟨some 19, .mv (.t 1), none⟩, ⟨some 20, .len false (.t 19), none⟩, ⟨some 21, .bin .gtr (.t 20) (.c (.x (.int .i64 (40)))), none⟩])
  (.cond (.t 21)
    (.seq (.reg [⟨some 22, .call (.c (.fn 12 [])) [], none⟩, ⟨some 4, .mv (.t 22), none⟩])
    .ret)
    .skip))
  (.seq (.reg [⟨some 24, .mv (.t 0), none⟩, ⟨some 25, .call (.c (.fn 13 [])) [(.t 24)], none⟩, ⟨some 23, .mv (.t 25), none⟩, ⟨some 26, .ext (.t 23) 0, none⟩, ⟨some 27, .ext (.t 23) 1, none⟩, ⟨some 5, .mv (.t 26), none⟩, ⟨some 6, .mv (.t 27), none⟩])
  (.seq (.seq (.reg [⟨some 28, .mv (.t 0), none⟩, ⟨some 29, .bin .lss (.t 28) (.c (.x (.int .i64 (1)))), none⟩, ⟨some 30, .mv (.t 29), none⟩, ⟨some 31, .mv (.t 0), (some (30, false))⟩, ⟨some 32, .bin .gtr (.t 31) (.c (.x (.int .i64 (1024)))), (some (30, false))⟩, ⟨some 33, .pick (.t 30) (.c (.x (.bool true))) (.t 32), none⟩])
  (.cond (.t 33)
    (.seq (.reg [⟨some 34, .mv (.t 5), none⟩, ⟨some 35, .eq .ptr false (.t 34) (.c (.x .nilp)), none⟩, ⟨some 36, .mv (.t 35), none⟩, ⟨some 37, .mv (.t 6), (some (36, true))⟩, ⟨some 38, .bin .eql (.t 37) (.c (.x (.int .i64 (1)))), (some (36, true))⟩, ⟨some 39, .pick (.t 36) (.t 38) (.c (.x (.bool false))), none⟩, ⟨some 40, .mv (.t 39), none⟩, ⟨some 41, .call (.c (.fn 12 [])) [], (some (40, true))⟩, ⟨some 42, .pick (.t 40) (.t 41) (.c (.x (.bool false))), none⟩, ⟨some 4, .mv (.t 42), none⟩])
    .ret)
    .skip))
  (.seq (.seq (.reg [⟨some 43, .mv (.t 5), none⟩, ⟨some 44, .eq .ptr false (.t 43) (.c (.x .nilp)), none⟩, ⟨some 45, .mv (.t 44), none⟩, ⟨some 46, .mv (.t 6), (some (45, false))⟩, ⟨some 47, .bin .neq (.t 46) (.c (.x (.int .i64 (0)))), (some (45, false))⟩, ⟨some 48, .pick (.t 45) (.c (.x (.bool true))) (.t 47), none⟩])
  (.cond (.t 48)
    (.seq (.reg [⟨some 4, .mv (.c (.x (.bool false))), none⟩])
    .ret)
    .skip))
  (.seq (.reg [⟨some 7, .mv (.c (.x .nils)), none⟩])
  (.seq (.reg [⟨some 8, .mv (.c (.x (.int .i64 (0)))), none⟩])
  (.seq (.seq (.reg [⟨some 9, .mv (.c (.x (.int .i64 (0)))), none⟩])
  (.block 0
    (.loop
      (.seq (.seq (.reg [⟨some 49, .mv (.t 9), none⟩, ⟨some 50, .mv (.t 1), none⟩, ⟨some 51, .len false (.t 50), none⟩, ⟨some 52, .bin .lss (.t 49) (.t 51), none⟩])
      (.cond (.t 52)
        .skip
        (.exit 0)))
      (.seq (.block 1
        (.seq (.reg [⟨some 10, .mv (.c (.x (.bool true))), none⟩])
        (.seq (.seq (.reg [⟨some 55, .mv (.t 1), none⟩, ⟨some 56, .mv (.t 9), none⟩, ⟨some 57, .iad 3 (.t 55) (.t 56), none⟩, ⟨some 58, .fad 0 (.t 57), none⟩, ⟨some 59, .ld 1 false (.t 58), none⟩])
        (.block 2
          (.seq (.reg [⟨some 83, .bin .eql (.t 59) (.c (.x (.int .i64 (0)))), none⟩, ⟨some 82, .mv (.t 83), none⟩])
          (.cond (.t 82)
            (.seq (.reg [⟨some 84, .mv (.t 1), none⟩, ⟨some 85, .mv (.t 9), none⟩, ⟨some 86, .iad 3 (.t 84) (.t 85), none⟩, ⟨some 87, .fad 2 (.t 86), none⟩, ⟨some 88, .ld 1 false (.t 87), none⟩, ⟨some 89, .mnx false (.t 88) (.c (.x (.int .i64 (40)))), none⟩, ⟨some 90, .mnx true (.c (.x (.int .i64 (0)))) (.t 89), none⟩, ⟨some 91, .call (.c (.fn 14 [])) [(.t 90)], none⟩, ⟨some 11, .mv (.t 91), none⟩])
            (.seq (.reg [⟨some 93, .mv (.t 5), none⟩, ⟨some 94, .mv (.t 11), none⟩, ⟨some 95, .call (.c (.fn 15 [])) [(.t 93), (.t 94)], none⟩, ⟨some 92, .mv (.t 95), none⟩, ⟨some 96, .ext (.t 92) 0, none⟩, ⟨some 97, .ext (.t 92) 1, none⟩, ⟨some 12, .mv (.t 96), none⟩, ⟨some 13, .mv (.t 97), none⟩])
            (.seq (.reg [⟨some 98, .mv (.t 11), none⟩, ⟨some 99, .len false (.t 98), none⟩, ⟨some 100, .bin .gtr (.t 99) (.c (.x (.int .i64 (0)))), none⟩, ⟨some 101, .mv (.t 100), none⟩, ⟨some 102, .mv (.t 7), (some (101, true))⟩, ⟨some 103, .len false (.t 102), (some (101, true))⟩, ⟨some 104, .mv (.t 0), (some (101, true))⟩, ⟨some 105, .bin .lss (.t 103) (.t 104), (some (101, true))⟩, ⟨some 106, .pick (.t 101) (.t 105) (.c (.x (.bool false))), none⟩])
            (.cond (.t 106)
              (.seq (.reg [⟨some 107, .mv (.t 8), none⟩, ⟨some 108, .bin .add (.t 107) (.c (.x (.int .i64 (1)))), none⟩, ⟨some 8, .mv (.t 108), none⟩])
              (.seq (.reg [⟨some 14, .mv (.c (.x .nils)), none⟩])
              (.seq (.seq (.reg [⟨some 15, .mv (.c (.x (.int .i64 (0)))), none⟩])
              (.block 3
                (.loop
                  (.seq (.seq (.reg [⟨some 109, .mv (.t 15), none⟩, ⟨some 110, .mv (.t 11), none⟩, ⟨some 111, .len false (.t 110), none⟩, ⟨some 112, .bin .lss (.t 109) (.t 111), none⟩])
                  (.cond (.t 112)
                    .skip
                    (.exit 3)))
                  (.seq (.block 4
                    (.reg [⟨some 115, .mv (.t 14), none⟩, ⟨some 116, .mv (.t 11), none⟩, ⟨some 117, .mv (.t 15), none⟩, ⟨some 118, .iad 2 (.t 116) (.t 117), none⟩, ⟨some 119, .fad 0 (.t 118), none⟩, ⟨some 120, .ld 1 false (.t 119), none⟩, ⟨some 121, .bsl 9 1 1 [(.t 120)], none⟩, ⟨some 122, .app 9 1 16 (.t 115) (.t 121), none⟩, ⟨some 14, .mv (.t 122), none⟩]))
                  (.reg [⟨some 113, .mv (.t 15), none⟩, ⟨some 114, .bin .add (.t 113) (.c (.x (.int .i64 (1)))), none⟩, ⟨some 15, .mv (.t 114), none⟩]))))))
              (.seq (.reg [⟨some 123, .mv (.t 7), none⟩, ⟨some 124, .mv (.t 8), none⟩, ⟨some 125, .mv (.t 14), none⟩, ⟨some 126, .build [.x (.int .i64 (0)), .x .nils] [(0, 1, (.t 124)), (1, 1, (.t 125))], none⟩, ⟨some 127, .bsl 40 2 1 [(.t 126)], none⟩, ⟨some 128, .app 40 2 32 (.t 123) (.t 127), none⟩, ⟨some 7, .mv (.t 128), none⟩])
              (.reg [⟨some 129, .mv (.t 12), none⟩, ⟨some 130, .mv (.t 8), none⟩, ⟨some 131, .bin .eql (.t 129) (.t 130), none⟩, ⟨some 132, .mv (.t 131), none⟩, ⟨some 133, .mv (.t 13), (some (132, true))⟩, ⟨some 134, .pick (.t 132) (.t 133) (.c (.x (.bool false))), none⟩, ⟨some 10, .mv (.t 134), none⟩])))))
              (.reg [⟨some 135, .mv (.t 12), none⟩, ⟨some 136, .bin .eql (.t 135) (.c (.x (.int .i64 (0)))), none⟩, ⟨some 137, .mv (.t 136), none⟩, ⟨some 138, .mv (.t 13), (some (137, true))⟩, ⟨some 139, .un .not (.t 138), (some (137, true))⟩, ⟨some 140, .pick (.t 137) (.t 139) (.c (.x (.bool false))), none⟩, ⟨some 10, .mv (.t 140), none⟩])))))
            (.seq (.reg [⟨some 142, .bin .eql (.t 59) (.c (.x (.int .i64 (1)))), none⟩, ⟨some 141, .mv (.t 142), none⟩])
            (.cond (.t 141)
              (.seq (.reg [⟨some 144, .mv (.t 5), none⟩, ⟨some 145, .mv (.t 7), none⟩, ⟨some 146, .mv (.t 1), none⟩, ⟨some 147, .mv (.t 9), none⟩, ⟨some 148, .iad 3 (.t 146) (.t 147), none⟩, ⟨some 149, .ld 3 true (.t 148), none⟩, ⟨some 150, .call (.c (.fn 16 [])) [(.t 144), (.t 145), (.t 149)], none⟩, ⟨some 143, .mv (.t 150), none⟩, ⟨some 151, .ext (.t 143) 0, none⟩, ⟨some 152, .ext (.t 143) 1, none⟩, ⟨some 16, .mv (.t 151), none⟩, ⟨some 17, .mv (.t 152), none⟩])
              (.seq (.reg [⟨some 153, .mv (.t 16), none⟩, ⟨some 7, .mv (.t 153), none⟩])
              (.reg [⟨some 154, .mv (.t 17), none⟩, ⟨some 10, .mv (.t 154), none⟩])))
              (.seq (.reg [⟨some 60, .mv (.t 7), none⟩, ⟨some 61, .mv (.t 1), none⟩, ⟨some 62, .mv (.t 9), none⟩, ⟨some 63, .iad 3 (.t 61) (.t 62), none⟩, ⟨some 64, .fad 1 (.t 63), none⟩, ⟨some 65, .ld 1 false (.t 64), none⟩, ⟨some 66, .call (.c (.fn 17 [])) [(.t 60), (.t 65)], none⟩, ⟨some 18, .mv (.t 66), none⟩])
              (.seq (.reg [⟨some 67, .mv (.t 5), none⟩, ⟨some 68, .mv (.t 1), none⟩, ⟨some 69, .mv (.t 9), none⟩, ⟨some 70, .iad 3 (.t 68) (.t 69), none⟩, ⟨some 71, .fad 1 (.t 70), none⟩, ⟨some 72, .ld 1 false (.t 71), none⟩, ⟨some 73, .call (.c (.fn 18 [])) [(.t 67), (.t 72)], none⟩, ⟨some 74, .mv (.t 18), none⟩, ⟨some 75, .bin .geq (.t 74) (.c (.x (.int .i64 (0)))), none⟩, ⟨some 76, .eq .bool false (.t 73) (.t 75), none⟩, ⟨some 10, .mv (.t 76), none⟩])
              (.seq (.reg [⟨some 77, .mv (.t 18), none⟩, ⟨some 78, .bin .geq (.t 77) (.c (.x (.int .i64 (0)))), none⟩])
              (.cond (.t 78)
                (.reg [⟨some 79, .mv (.t 7), none⟩, ⟨some 80, .mv (.t 18), none⟩, ⟨some 81, .call (.c (.fn 19 [])) [(.t 79), (.t 80)], none⟩, ⟨some 7, .mv (.t 81), none⟩])
                .skip))))))))))
        (.seq (.reg [⟨some 155, .mv (.t 10), none⟩, ⟨some 156, .un .not (.t 155), none⟩, ⟨some 157, .mv (.t 156), none⟩, ⟨some 158, .mv (.t 5), (some (157, false))⟩, ⟨some 159, .call (.c (.fn 20 [])) [(.t 158)], (some (157, false))⟩, ⟨some 160, .mv (.t 7), (some (157, false))⟩, ⟨some 161, .len false (.t 160), (some (157, false))⟩, ⟨some 162, .bin .neq (.t 159) (.t 161), (some (157, false))⟩, ⟨some 163, .pick (.t 157) (.c (.x (.bool true))) (.t 162), none⟩])
        (.cond (.t 163)
          (.seq (.reg [⟨some 4, .mv (.c (.x (.bool false))), none⟩])
          .ret)
          .skip)))))
      (.reg [⟨some 53, .mv (.t 9), none⟩, ⟨some 54, .bin .add (.t 53) (.c (.x (.int .i64 (1)))), none⟩, ⟨some 9, .mv (.t 54), none⟩]))))))
  (.seq (.reg [⟨some 164, .call (.c (.fn 12 [])) [], none⟩, ⟨some 4, .mv (.t 164), none⟩])
  .ret)))))))))⟩
theorem c3 : compFn Try.prog Try.f3 = some i3 := by kernel_rfl
/-- bothy/bothylaw38.PagesNone -/
def i4 : IFn := ⟨53, [.tmp 2], (.seq (.reg [⟨some 1, .box (.t 0), none⟩, ⟨some 2, .mv (.c (.x (.bool false))), none⟩])
  (.seq (.reg [⟨some 3, .mv (.c (.x .nilp)), none⟩])
  (.seq (.reg [⟨some 10, .mv (.t 3), none⟩, ⟨some 11, .call (.c (.fn 14 [])) [(.c (.x (.int .i64 (1))))], none⟩, ⟨some 12, .call (.c (.fn 15 [])) [(.t 10), (.t 11)], none⟩, ⟨some 9, .mv (.t 12), none⟩, ⟨some 13, .ext (.t 9) 0, none⟩, ⟨some 14, .ext (.t 9) 1, none⟩, ⟨some 4, .mv (.t 13), none⟩, ⟨some 5, .mv (.t 14), none⟩])
  (.seq (.reg [⟨some 16, .mv (.t 3), none⟩, ⟨some 17, .fad 1 (.t 1), none⟩, ⟨some 18, .ld 1 false (.t 17), none⟩, ⟨some 19, .fad 2 (.t 1), none⟩, ⟨some 20, .ld 1 false (.t 19), none⟩, ⟨some 21, .call (.c (.fn 21 [])) [(.t 16), (.t 18), (.t 20)], none⟩, ⟨some 15, .mv (.t 21), none⟩, ⟨some 22, .ext (.t 15) 0, none⟩, ⟨some 23, .ext (.t 15) 1, none⟩, ⟨some 24, .ext (.t 15) 2, none⟩, ⟨some 6, .mv (.t 22), none⟩, ⟨some 7, .mv (.t 23), none⟩, ⟨some 8, .mv (.t 24), none⟩])
  (.seq (.reg [⟨some 25, .mv (.t 4), none⟩, ⟨some 26, .mv (.t 7), none⟩, ⟨some 27, .bin .add (.t 25) (.t 26), none⟩, ⟨some 28, .mv (.t 6), none⟩, ⟨some 29, .len false (.t 28), none⟩, ⟨some 30, .bin .add (.t 27) (.t 29), none⟩, ⟨some 31, .mv (.t 3), none⟩, ⟨some 32, .call (.c (.fn 20 [])) [(.t 31)], none⟩, ⟨some 33, .bin .add (.t 30) (.t 32), none⟩, ⟨some 34, .bin .eql (.t 33) (.c (.x (.int .i64 (0)))), none⟩, ⟨some 35, .mv (.t 34), none⟩, ⟨some 36, .mv (.t 5), (some (35, true))⟩, ⟨some 37, .un .not (.t 36), (some (35, true))⟩, ⟨some 38, .pick (.t 35) (.t 37) (.c (.x (.bool false))), none⟩, ⟨some 39, .mv (.t 38), none⟩, ⟨some 40, .mv (.t 8), (some (39, true))⟩, ⟨some 41, .bin .eql (.t 40) (.c (.x (.int .i64 (12)))), (some (39, true))⟩, ⟨some 42, .pick (.t 39) (.t 41) (.c (.x (.bool false))), none⟩, ⟨some 43, .mv (.t 42), none⟩, ⟨some 44, .mv (.t 3), (some (43, true))⟩, ⟨some 45, .fad 1 (.t 1), (some (43, true))⟩, ⟨some 46, .ld 1 false (.t 45), (some (43, true))⟩, ⟨some 47, .call (.c (.fn 18 [])) [(.t 44), (.t 46)], (some (43, true))⟩, ⟨some 48, .un .not (.t 47), (some (43, true))⟩, ⟨some 49, .pick (.t 43) (.t 48) (.c (.x (.bool false))), none⟩, ⟨some 50, .mv (.t 49), none⟩, ⟨some 51, .call (.c (.fn 12 [])) [], (some (50, true))⟩, ⟨some 52, .pick (.t 50) (.t 51) (.c (.x (.bool false))), none⟩, ⟨some 2, .mv (.t 52), none⟩])
  .ret)))))⟩
theorem c4 : compFn Try.prog Try.f4 = some i4 := by kernel_rfl
/-- bothy/bothylaw38.PagesAll -/
def i5 : IFn := ⟨117, [.tmp 4], (.seq (.reg [⟨some 4, .mv (.c (.x (.bool false))), none⟩])
  (.seq (.reg [⟨some 17, .call (.c (.fn 13 [])) [(.c (.x (.int .i64 (4))))], none⟩, ⟨some 16, .mv (.t 17), none⟩, ⟨some 18, .ext (.t 16) 0, none⟩, ⟨some 19, .ext (.t 16) 1, none⟩, ⟨some 5, .mv (.t 18), none⟩, ⟨some 6, .mv (.t 19), none⟩])
  (.seq (.seq (.reg [⟨some 20, .mv (.t 5), none⟩, ⟨some 21, .eq .ptr false (.t 20) (.c (.x .nilp)), none⟩, ⟨some 22, .mv (.t 21), none⟩, ⟨some 23, .mv (.t 1), (some (22, false))⟩, ⟨some 24, .len false (.t 23), (some (22, false))⟩, ⟨some 25, .bin .gtr (.t 24) (.c (.x (.int .i64 (100)))), (some (22, false))⟩, ⟨some 26, .pick (.t 22) (.c (.x (.bool true))) (.t 25), none⟩])
  (.cond (.t 26)
    (.seq (.reg [⟨some 27, .mv (.t 5), none⟩, ⟨some 28, .eq .ptr true (.t 27) (.c (.x .nilp)), none⟩, ⟨some 29, .mv (.t 28), none⟩, ⟨some 30, .call (.c (.fn 12 [])) [], (some (29, true))⟩, ⟨some 31, .pick (.t 29) (.t 30) (.c (.x (.bool false))), none⟩, ⟨some 4, .mv (.t 31), none⟩])
    .ret)
    .skip))
  (.seq (.reg [⟨some 32, .mv (.t 0), none⟩, ⟨some 33, .cvi .i64 (.t 32), none⟩, ⟨some 34, .call (.c (.fn 14 [])) [(.t 33)], none⟩, ⟨some 7, .mv (.t 34), none⟩])
  (.seq (.reg [⟨some 36, .mv (.t 5), none⟩, ⟨some 37, .mv (.t 7), none⟩, ⟨some 38, .call (.c (.fn 15 [])) [(.t 36), (.t 37)], none⟩, ⟨some 35, .mv (.t 38), none⟩, ⟨some 39, .ext (.t 35) 0, none⟩, ⟨some 40, .ext (.t 35) 1, none⟩, ⟨some 8, .mv (.t 39), none⟩, ⟨some 9, .mv (.t 40), none⟩])
  (.seq (.seq (.reg [⟨some 41, .mv (.t 9), none⟩, ⟨some 42, .un .not (.t 41), none⟩])
  (.cond (.t 42)
    (.seq (.reg [⟨some 43, .mv (.t 0), none⟩, ⟨some 44, .bin .eql (.t 43) (.c (.x (.int .u8 (0)))), none⟩, ⟨some 45, .mv (.t 44), none⟩, ⟨some 46, .call (.c (.fn 12 [])) [], (some (45, true))⟩, ⟨some 47, .pick (.t 45) (.t 46) (.c (.x (.bool false))), none⟩, ⟨some 4, .mv (.t 47), none⟩])
    .ret)
    .skip))
  (.seq (.reg [⟨some 10, .mv (.c (.x (.int .i64 (0)))), none⟩])
  (.seq (.seq (.reg [⟨some 11, .mv (.c (.x (.int .i64 (0)))), none⟩])
  (.block 0
    (.loop
      (.seq (.seq (.reg [⟨some 48, .mv (.t 11), none⟩, ⟨some 49, .mv (.t 1), none⟩, ⟨some 50, .len false (.t 49), none⟩, ⟨some 51, .bin .lss (.t 48) (.t 50), none⟩, ⟨some 52, .mv (.t 51), none⟩, ⟨some 53, .mv (.t 8), (some (52, true))⟩, ⟨some 54, .bin .neq (.t 53) (.c (.x (.int .i64 (0)))), (some (52, true))⟩, ⟨some 55, .pick (.t 52) (.t 54) (.c (.x (.bool false))), none⟩])
      (.cond (.t 55)
        .skip
        (.exit 0)))
      (.seq (.block 1
        (.seq (.reg [⟨some 59, .mv (.t 5), none⟩, ⟨some 60, .mv (.t 8), none⟩, ⟨some 61, .mv (.t 1), none⟩, ⟨some 62, .mv (.t 11), none⟩, ⟨some 63, .iad 1 (.t 61) (.t 62), none⟩, ⟨some 64, .ld 1 false (.t 63), none⟩, ⟨some 65, .bin .rem (.t 64) (.c (.x (.int .u8 (20)))), none⟩, ⟨some 66, .cvi .i64 (.t 65), none⟩, ⟨some 67, .bin .add (.t 66) (.c (.x (.int .i64 (1)))), none⟩, ⟨some 68, .call (.c (.fn 21 [])) [(.t 59), (.t 60), (.t 67)], none⟩, ⟨some 58, .mv (.t 68), none⟩, ⟨some 69, .ext (.t 58) 0, none⟩, ⟨some 70, .ext (.t 58) 1, none⟩, ⟨some 71, .ext (.t 58) 2, none⟩, ⟨some 12, .mv (.t 69), none⟩, ⟨some 13, .mv (.t 70), none⟩, ⟨some 14, .mv (.t 71), none⟩])
        (.seq (.seq (.reg [⟨some 72, .mv (.t 14), none⟩, ⟨some 73, .bin .neq (.t 72) (.c (.x (.int .i64 (0)))), none⟩, ⟨some 74, .mv (.t 73), none⟩, ⟨some 75, .mv (.t 12), (some (74, false))⟩, ⟨some 76, .len false (.t 75), (some (74, false))⟩, ⟨some 77, .mv (.t 7), (some (74, false))⟩, ⟨some 78, .len false (.t 77), (some (74, false))⟩, ⟨some 79, .mv (.t 10), (some (74, false))⟩, ⟨some 80, .bin .sub (.t 78) (.t 79), (some (74, false))⟩, ⟨some 81, .bin .gtr (.t 76) (.t 80), (some (74, false))⟩, ⟨some 82, .pick (.t 74) (.c (.x (.bool true))) (.t 81), none⟩])
        (.cond (.t 82)
          (.seq (.reg [⟨some 4, .mv (.c (.x (.bool false))), none⟩])
          .ret)
          .skip))
        (.seq (.seq (.reg [⟨some 15, .mv (.c (.x (.int .i64 (0)))), none⟩])
        (.block 2
          (.loop
            (.seq (.seq (.reg [⟨some 83, .mv (.t 15), none⟩, ⟨some 84, .mv (.t 12), none⟩, ⟨some 85, .len false (.t 84), none⟩, ⟨some 86, .bin .lss (.t 83) (.t 85), none⟩])
            (.cond (.t 86)
              .skip
              (.exit 2)))
            (.seq (.block 3
              (.seq (.dreg 12 [] [⟨some 89, .mv (.t 12), none⟩, ⟨some 90, .mv (.t 15), none⟩, ⟨some 91, .iad 2 (.t 89) (.t 90), none⟩, ⟨some 92, .fad 0 (.t 91), none⟩, ⟨some 93, .ld 1 false (.t 92), none⟩, ⟨some 94, .mv (.t 7), none⟩, ⟨some 95, .mv (.t 10), none⟩, ⟨some 96, .mv (.t 15), none⟩, ⟨some 97, .bin .add (.t 95) (.t 96), none⟩, ⟨some 98, .iad 2 (.t 94) (.t 97), none⟩, ⟨some 99, .fad 0 (.t 98), none⟩, ⟨some 100, .ld 1 false (.t 99), none⟩, ⟨some 101, .bin .neq (.t 93) (.t 100), none⟩])
              (.cond (.t 101)
                (.seq (.reg [⟨some 4, .mv (.c (.x (.bool false))), none⟩])
                .ret)
                .skip)))
            (.reg [⟨some 87, .mv (.t 15), none⟩, ⟨some 88, .bin .add (.t 87) (.c (.x (.int .i64 (1)))), none⟩, ⟨some 15, .mv (.t 88), none⟩]))))))
        (.seq (.reg [⟨some 102, .mv (.t 10), none⟩, ⟨some 103, .mv (.t 12), none⟩, ⟨some 104, .len false (.t 103), none⟩, ⟨some 105, .bin .add (.t 102) (.t 104), none⟩, ⟨some 10, .mv (.t 105), none⟩])
        (.reg [⟨some 106, .mv (.t 13), none⟩, ⟨some 8, .mv (.t 106), none⟩]))))))
      (.reg [⟨some 56, .mv (.t 11), none⟩, ⟨some 57, .bin .add (.t 56) (.c (.x (.int .i64 (1)))), none⟩, ⟨some 11, .mv (.t 57), none⟩]))))))
  (.seq (.reg [⟨some 107, .mv (.t 8), none⟩, ⟨some 108, .bin .eql (.t 107) (.c (.x (.int .i64 (0)))), none⟩, ⟨some 109, .mv (.t 10), none⟩, ⟨some 110, .mv (.t 7), none⟩, ⟨some 111, .len false (.t 110), none⟩, ⟨some 112, .bin .eql (.t 109) (.t 111), none⟩, ⟨some 113, .eq .bool false (.t 108) (.t 112), none⟩, ⟨some 114, .mv (.t 113), none⟩, ⟨some 115, .call (.c (.fn 12 [])) [], (some (114, true))⟩, ⟨some 116, .pick (.t 114) (.t 115) (.c (.x (.bool false))), none⟩, ⟨some 4, .mv (.t 116), none⟩])
  .ret)))))))))⟩
theorem c5 : compFn Try.prog Try.f5 = some i5 := by kernel_rfl
/-- bothy/bothylaw38.awake -/
def i12 : IFn := ⟨118, [.tmp 0], (.seq (.reg [⟨some 0, .mv (.c (.x (.bool false))), none⟩])
  (.seq (.reg [⟨some 19, .call (.c (.fn 13 [])) [(.c (.x (.int .i64 (1))))], none⟩, ⟨some 18, .mv (.t 19), none⟩, ⟨some 20, .ext (.t 18) 0, none⟩, ⟨some 21, .ext (.t 18) 1, none⟩, ⟨some 1, .mv (.t 20), none⟩, ⟨some 2, .mv (.t 21), none⟩])
  (.seq (.reg [⟨some 23, .call (.c (.fn 13 [])) [(.c (.x (.int .i64 (0))))], none⟩, ⟨some 22, .mv (.t 23), none⟩, ⟨some 24, .ext (.t 22) 0, none⟩, ⟨some 25, .ext (.t 22) 1, none⟩, ⟨some 3, .mv (.t 24), none⟩, ⟨some 4, .mv (.t 25), none⟩])
  (.seq (.seq (.reg [⟨some 26, .mv (.t 1), none⟩, ⟨some 27, .eq .ptr false (.t 26) (.c (.x .nilp)), none⟩])
  (.cond (.t 27)
    (.seq (.reg [⟨some 0, .mv (.c (.x (.bool false))), none⟩])
    .ret)
    .skip))
  (.seq (.reg [⟨some 29, .mv (.t 1), none⟩, ⟨some 30, .call (.c (.fn 14 [])) [(.c (.x (.int .i64 (3))))], none⟩, ⟨some 31, .call (.c (.fn 15 [])) [(.t 29), (.t 30)], none⟩, ⟨some 28, .mv (.t 31), none⟩, ⟨some 32, .ext (.t 28) 0, none⟩, ⟨some 33, .ext (.t 28) 1, none⟩, ⟨some 5, .mv (.t 32), none⟩, ⟨some 6, .mv (.t 33), none⟩])
  (.seq (.reg [⟨some 35, .mv (.t 1), none⟩, ⟨some 36, .call (.c (.fn 14 [])) [(.c (.x (.int .i64 (1))))], none⟩, ⟨some 37, .call (.c (.fn 15 [])) [(.t 35), (.t 36)], none⟩, ⟨some 34, .mv (.t 37), none⟩, ⟨some 38, .ext (.t 34) 0, none⟩, ⟨some 39, .ext (.t 34) 1, none⟩, ⟨some 7, .mv (.t 38), none⟩, ⟨some 8, .mv (.t 39), none⟩])
  (.seq (.reg [⟨some 41, .mv (.t 1), none⟩, ⟨some 42, .mv (.t 5), none⟩, ⟨some 43, .call (.c (.fn 21 [])) [(.t 41), (.t 42), (.c (.x (.int .i64 (2))))], none⟩, ⟨some 40, .mv (.t 43), none⟩, ⟨some 44, .ext (.t 40) 0, none⟩, ⟨some 45, .ext (.t 40) 1, none⟩, ⟨some 46, .ext (.t 40) 2, none⟩, ⟨some 9, .mv (.t 44), none⟩, ⟨some 10, .mv (.t 45), none⟩, ⟨some 11, .mv (.t 46), none⟩])
  (.seq (.reg [⟨some 48, .mv (.t 1), none⟩, ⟨some 49, .mv (.t 5), none⟩, ⟨some 50, .call (.c (.fn 21 [])) [(.t 48), (.t 49), (.c (.x (.int .i64 (2))))], none⟩, ⟨some 47, .mv (.t 50), none⟩, ⟨some 51, .ext (.t 47) 0, none⟩, ⟨some 52, .ext (.t 47) 1, none⟩, ⟨some 53, .ext (.t 47) 2, none⟩, ⟨some 12, .mv (.t 51), none⟩, ⟨some 13, .mv (.t 52), none⟩, ⟨some 14, .mv (.t 53), none⟩])
  (.seq (.reg [⟨some 55, .mv (.t 1), none⟩, ⟨some 56, .mv (.t 5), none⟩, ⟨some 57, .call (.c (.fn 21 [])) [(.t 55), (.t 56), (.c (.x (.int .i64 (2))))], none⟩, ⟨some 54, .mv (.t 57), none⟩, ⟨some 58, .ext (.t 54) 0, none⟩, ⟨some 59, .ext (.t 54) 1, none⟩, ⟨some 60, .ext (.t 54) 2, none⟩, ⟨some 15, .mv (.t 58), none⟩, ⟨some 16, .mv (.t 59), none⟩, ⟨some 17, .mv (.t 60), none⟩])
  (.seq (.reg [⟨some 61, .mv (.t 2), none⟩, ⟨some 62, .bin .eql (.t 61) (.c (.x (.int .i64 (0)))), none⟩, ⟨some 63, .mv (.t 62), none⟩, ⟨some 64, .mv (.t 4), (some (63, true))⟩, ⟨some 65, .bin .eql (.t 64) (.c (.x (.int .i64 (1)))), (some (63, true))⟩, ⟨some 66, .pick (.t 63) (.t 65) (.c (.x (.bool false))), none⟩, ⟨some 67, .mv (.t 66), none⟩, ⟨some 68, .mv (.t 5), (some (67, true))⟩, ⟨some 69, .bin .eql (.t 68) (.c (.x (.int .i64 (1)))), (some (67, true))⟩, ⟨some 70, .pick (.t 67) (.t 69) (.c (.x (.bool false))), none⟩, ⟨some 71, .mv (.t 70), none⟩, ⟨some 72, .mv (.t 6), (some (71, true))⟩, ⟨some 73, .pick (.t 71) (.t 72) (.c (.x (.bool false))), none⟩, ⟨some 74, .mv (.t 73), none⟩, ⟨some 75, .mv (.t 8), (some (74, true))⟩, ⟨some 76, .un .not (.t 75), (some (74, true))⟩, ⟨some 77, .pick (.t 74) (.t 76) (.c (.x (.bool false))), none⟩, ⟨some 78, .mv (.t 77), none⟩, ⟨some 79, .mv (.t 9), (some (78, true))⟩, ⟨some 80, .len false (.t 79), (some (78, true))⟩, ⟨some 81, .bin .eql (.t 80) (.c (.x (.int .i64 (2)))), (some (78, true))⟩, ⟨some 82, .pick (.t 78) (.t 81) (.c (.x (.bool false))), none⟩, ⟨some 83, .mv (.t 82), none⟩, ⟨some 84, .mv (.t 10), (some (83, true))⟩, ⟨some 85, .bin .eql (.t 84) (.c (.x (.int .i64 (1)))), (some (83, true))⟩, ⟨some 86, .pick (.t 83) (.t 85) (.c (.x (.bool false))), none⟩, ⟨some 87, .mv (.t 86), none⟩, ⟨some 88, .mv (.t 11), (some (87, true))⟩, ⟨some 89, .bin .eql (.t 88) (.c (.x (.int .i64 (0)))), (some (87, true))⟩, ⟨some 90, .pick (.t 87) (.t 89) (.c (.x (.bool false))), none⟩, ⟨some 91, .mv (.t 90), none⟩, ⟨some 92, .mv (.t 12), (some (91, true))⟩, ⟨some 93, .len false (.t 92), (some (91, true))⟩, ⟨some 94, .bin .eql (.t 93) (.c (.x (.int .i64 (1)))), (some (91, true))⟩, ⟨some 95, .pick (.t 91) (.t 94) (.c (.x (.bool false))), none⟩, ⟨some 96, .mv (.t 95), none⟩, ⟨some 97, .mv (.t 13), (some (96, true))⟩, ⟨some 98, .bin .eql (.t 97) (.c (.x (.int .i64 (0)))), (some (96, true))⟩, ⟨some 99, .pick (.t 96) (.t 98) (.c (.x (.bool false))), none⟩, ⟨some 100, .mv (.t 99), none⟩, ⟨some 101, .mv (.t 14), (some (100, true))⟩, ⟨some 102, .bin .eql (.t 101) (.c (.x (.int .i64 (0)))), (some (100, true))⟩, ⟨some 103, .pick (.t 100) (.t 102) (.c (.x (.bool false))), none⟩, ⟨some 104, .mv (.t 103), none⟩, ⟨some 105, .mv (.t 17), (some (104, true))⟩, ⟨some 106, .bin .eql (.t 105) (.c (.x (.int .i64 (8)))), (some (104, true))⟩, ⟨some 107, .pick (.t 104) (.t 106) (.c (.x (.bool false))), none⟩, ⟨some 108, .mv (.t 107), none⟩, ⟨some 109, .mv (.t 1), (some (108, true))⟩, ⟨some 110, .call (.c (.fn 20 [])) [(.t 109)], (some (108, true))⟩, ⟨some 111, .bin .eql (.t 110) (.c (.x (.int .i64 (0)))), (some (108, true))⟩, ⟨some 112, .pick (.t 108) (.t 111) (.c (.x (.bool false))), none⟩, ⟨some 113, .mv (.t 112), none⟩, ⟨some 114, .mv (.t 1), (some (113, true))⟩, ⟨some 115, .call (.c (.fn 18 [])) [(.t 114), (.c (.x (.int .i64 (1))))], (some (113, true))⟩, ⟨some 116, .un .not (.t 115), (some (113, true))⟩, ⟨some 117, .pick (.t 113) (.t 116) (.c (.x (.bool false))), none⟩, ⟨some 0, .mv (.t 117), none⟩])
  .ret))))))))))⟩
theorem c12 : compFn Try.prog Try.f12 = some i12 := by kernel_rfl
/-- bothy/pages.New -/
def i13 : IFn := ⟨14, [.tmp 2, .tmp 3], (.seq (.reg [⟨some 2, .mv (.c (.x .nilp)), none⟩, ⟨some 3, .mv (.c (.x (.int .i64 (0)))), none⟩])
  (.seq (.seq (.reg [⟨some 4, .mv (.t 0), none⟩, ⟨some 5, .bin .lss (.t 4) (.c (.x (.int .i64 (1)))), none⟩, ⟨some 6, .mv (.t 5), none⟩, ⟨some 7, .mv (.t 0), (some (6, false))⟩, ⟨some 8, .bin .gtr (.t 7) (.c (.x (.int .i64 (1024)))), (some (6, false))⟩, ⟨some 9, .pick (.t 6) (.c (.x (.bool true))) (.t 8), none⟩])
  (.cond (.t 9)
    (.seq (.reg [⟨some 2, .mv (.c (.x .nilp)), none⟩, ⟨some 3, .mv (.c (.x (.int .i64 (1)))), none⟩])
    .ret)
    .skip))
  (.seq (.reg [⟨some 10, .mkm (.int .i64) false, none⟩, ⟨some 11, .mv (.t 0), none⟩, ⟨some 12, .build [.mnil, .x (.int .i64 (0)), .x (.int .i64 (0))] [(0, 1, (.t 10)), (1, 1, (.t 11))], none⟩, ⟨some 13, .box (.t 12), none⟩, ⟨some 2, .mv (.t 13), none⟩, ⟨some 3, .mv (.c (.x (.int .i64 (0)))), none⟩])
  .ret)))⟩
theorem c13 : compFn Try.prog Try.f13 = some i13 := by kernel_rfl
/-- bothy/bothylaw38.some -/
def i14 : IFn := ⟨21, [.tmp 2], (.seq (.reg [⟨some 2, .mv (.c (.x .nils)), none⟩])
  (.seq (.reg [⟨some 3, .mv (.c (.x .nils)), none⟩])
  (.seq (.seq (.reg [⟨some 4, .mv (.c (.x (.int .i64 (0)))), none⟩])
  (.block 0
    (.loop
      (.seq (.seq (.reg [⟨some 5, .mv (.t 4), none⟩, ⟨some 6, .mv (.t 0), none⟩, ⟨some 7, .bin .lss (.t 5) (.t 6), none⟩])
      (.cond (.t 7)
        .skip
        (.exit 0)))
      (.seq (.block 1
        (.reg [⟨some 10, .mv (.t 3), none⟩, ⟨some 11, .mv (.t 4), none⟩, ⟨some 12, .bin .rem (.t 11) (.c (.x (.int .i64 (26)))), none⟩, ⟨some 13, .bin .add (.c (.x (.int .i64 (97)))) (.t 12), none⟩, ⟨some 14, .cvi .u8 (.t 13), none⟩, ⟨some 15, .bsl 5 1 1 [(.t 14)], none⟩, ⟨some 16, .b2s (.t 15), none⟩, ⟨some 17, .build [.x (.str []), .x .nils] [(0, 1, (.t 16))], none⟩, ⟨some 18, .bsl 38 2 1 [(.t 17)], none⟩, ⟨some 19, .app 38 2 40 (.t 10) (.t 18), none⟩, ⟨some 3, .mv (.t 19), none⟩]))
      (.reg [⟨some 8, .mv (.t 4), none⟩, ⟨some 9, .bin .add (.t 8) (.c (.x (.int .i64 (1)))), none⟩, ⟨some 4, .mv (.t 9), none⟩]))))))
  (.seq (.reg [⟨some 20, .mv (.t 3), none⟩, ⟨some 2, .mv (.t 20), none⟩])
  .ret))))⟩
theorem c14 : compFn Try.prog Try.f14 = some i14 := by kernel_rfl
/-- (*bothy/pages.Pager).Begin -/
def i15 : IFn := ⟨46, [.tmp 4, .tmp 5], (.seq (.reg [⟨some 4, .mv (.c (.x (.int .i64 (0)))), none⟩, ⟨some 5, .mv (.c (.x (.bool false))), none⟩])
  (.seq (.seq (.dreg 17 [] [⟨some 6, .mv (.t 0), none⟩, ⟨some 7, .eq .ptr false (.t 6) (.c (.x .nilp)), none⟩, ⟨some 8, .mv (.t 7), none⟩, ⟨some 9, .mv (.t 1), (some (8, false))⟩, ⟨some 10, .len false (.t 9), (some (8, false))⟩, ⟨some 11, .bin .eql (.t 10) (.c (.x (.int .i64 (0)))), (some (8, false))⟩, ⟨some 12, .pick (.t 8) (.c (.x (.bool true))) (.t 11), none⟩, ⟨some 13, .mv (.t 12), none⟩, ⟨some 14, .mv (.t 0), (some (13, false))⟩, ⟨some 15, .nck (.t 14), (some (13, false))⟩, ⟨some 16, .fad 0 (.t 15), (some (13, false))⟩, ⟨some 17, .ld 1 false (.t 16), (some (13, false))⟩, ⟨some 18, .mln (.t 17), (some (13, false))⟩, ⟨some 19, .mv (.t 0), (some (13, false))⟩, ⟨some 20, .nck (.t 19), (some (13, false))⟩, ⟨some 21, .fad 1 (.t 20), (some (13, false))⟩, ⟨some 22, .ld 1 false (.t 21), (some (13, false))⟩, ⟨some 23, .bin .geq (.t 18) (.t 22), (some (13, false))⟩, ⟨some 24, .pick (.t 13) (.c (.x (.bool true))) (.t 23), none⟩])
  (.cond (.t 24)
    (.seq (.reg [⟨some 4, .mv (.c (.x (.int .i64 (0)))), none⟩, ⟨some 5, .mv (.c (.x (.bool false))), none⟩])
    .ret)
    .skip))
  (.seq (.reg [⟨some 25, .mv (.t 0), none⟩, ⟨some 26, .nck (.t 25), none⟩, ⟨some 27, .fad 2 (.t 26), none⟩, ⟨some 28, .ld 1 false (.t 27), none⟩, ⟨some 29, .bin .add (.t 28) (.c (.x (.int .i64 (1)))), none⟩, ⟨some 30, .nck (.t 25), none⟩, ⟨some 31, .fad 2 (.t 30), none⟩, ⟨none, .sto 1 (.t 31) (.t 29), none⟩])
  (.seq (.dreg 10 [] [⟨some 32, .mv (.t 0), none⟩, ⟨some 33, .nck (.t 32), none⟩, ⟨some 34, .fad 0 (.t 33), none⟩, ⟨some 35, .ld 1 false (.t 34), none⟩, ⟨some 36, .mv (.t 0), none⟩, ⟨some 37, .nck (.t 36), none⟩, ⟨some 38, .fad 2 (.t 37), none⟩, ⟨some 39, .ld 1 false (.t 38), none⟩, ⟨some 40, .mv (.t 1), none⟩, ⟨some 41, .call (.c (.fn 32 [])) [(.t 40)], none⟩, ⟨none, .mup (.int .i64) (.t 35) (.t 39) (.t 41), none⟩])
  (.seq (.reg [⟨some 42, .mv (.t 0), none⟩, ⟨some 43, .nck (.t 42), none⟩, ⟨some 44, .fad 2 (.t 43), none⟩, ⟨some 45, .ld 1 false (.t 44), none⟩, ⟨some 4, .mv (.t 45), none⟩, ⟨some 5, .mv (.c (.x (.bool true))), none⟩])
  .ret)))))⟩
theorem c15 : compFn Try.prog Try.f15 = some i15 := by kernel_rfl
/-- bothy/bothylaw38.next -/
def i16 : IFn := ⟨141, [.tmp 6, .tmp 7], (.seq (.reg [⟨some 5, .box (.t 2), none⟩, ⟨some 6, .mv (.c (.x .nils)), none⟩, ⟨some 7, .mv (.c (.x (.bool false))), none⟩])
  (.seq (.reg [⟨some 17, .mv (.t 1), none⟩, ⟨some 18, .fad 1 (.t 5), none⟩, ⟨some 19, .ld 1 false (.t 18), none⟩, ⟨some 20, .call (.c (.fn 17 [])) [(.t 17), (.t 19)], none⟩, ⟨some 8, .mv (.t 20), none⟩])
  (.seq (.reg [⟨some 22, .mv (.t 0), none⟩, ⟨some 23, .fad 1 (.t 5), none⟩, ⟨some 24, .ld 1 false (.t 23), none⟩, ⟨some 25, .fad 2 (.t 5), none⟩, ⟨some 26, .ld 1 false (.t 25), none⟩, ⟨some 27, .call (.c (.fn 21 [])) [(.t 22), (.t 24), (.t 26)], none⟩, ⟨some 21, .mv (.t 27), none⟩, ⟨some 28, .ext (.t 21) 0, none⟩, ⟨some 29, .ext (.t 21) 1, none⟩, ⟨some 30, .ext (.t 21) 2, none⟩, ⟨some 9, .mv (.t 28), none⟩, ⟨some 10, .mv (.t 29), none⟩, ⟨some 11, .mv (.t 30), none⟩])
  (.seq (.block 0
    (.seq (.reg [⟨some 32, .fad 2 (.t 5), none⟩, ⟨some 33, .ld 1 false (.t 32), none⟩, ⟨some 34, .bin .lss (.t 33) (.c (.x (.int .i64 (1)))), none⟩, ⟨some 35, .mv (.t 34), none⟩, ⟨some 36, .fad 2 (.t 5), (some (35, false))⟩, ⟨some 37, .ld 1 false (.t 36), (some (35, false))⟩, ⟨some 38, .bin .gtr (.t 37) (.c (.x (.int .i64 (1024)))), (some (35, false))⟩, ⟨some 39, .pick (.t 35) (.c (.x (.bool true))) (.t 38), none⟩, ⟨some 31, .mv (.t 39), none⟩])
    (.cond (.t 31)
      (.seq (.reg [⟨some 40, .mv (.t 1), none⟩, ⟨some 41, .mv (.t 9), none⟩, ⟨some 42, .len false (.t 41), none⟩, ⟨some 43, .bin .eql (.t 42) (.c (.x (.int .i64 (0)))), none⟩, ⟨some 44, .mv (.t 43), none⟩, ⟨some 45, .mv (.t 10), (some (44, true))⟩, ⟨some 46, .bin .eql (.t 45) (.c (.x (.int .i64 (0)))), (some (44, true))⟩, ⟨some 47, .pick (.t 44) (.t 46) (.c (.x (.bool false))), none⟩, ⟨some 48, .mv (.t 47), none⟩, ⟨some 49, .mv (.t 11), (some (48, true))⟩, ⟨some 50, .bin .eql (.t 49) (.c (.x (.int .i64 (2)))), (some (48, true))⟩, ⟨some 51, .pick (.t 48) (.t 50) (.c (.x (.bool false))), none⟩, ⟨some 6, .mv (.t 40), none⟩, ⟨some 7, .mv (.t 51), none⟩])
      .ret)
      (.seq (.reg [⟨some 53, .mv (.t 8), none⟩, ⟨some 54, .bin .lss (.t 53) (.c (.x (.int .i64 (0)))), none⟩, ⟨some 52, .mv (.t 54), none⟩])
      (.cond (.t 52)
        (.seq (.reg [⟨some 55, .mv (.t 1), none⟩, ⟨some 56, .mv (.t 9), none⟩, ⟨some 57, .len false (.t 56), none⟩, ⟨some 58, .bin .eql (.t 57) (.c (.x (.int .i64 (0)))), none⟩, ⟨some 59, .mv (.t 58), none⟩, ⟨some 60, .mv (.t 10), (some (59, true))⟩, ⟨some 61, .bin .eql (.t 60) (.c (.x (.int .i64 (0)))), (some (59, true))⟩, ⟨some 62, .pick (.t 59) (.t 61) (.c (.x (.bool false))), none⟩, ⟨some 63, .mv (.t 62), none⟩, ⟨some 64, .mv (.t 11), (some (63, true))⟩, ⟨some 65, .bin .eql (.t 64) (.c (.x (.int .i64 (8)))), (some (63, true))⟩, ⟨some 66, .pick (.t 63) (.t 65) (.c (.x (.bool false))), none⟩, ⟨some 6, .mv (.t 55), none⟩, ⟨some 7, .mv (.t 66), none⟩])
        .ret)
        .skip)))))
  (.seq (.dreg 8 [] [⟨some 67, .fad 2 (.t 5), none⟩, ⟨some 68, .ld 1 false (.t 67), none⟩, ⟨some 69, .mv (.t 1), none⟩, ⟨some 70, .mv (.t 8), none⟩, ⟨some 71, .iad 2 (.t 69) (.t 70), none⟩, ⟨some 72, .fad 1 (.t 71), none⟩, ⟨some 73, .ld 1 false (.t 72), none⟩, ⟨some 74, .len false (.t 73), none⟩, ⟨some 75, .mnx false (.t 68) (.t 74), none⟩, ⟨some 12, .mv (.t 75), none⟩])
  (.seq (.reg [⟨some 76, .mv (.t 9), none⟩, ⟨some 77, .len false (.t 76), none⟩, ⟨some 78, .mv (.t 12), none⟩, ⟨some 79, .bin .eql (.t 77) (.t 78), none⟩, ⟨some 80, .mv (.t 79), none⟩, ⟨some 81, .mv (.t 11), (some (80, true))⟩, ⟨some 82, .bin .eql (.t 81) (.c (.x (.int .i64 (0)))), (some (80, true))⟩, ⟨some 83, .pick (.t 80) (.t 82) (.c (.x (.bool false))), none⟩, ⟨some 13, .mv (.t 83), none⟩])
  (.seq (.seq (.reg [⟨some 14, .mv (.c (.x (.int .i64 (0)))), none⟩])
  (.block 1
    (.loop
      (.seq (.seq (.reg [⟨some 84, .mv (.t 14), none⟩, ⟨some 85, .mv (.t 12), none⟩, ⟨some 86, .bin .lss (.t 84) (.t 85), none⟩, ⟨some 87, .mv (.t 86), none⟩, ⟨some 88, .mv (.t 13), (some (87, true))⟩, ⟨some 89, .pick (.t 87) (.t 88) (.c (.x (.bool false))), none⟩])
      (.cond (.t 89)
        .skip
        (.exit 1)))
      (.seq (.block 2
        (.dreg 13 [] [⟨some 92, .mv (.t 9), none⟩, ⟨some 93, .mv (.t 14), none⟩, ⟨some 94, .iad 2 (.t 92) (.t 93), none⟩, ⟨some 95, .fad 0 (.t 94), none⟩, ⟨some 96, .ld 1 false (.t 95), none⟩, ⟨some 97, .mv (.t 1), none⟩, ⟨some 98, .mv (.t 8), none⟩, ⟨some 99, .iad 2 (.t 97) (.t 98), none⟩, ⟨some 100, .fad 1 (.t 99), none⟩, ⟨some 101, .ld 1 false (.t 100), none⟩, ⟨some 102, .mv (.t 14), none⟩, ⟨some 103, .iad 1 (.t 101) (.t 102), none⟩, ⟨some 104, .ld 1 false (.t 103), none⟩, ⟨some 105, .bin .eql (.t 96) (.t 104), none⟩, ⟨some 13, .mv (.t 105), none⟩]))
      (.reg [⟨some 90, .mv (.t 14), none⟩, ⟨some 91, .bin .add (.t 90) (.c (.x (.int .i64 (1)))), none⟩, ⟨some 14, .mv (.t 91), none⟩]))))))
  (.seq (.reg [⟨some 106, .mv (.t 1), none⟩, ⟨some 107, .mv (.t 8), none⟩, ⟨some 108, .iad 2 (.t 106) (.t 107), none⟩, ⟨some 109, .fad 1 (.t 108), none⟩, ⟨some 110, .ld 1 false (.t 109), none⟩, ⟨some 111, .mv (.t 12), none⟩, ⟨some 112, .slc 1 (.t 110) (some (.t 111)) none none, none⟩, ⟨some 15, .mv (.t 112), none⟩])
  (.seq (.seq (.reg [⟨some 113, .mv (.t 15), none⟩, ⟨some 114, .len false (.t 113), none⟩, ⟨some 115, .bin .eql (.t 114) (.c (.x (.int .i64 (0)))), none⟩])
  (.cond (.t 115)
    (.seq (.reg [⟨some 116, .mv (.t 1), none⟩, ⟨some 117, .mv (.t 8), none⟩, ⟨some 118, .call (.c (.fn 19 [])) [(.t 116), (.t 117)], none⟩, ⟨some 119, .mv (.t 13), none⟩, ⟨some 120, .mv (.t 119), none⟩, ⟨some 121, .mv (.t 10), (some (120, true))⟩, ⟨some 122, .bin .eql (.t 121) (.c (.x (.int .i64 (0)))), (some (120, true))⟩, ⟨some 123, .pick (.t 120) (.t 122) (.c (.x (.bool false))), none⟩, ⟨some 6, .mv (.t 118), none⟩, ⟨some 7, .mv (.t 123), none⟩])
    .ret)
    .skip))
  (.seq (.dreg 8 [] [⟨some 124, .mv (.t 1), none⟩, ⟨some 125, .mv (.t 8), none⟩, ⟨some 126, .call (.c (.fn 19 [])) [(.t 124), (.t 125)], none⟩, ⟨some 127, .fad 1 (.t 5), none⟩, ⟨some 128, .ld 1 false (.t 127), none⟩, ⟨some 129, .mv (.t 15), none⟩, ⟨some 130, .build [.x (.int .i64 (0)), .x .nils] [(0, 1, (.t 128)), (1, 1, (.t 129))], none⟩, ⟨some 131, .bsl 40 2 1 [(.t 130)], none⟩, ⟨some 132, .app 40 2 32 (.t 126) (.t 131), none⟩, ⟨some 16, .mv (.t 132), none⟩])
  (.seq (.dreg 0 [] [⟨some 133, .mv (.t 16), none⟩, ⟨some 134, .mv (.t 13), none⟩, ⟨some 135, .mv (.t 134), none⟩, ⟨some 136, .mv (.t 10), (some (135, true))⟩, ⟨some 137, .fad 1 (.t 5), (some (135, true))⟩, ⟨some 138, .ld 1 false (.t 137), (some (135, true))⟩, ⟨some 139, .bin .eql (.t 136) (.t 138), (some (135, true))⟩, ⟨some 140, .pick (.t 135) (.t 139) (.c (.x (.bool false))), none⟩, ⟨some 6, .mv (.t 133), none⟩, ⟨some 7, .mv (.t 140), none⟩])
  .ret)))))))))))⟩
theorem c16 : compFn Try.prog Try.f16 = some i16 := by kernel_rfl
/-- bothy/bothylaw38.find -/
def i17 : IFn := ⟨20, [.tmp 4], (.seq (.reg [⟨some 4, .mv (.c (.x (.int .i64 (0)))), none⟩])
  (.seq (.seq (.reg [⟨some 5, .mv (.c (.x (.int .i64 (0)))), none⟩])
  (.block 0
    (.loop
      (.seq (.seq (.reg [⟨some 6, .mv (.t 5), none⟩, ⟨some 7, .mv (.t 0), none⟩, ⟨some 8, .len false (.t 7), none⟩, ⟨some 9, .bin .lss (.t 6) (.t 8), none⟩])
      (.cond (.t 9)
        .skip
        (.exit 0)))
      (.seq (.block 1
        (.seq (.reg [⟨some 12, .mv (.t 0), none⟩, ⟨some 13, .mv (.t 5), none⟩, ⟨some 14, .iad 2 (.t 12) (.t 13), none⟩, ⟨some 15, .fad 0 (.t 14), none⟩, ⟨some 16, .ld 1 false (.t 15), none⟩, ⟨some 17, .mv (.t 1), none⟩, ⟨some 18, .bin .eql (.t 16) (.t 17), none⟩])
        (.cond (.t 18)
          (.seq (.reg [⟨some 19, .mv (.t 5), none⟩, ⟨some 4, .mv (.t 19), none⟩])
          .ret)
          .skip)))
      (.reg [⟨some 10, .mv (.t 5), none⟩, ⟨some 11, .bin .add (.t 10) (.c (.x (.int .i64 (1)))), none⟩, ⟨some 5, .mv (.t 11), none⟩]))))))
  (.seq (.reg [⟨some 4, .mv (.c (.x (.int .i64 (-1)))), none⟩])
  .ret)))⟩
theorem c17 : compFn Try.prog Try.f17 = some i17 := by kernel_rfl
/-- (*bothy/pages.Pager).Drop -/
def i18 : IFn := ⟨24, [.tmp 4], (.seq (.reg [⟨some 4, .mv (.c (.x (.bool false))), none⟩])
  (.seq (.seq (.reg [⟨some 7, .mv (.t 0), none⟩, ⟨some 8, .eq .ptr false (.t 7) (.c (.x .nilp)), none⟩])
  (.cond (.t 8)
    (.seq (.reg [⟨some 4, .mv (.c (.x (.bool false))), none⟩])
    .ret)
    .skip))
  (.seq (.reg [⟨some 10, .mv (.t 0), none⟩, ⟨some 11, .nck (.t 10), none⟩, ⟨some 12, .fad 0 (.t 11), none⟩, ⟨some 13, .ld 1 false (.t 12), none⟩, ⟨some 14, .mv (.t 1), none⟩, ⟨some 15, .mlk (.int .i64) true (.x .nils) (.t 13) (.t 14), none⟩, ⟨some 9, .mv (.t 15), none⟩, ⟨some 16, .ext (.t 9) 0, none⟩, ⟨some 17, .ext (.t 9) 1, none⟩, ⟨some 5, .mv (.t 16), none⟩, ⟨some 6, .mv (.t 17), none⟩])
  (.seq (.reg [⟨some 18, .mv (.t 0), none⟩, ⟨some 19, .nck (.t 18), none⟩, ⟨some 20, .fad 0 (.t 19), none⟩, ⟨some 21, .ld 1 false (.t 20), none⟩, ⟨some 22, .mv (.t 1), none⟩, ⟨none, .mdl (.int .i64) (.t 21) (.t 22), none⟩])
  (.seq (.reg [⟨some 23, .mv (.t 6), none⟩, ⟨some 4, .mv (.t 23), none⟩])
  .ret)))))⟩
theorem c18 : compFn Try.prog Try.f18 = some i18 := by kernel_rfl
/-- bothy/bothylaw38.out -/
def i19 : IFn := ⟨17, [.tmp 4], (.seq (.reg [⟨some 4, .mv (.c (.x .nils)), none⟩])
  (.seq (.reg [⟨some 5, .mv (.c (.x .nils)), none⟩])
  (.seq (.reg [⟨some 6, .mv (.t 5), none⟩, ⟨some 7, .mv (.t 0), none⟩, ⟨some 8, .mv (.t 1), none⟩, ⟨some 9, .slc 2 (.t 7) none (some (.t 8)) none, none⟩, ⟨some 10, .app 40 2 32 (.t 6) (.t 9), none⟩, ⟨some 5, .mv (.t 10), none⟩])
  (.seq (.reg [⟨some 11, .mv (.t 5), none⟩, ⟨some 12, .mv (.t 0), none⟩, ⟨some 13, .mv (.t 1), none⟩, ⟨some 14, .bin .add (.t 13) (.c (.x (.int .i64 (1)))), none⟩, ⟨some 15, .slc 2 (.t 12) (some (.t 14)) none none, none⟩, ⟨some 16, .app 40 2 32 (.t 11) (.t 15), none⟩, ⟨some 4, .mv (.t 16), none⟩])
  .ret))))⟩
theorem c19 : compFn Try.prog Try.f19 = some i19 := by kernel_rfl
/-- (*bothy/pages.Pager).Len -/
def i20 : IFn := ⟨10, [.tmp 2], (.seq (.reg [⟨some 2, .mv (.c (.x (.int .i64 (0)))), none⟩])
  (.seq (.seq (.reg [⟨some 3, .mv (.t 0), none⟩, ⟨some 4, .eq .ptr false (.t 3) (.c (.x .nilp)), none⟩])
  (.cond (.t 4)
    (.seq (.reg [⟨some 2, .mv (.c (.x (.int .i64 (0)))), none⟩])
    .ret)
    .skip))
  (.seq (.reg [⟨some 5, .mv (.t 0), none⟩, ⟨some 6, .nck (.t 5), none⟩, ⟨some 7, .fad 0 (.t 6), none⟩, ⟨some 8, .ld 1 false (.t 7), none⟩, ⟨some 9, .mln (.t 8), none⟩, ⟨some 2, .mv (.t 9), none⟩])
  .ret)))⟩
theorem c20 : compFn Try.prog Try.f20 = some i20 := by kernel_rfl
/-- (*bothy/pages.Pager).Next -/
def i21 : IFn := ⟨59, [.tmp 6, .tmp 7, .tmp 8], (.seq (.reg [⟨some 6, .mv (.c (.x .nils)), none⟩, ⟨some 7, .mv (.c (.x (.int .i64 (0)))), none⟩, ⟨some 8, .mv (.c (.x (.int .i64 (0)))), none⟩])
  (.seq (.block 0
    (.seq (.reg [⟨some 12, .mv (.t 0), none⟩, ⟨some 13, .eq .ptr false (.t 12) (.c (.x .nilp)), none⟩, ⟨some 11, .mv (.t 13), none⟩])
    (.cond (.t 11)
      (.seq (.reg [⟨some 6, .mv (.c (.x .nils)), none⟩, ⟨some 7, .mv (.c (.x (.int .i64 (0)))), none⟩, ⟨some 8, .mv (.c (.x (.int .i64 (12)))), none⟩])
      .ret)
      (.seq (.reg [⟨some 15, .mv (.t 2), none⟩, ⟨some 16, .bin .lss (.t 15) (.c (.x (.int .i64 (1)))), none⟩, ⟨some 17, .mv (.t 16), none⟩, ⟨some 18, .mv (.t 2), (some (17, false))⟩, ⟨some 19, .bin .gtr (.t 18) (.c (.x (.int .i64 (1024)))), (some (17, false))⟩, ⟨some 20, .pick (.t 17) (.c (.x (.bool true))) (.t 19), none⟩, ⟨some 14, .mv (.t 20), none⟩])
      (.cond (.t 14)
        (.seq (.reg [⟨some 6, .mv (.c (.x .nils)), none⟩, ⟨some 7, .mv (.c (.x (.int .i64 (0)))), none⟩, ⟨some 8, .mv (.c (.x (.int .i64 (2)))), none⟩])
        .ret)
        .skip)))))
  (.seq (.reg [⟨some 22, .mv (.t 0), none⟩, ⟨some 23, .nck (.t 22), none⟩, ⟨some 24, .fad 0 (.t 23), none⟩, ⟨some 25, .ld 1 false (.t 24), none⟩, ⟨some 26, .mv (.t 1), none⟩, ⟨some 27, .mlk (.int .i64) true (.x .nils) (.t 25) (.t 26), none⟩, ⟨some 21, .mv (.t 27), none⟩, ⟨some 28, .ext (.t 21) 0, none⟩, ⟨some 29, .ext (.t 21) 1, none⟩, ⟨some 9, .mv (.t 28), none⟩, ⟨some 10, .mv (.t 29), none⟩])
  (.seq (.seq (.reg [⟨some 30, .mv (.t 10), none⟩, ⟨some 31, .un .not (.t 30), none⟩])
  (.cond (.t 31)
    (.seq (.reg [⟨some 6, .mv (.c (.x .nils)), none⟩, ⟨some 7, .mv (.c (.x (.int .i64 (0)))), none⟩, ⟨some 8, .mv (.c (.x (.int .i64 (8)))), none⟩])
    .ret)
    .skip))
  (.seq (.reg [⟨some 32, .mv (.t 2), none⟩, ⟨some 33, .mv (.t 9), none⟩, ⟨some 34, .len false (.t 33), none⟩, ⟨some 35, .mnx false (.t 32) (.t 34), none⟩, ⟨some 2, .mv (.t 35), none⟩])
  (.seq (.seq (.reg [⟨some 36, .mv (.t 2), none⟩, ⟨some 37, .mv (.t 9), none⟩, ⟨some 38, .len false (.t 37), none⟩, ⟨some 39, .bin .eql (.t 36) (.t 38), none⟩])
  (.cond (.t 39)
    (.seq (.reg [⟨some 40, .mv (.t 0), none⟩, ⟨some 41, .nck (.t 40), none⟩, ⟨some 42, .fad 0 (.t 41), none⟩, ⟨some 43, .ld 1 false (.t 42), none⟩, ⟨some 44, .mv (.t 1), none⟩, ⟨none, .mdl (.int .i64) (.t 43) (.t 44), none⟩])
    (.seq (.reg [⟨some 45, .mv (.t 9), none⟩, ⟨some 6, .mv (.t 45), none⟩, ⟨some 7, .mv (.c (.x (.int .i64 (0)))), none⟩, ⟨some 8, .mv (.c (.x (.int .i64 (0)))), none⟩])
    .ret))
    .skip))
  (.seq (.dreg 8 [] [⟨some 46, .mv (.t 0), none⟩, ⟨some 47, .nck (.t 46), none⟩, ⟨some 48, .fad 0 (.t 47), none⟩, ⟨some 49, .ld 1 false (.t 48), none⟩, ⟨some 50, .mv (.t 1), none⟩, ⟨some 51, .mv (.t 9), none⟩, ⟨some 52, .mv (.t 2), none⟩, ⟨some 53, .slc 2 (.t 51) (some (.t 52)) none none, none⟩, ⟨none, .mup (.int .i64) (.t 49) (.t 50) (.t 53), none⟩])
  (.seq (.reg [⟨some 54, .mv (.t 9), none⟩, ⟨some 55, .mv (.t 2), none⟩, ⟨some 56, .slc 2 (.t 54) none (some (.t 55)) none, none⟩, ⟨some 57, .call (.c (.fn 32 [])) [(.t 56)], none⟩, ⟨some 58, .mv (.t 1), none⟩, ⟨some 6, .mv (.t 57), none⟩, ⟨some 7, .mv (.t 58), none⟩, ⟨some 8, .mv (.c (.x (.int .i64 (0)))), none⟩])
  .ret))))))))⟩
theorem c21 : compFn Try.prog Try.f21 = some i21 := by kernel_rfl
/-- slices.Clone[[]bothy/api.Entry,bothy/api.Entry] -/
def i32 : IFn := ⟨8, [.tmp 2], (.seq (.reg [⟨some 2, .mv (.c (.x .nils)), none⟩])
  (.seq (.seq (.reg [⟨some 3, .mv (.t 0), none⟩, ⟨some 4, .eq .sl false (.t 3) (.c (.x .nils)), none⟩])
  (.cond (.t 4)
    (.seq (.reg [⟨some 2, .mv (.c (.x .nils)), none⟩])
    .ret)
    .skip))
  (.seq (.reg [⟨some 5, .bsl 38 2 0 [], none⟩, ⟨some 6, .mv (.t 0), none⟩, ⟨some 7, .app 38 2 40 (.t 5) (.t 6), none⟩, ⟨some 2, .mv (.t 7), none⟩])
  .ret)))⟩
theorem c32 : compFn Try.prog Try.f32 = some i32 := by kernel_rfl
def G : FuncId → Option IFn
  | 3 => some i3
  | 4 => some i4
  | 5 => some i5
  | 12 => some i12
  | 13 => some i13
  | 14 => some i14
  | 15 => some i15
  | 16 => some i16
  | 17 => some i17
  | 18 => some i18
  | 19 => some i19
  | 20 => some i20
  | 21 => some i21
  | 32 => some i32
  | _ => none
theorem G_ok : GOk Try.prog G := by
  intro f p h
  unfold G at h
  split at h
  · cases h; exact ⟨Try.f3, Try.func3, by decide, c3⟩
  · cases h; exact ⟨Try.f4, Try.func4, by decide, c4⟩
  · cases h; exact ⟨Try.f5, Try.func5, by decide, c5⟩
  · cases h; exact ⟨Try.f12, Try.func12, by decide, c12⟩
  · cases h; exact ⟨Try.f13, Try.func13, by decide, c13⟩
  · cases h; exact ⟨Try.f14, Try.func14, by decide, c14⟩
  · cases h; exact ⟨Try.f15, Try.func15, by decide, c15⟩
  · cases h; exact ⟨Try.f16, Try.func16, by decide, c16⟩
  · cases h; exact ⟨Try.f17, Try.func17, by decide, c17⟩
  · cases h; exact ⟨Try.f18, Try.func18, by decide, c18⟩
  · cases h; exact ⟨Try.f19, Try.func19, by decide, c19⟩
  · cases h; exact ⟨Try.f20, Try.func20, by decide, c20⟩
  · cases h; exact ⟨Try.f21, Try.func21, by decide, c21⟩
  · cases h; exact ⟨Try.f32, Try.func32, by decide, c32⟩
  · cases h
end Go.Proofs.Ytogplpcamiicgaa
