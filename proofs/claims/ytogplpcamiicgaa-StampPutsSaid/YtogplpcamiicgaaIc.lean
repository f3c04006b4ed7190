/- The code of functions, as the abstract evaluator reads it. Printed by gen_ic.py. -/
import Derived.Test.YtogplpcamiicgaaProg
import Derived.Test.YtogplpcamiicgaaLA3
namespace Go.Proofs.Ytogplpcamiicgaa
open Go.RowKit Go.Bo Go.Ab
/-- bothy/bothylaw38.PagesPlay -/
def i3 : IFn := ⟨165, [.tmp 4], (.seq (.reg [⟨some 4, .mv (.c (.x (.bool false))), none⟩])
  (.seq (.seq (.reg [⟨some 19, .mv (.t 1), none⟩, ⟨some 20, .len false (.t 19), none⟩, ⟨some 21, .bin .gtr (.t 20) (.c (.x (.int .i64 (40)))), none⟩])
  (.cond (.t 21)
    (.seq (.reg [⟨some 22, .call (.c (.fn 12 [])) [], none⟩, ⟨some 4, .mv (.t 22), none⟩])
    .ret)
    .skip))
  (.seq (.reg [⟨some 24, .mv (.t 0), none⟩, ⟨some 25, .call (.c (.fn 13 [])) [(.t 24)], none⟩, ⟨some 23, .mv (.t 25), none⟩, ⟨some 26, .ext (.t 23) 0, none⟩, ⟨some 27, .ext (.t 23) 1, none⟩, ⟨some 5, .mv (.t 26), none⟩, ⟨some 6, .mv (.t 27), none⟩])
  (.seq (.seq (.reg [⟨some 28, .mv (.t 0), none⟩, ⟨some 29, .bin .lss (.t 28) (.c (.x (.int .i64 (1)))), none⟩, ⟨some 30, .mv (.t 29), none⟩, ⟨some 31, .mv (.t 0), (some (30, false))⟩, ⟨some 32, .bin .gtr (.t 31) (.c (.x (.int .i64 (1024)))), (some (30, false))⟩, ⟨some 33, .pick (.t 30) (.c (.x (.bool true))) (.t 32), none⟩])
  (.cond (.t 33)
    (.seq (.reg [⟨some 34, .mv (.t 5), none⟩, ⟨some 35, .eq .ptr false (.t 34) (.c (.x .nilp)), none⟩, ⟨some 36, .mv (.t 35), none⟩, ⟨some 37, .mv (.t 6), (some (36, true))⟩, ⟨some 38, .bin .eql (.t 37) (.c (.x (.int .i64 (1)))), (some (36, true))⟩, ⟨some 39, .pick (.t 36) (.t 38) (.c (.x (.bool false))), none⟩, ⟨some 40, .mv (.t 39), none⟩, ⟨some 41, .call (.c (.fn 12 [])) [], (some (40, true))⟩, ⟨some 42, .pick (.t 40) (.t 41) (.c (.x (.bool false))), none⟩, ⟨some 4, .mv (.t 42), none⟩])
    .ret)
    .skip))
  (.seq (.seq (.reg [⟨some 43, .mv (.t 5), none⟩, ⟨some 44, .eq .ptr false (.t 43) (.c (.x .nilp)), none⟩, ⟨some 45, .mv (.t 44), none⟩, ⟨some 46, .mv (.t 6), (some (45, false))⟩, ⟨some 47, .bin .neq (.t 46) (.c (.x (.int .i64 (0)))), (some (45, false))⟩, ⟨some 48, .pick (.t 45) (.c (.x (.bool true))) (.t 47), none⟩])
  (.cond (.t 48)
    (.seq (.reg [⟨some 4, .mv (.c (.x (.bool false))), none⟩])
    .ret)
    .skip))
  (.seq (.reg [⟨some 7, .mv (.c (.x .nils)), none⟩])
  (.seq (.reg [⟨some 8, .mv (.c (.x (.int .i64 (0)))), none⟩])
  (.seq (.seq (.reg [⟨some 9, .mv (.c (.x (.int .i64 (0)))), none⟩])
  (.block 0
    (.loop
      (.seq (.seq (.reg [⟨some 49, .mv (.t 9), none⟩, ⟨some 50, .mv (.t 1), none⟩, ⟨some 51, .len false (.t 50), none⟩, ⟨some 52, .bin .lss (.t 49) (.t 51), none⟩])
      (.cond (.t 52)
        .skip
        (.exit 0)))
      (.seq (.block 1
        (.seq (.reg [⟨some 10, .mv (.c (.x (.bool true))), none⟩])
        (.seq (.seq (.reg [⟨some 55, .mv (.t 1), none⟩, ⟨some 56, .mv (.t 9), none⟩, ⟨some 57, .iad 3 (.t 55) (.t 56), none⟩, ⟨some 58, .fad 0 (.t 57), none⟩, ⟨some 59, .ld 1 false (.t 58), none⟩])
        (.block 2
          (.seq (.reg [⟨some 83, .bin .eql (.t 59) (.c (.x (.int .i64 (0)))), none⟩, ⟨some 82, .mv (.t 83), none⟩])
          (.cond (.t 82)
            (.seq (.reg [⟨some 84, .mv (.t 1), none⟩, ⟨some 85, .mv (.t 9), none⟩, ⟨some 86, .iad 3 (.t 84) (.t 85), none⟩, ⟨some 87, .fad 2 (.t 86), none⟩, ⟨some 88, .ld 1 false (.t 87), none⟩, ⟨some 89, .mnx false (.t 88) (.c (.x (.int .i64 (40)))), none⟩, ⟨some 90, .mnx true (.c (.x (.int .i64 (0)))) (.t 89), none⟩, ⟨some 91, .call (.c (.fn 14 [])) [(.t 90)], none⟩, ⟨some 11, .mv (.t 91), none⟩])
            (.seq (.reg [⟨some 93, .mv (.t 5), none⟩, ⟨some 94, .mv (.t 11), none⟩, ⟨some 95, .call (.c (.fn 15 [])) [(.t 93), (.t 94)], none⟩, ⟨some 92, .mv (.t 95), none⟩, ⟨some 96, .ext (.t 92) 0, none⟩, ⟨some 97, .ext (.t 92) 1, none⟩, ⟨some 12, .mv (.t 96), none⟩, ⟨some 13, .mv (.t 97), none⟩])
            (.seq (.reg [⟨some 98, .mv (.t 11), none⟩, ⟨some 99, .len false (.t 98), none⟩, ⟨some 100, .bin .gtr (.t 99) (.c (.x (.int .i64 (0)))), none⟩, ⟨some 101, .mv (.t 100), none⟩, ⟨some 102, .mv (.t 7), (some (101, true))⟩, ⟨some 103, .len false (.t 102), (some (101, true))⟩, ⟨some 104, .mv (.t 0), (some (101, true))⟩, ⟨some 105, .bin .lss (.t 103) (.t 104), (some (101, true))⟩, ⟨some 106, .pick (.t 101) (.t 105) (.c (.x (.bool false))), none⟩])
            (.cond (.t 106)
              (.seq (.reg [⟨some 107, .mv (.t 8), none⟩, ⟨some 108, .bin .add (.t 107) (.c (.x (.int .i64 (1)))), none⟩, ⟨some 8, .mv (.t 108), none⟩])
              (.seq (.reg [⟨some 14, .mv (.c (.x .nils)), none⟩])
              (.seq (.seq (.reg [⟨some 15, .mv (.c (.x (.int .i64 (0)))), none⟩])
              (.block 3
                (.loop
                  (.seq (.seq (.reg [⟨some 109, .mv (.t 15), none⟩, ⟨some 110, .mv (.t 11), none⟩, ⟨some 111, .len false (.t 110), none⟩, ⟨some 112, .bin .lss (.t 109) (.t 111), none⟩])
                  (.cond (.t 112)
                    .skip
                    (.exit 3)))
                  (.seq (.block 4
                    (.reg [⟨some 115, .mv (.t 14), none⟩, ⟨some 116, .mv (.t 11), none⟩, ⟨some 117, .mv (.t 15), none⟩, ⟨some 118, .iad 2 (.t 116) (.t 117), none⟩, ⟨some 119, .fad 0 (.t 118), none⟩, ⟨some 120, .ld 1 false (.t 119), none⟩, ⟨some 121, .bsl 9 1 1 [(.t 120)], none⟩, ⟨some 122, .app 9 1 16 (.t 115) (.t 121), none⟩, ⟨some 14, .mv (.t 122), none⟩]))
                  (.reg [⟨some 113, .mv (.t 15), none⟩, ⟨some 114, .bin .add (.t 113) (.c (.x (.int .i64 (1)))), none⟩, ⟨some 15, .mv (.t 114), none⟩]))))))
              (.seq (.reg [⟨some 123, .mv (.t 7), none⟩, ⟨some 124, .mv (.t 8), none⟩, ⟨some 125, .mv (.t 14), none⟩, ⟨some 126, .build [.x (.int .i64 (0)), .x .nils] [(0, 1, (.t 124)), (1, 1, (.t 125))], none⟩, ⟨some 127, .bsl 40 2 1 [(.t 126)], none⟩, ⟨some 128, .app 40 2 32 (.t 123) (.t 127), none⟩, ⟨some 7, .mv (.t 128), none⟩])
              (.reg [⟨some 129, .mv (.t 12), none⟩, ⟨some 130, .mv (.t 8), none⟩, ⟨some 131, .bin .eql (.t 129) (.t 130), none⟩, ⟨some 132, .mv (.t 131), none⟩, ⟨some 133, .mv (.t 13), (some (132, true))⟩, ⟨some 134, .pick (.t 132) (.t 133) (.c (.x (.bool false))), none⟩, ⟨some 10, .mv (.t 134), none⟩])))))
              (.reg [⟨some 135, .mv (.t 12), none⟩, ⟨some 136, .bin .eql (.t 135) (.c (.x (.int .i64 (0)))), none⟩, ⟨some 137, .mv (.t 136), none⟩, ⟨some 138, .mv (.t 13), (some (137, true))⟩, ⟨some 139, .un .not (.t 138), (some (137, true))⟩, ⟨some 140, .pick (.t 137) (.t 139) (.c (.x (.bool false))), none⟩, ⟨some 10, .mv (.t 140), none⟩])))))
            (.seq (.reg [⟨some 142, .bin .eql (.t 59) (.c (.x (.int .i64 (1)))), none⟩, ⟨some 141, .mv (.t 142), none⟩])
            (.cond (.t 141)
              (.seq (.reg [⟨some 144, .mv (.t 5), none⟩, ⟨some 145, .mv (.t 7), none⟩, ⟨some 146, .mv (.t 1), none⟩, ⟨some 147, .mv (.t 9), none⟩, ⟨some 148, .iad 3 (.t 146) (.t 147), none⟩, ⟨some 149, .ld 3 true (.t 148), none⟩, ⟨some 150, .call (.c (.fn 16 [])) [(.t 144), (.t 145), (.t 149)], none⟩, ⟨some 143, .mv (.t 150), none⟩, ⟨some 151, .ext (.t 143) 0, none⟩, ⟨some 152, .ext (.t 143) 1, none⟩, ⟨some 16, .mv (.t 151), none⟩, ⟨some 17, .mv (.t 152), none⟩])
              (.seq (.reg [⟨some 153, .mv (.t 16), none⟩, ⟨some 7, .mv (.t 153), none⟩])
              (.reg [⟨some 154, .mv (.t 17), none⟩, ⟨some 10, .mv (.t 154), none⟩])))
              (.seq (.reg [⟨some 60, .mv (.t 7), none⟩, ⟨some 61, .mv (.t 1), none⟩, ⟨some 62, .mv (.t 9), none⟩, ⟨some 63, .iad 3 (.t 61) (.t 62), none⟩, ⟨some 64, .fad 1 (.t 63), none⟩, ⟨some 65, .ld 1 false (.t 64), none⟩, ⟨some 66, .call (.c (.fn 17 [])) [(.t 60), (.t 65)], none⟩, ⟨some 18, .mv (.t 66), none⟩])
              (.seq (.reg [⟨some 67, .mv (.t 5), none⟩, ⟨some 68, .mv (.t 1), none⟩, ⟨some 69, .mv (.t 9), none⟩, ⟨some 70, .iad 3 (.t 68) (.t 69), none⟩, ⟨some 71, .fad 1 (.t 70), none⟩, ⟨some 72, .ld 1 false (.t 71), none⟩, ⟨some 73, .call (.c (.fn 18 [])) [(.t 67), (.t 72)], none⟩, ⟨some 74, .mv (.t 18), none⟩, ⟨some 75, .bin .geq (.t 74) (.c (.x (.int .i64 (0)))), none⟩, ⟨some 76, .eq .bool false (.t 73) (.t 75), none⟩, ⟨some 10, .mv (.t 76), none⟩])
              (.seq (.reg [⟨some 77, .mv (.t 18), none⟩, ⟨some 78, .bin .geq (.t 77) (.c (.x (.int .i64 (0)))), none⟩])
              (.cond (.t 78)
                (.reg [⟨some 79, .mv (.t 7), none⟩, ⟨some 80, .mv (.t 18), none⟩, ⟨some 81, .call (.c (.fn 19 [])) [(.t 79), (.t 80)], none⟩, ⟨some 7, .mv (.t 81), none⟩])
                .skip))))))))))
        (.seq (.reg [⟨some 155, .mv (.t 10), none⟩, ⟨some 156, .un .not (.t 155), none⟩, ⟨some 157, .mv (.t 156), none⟩, ⟨some 158, .mv (.t 5), (some (157, false))⟩, ⟨some 159, .call (.c (.fn 20 [])) [(.t 158)], (some (157, false))⟩, ⟨some 160, .mv (.t 7), (some (157, false))⟩, ⟨some 161, .len false (.t 160), (some (157, false))⟩, ⟨some 162, .bin .neq (.t 159) (.t 161), (some (157, false))⟩, ⟨some 163, .pick (.t 157) (.c (.x (.bool true))) (.t 162), none⟩])
        (.cond (.t 163)
          (.seq (.reg [⟨some 4, .mv (.c (.x (.bool false))), none⟩])
          .ret)
          .skip)))))
      (.reg [⟨some 53, .mv (.t 9), none⟩, ⟨some 54, .bin .add (.t 53) (.c (.x (.int .i64 (1)))), none⟩, ⟨some 9, .mv (.t 54), none⟩]))))))
  (.seq (.reg [⟨some 164, .call (.c (.fn 12 [])) [], none⟩, ⟨some 4, .mv (.t 164), none⟩])
  .ret)))))))))⟩
theorem c3 : compFn Try.prog Try.f3 = some i3 := by kernel_rfl
/-- bothy/bothylaw36.StampPuts -/
def i9 : IFn := ⟨36, [.tmp 2], (.seq (.reg [⟨some 2, .mv (.c (.x (.bool false))), none⟩])
  (.seq (.reg [⟨some 8, .mv (.t 0), none⟩, ⟨some 9, .call (.c (.fn 28 [])) [(.t 8)], none⟩, ⟨some 7, .mv (.t 9), none⟩, ⟨some 10, .ext (.t 7) 0, none⟩, ⟨some 11, .ext (.t 7) 1, none⟩, ⟨some 3, .mv (.t 10), none⟩, ⟨some 4, .mv (.t 11), none⟩])
  (.seq (.reg [⟨some 13, .mv (.t 0), none⟩, ⟨some 14, .call (.c (.fn 29 [])) [(.t 13)], none⟩, ⟨some 12, .mv (.t 14), none⟩, ⟨some 15, .ext (.t 12) 0, none⟩, ⟨some 16, .ext (.t 12) 1, none⟩, ⟨some 5, .mv (.t 15), none⟩, ⟨some 6, .mv (.t 16), none⟩])
  (.seq (.reg [⟨some 17, .mv (.t 3), none⟩, ⟨some 18, .mv (.t 5), none⟩, ⟨some 19, .bin .eql (.t 17) (.t 18), none⟩, ⟨some 20, .mv (.t 19), none⟩, ⟨some 21, .mv (.t 4), (some (20, true))⟩, ⟨some 22, .bin .eql (.t 21) (.c (.x (.int .i64 (0)))), (some (20, true))⟩, ⟨some 23, .mv (.t 6), (some (20, true))⟩, ⟨some 24, .eq .bool false (.t 22) (.t 23), (some (20, true))⟩, ⟨some 25, .pick (.t 20) (.t 24) (.c (.x (.bool false))), none⟩, ⟨some 26, .mv (.t 25), none⟩, ⟨some 27, .mv (.t 6), (some (26, true))⟩, ⟨some 28, .mv (.t 27), (some (26, true))⟩, ⟨some 29, .mv (.t 4), (some (28, false))⟩, ⟨some 30, .bin .eql (.t 29) (.c (.x (.int .i64 (2)))), (some (28, false))⟩, ⟨some 31, .pick (.t 28) (.c (.x (.bool true))) (.t 30), (some (26, true))⟩, ⟨some 32, .pick (.t 26) (.t 31) (.c (.x (.bool false))), none⟩, ⟨some 33, .mv (.t 32), none⟩, ⟨some 34, .call (.c (.fn 30 [])) [], (some (33, true))⟩, ⟨some 35, .pick (.t 33) (.t 34) (.c (.x (.bool false))), none⟩, ⟨some 2, .mv (.t 35), none⟩])
  .ret))))⟩
theorem c9 : compFn Try.prog Try.f9 = some i9 := by kernel_rfl
/-- bothy/bothylaw36.StampBack -/
def i10 : IFn := ⟨75, [.tmp 4], (.seq (.reg [⟨some 4, .mv (.c (.x (.bool false))), none⟩])
  (.seq (.seq (.reg [⟨some 14, .mv (.t 1), none⟩, ⟨some 15, .len true (.t 14), none⟩, ⟨some 16, .bin .gtr (.t 15) (.c (.x (.int .i64 (100)))), none⟩])
  (.cond (.t 16)
    (.seq (.reg [⟨some 17, .call (.c (.fn 30 [])) [], none⟩, ⟨some 4, .mv (.t 17), none⟩])
    .ret)
    .skip))
  (.seq (.reg [⟨some 18, .mv (.t 0), none⟩, ⟨some 19, .bin .rem (.t 18) (.c (.x (.int .u64 (253402300800)))), none⟩, ⟨some 20, .cvi .i64 (.t 19), none⟩, ⟨some 5, .mv (.t 20), none⟩])
  (.seq (.reg [⟨some 22, .mv (.t 5), none⟩, ⟨some 23, .call (.c (.fn 28 [])) [(.t 22)], none⟩, ⟨some 21, .mv (.t 23), none⟩, ⟨some 24, .ext (.t 21) 0, none⟩, ⟨some 25, .ext (.t 21) 1, none⟩, ⟨some 6, .mv (.t 24), none⟩, ⟨some 7, .mv (.t 25), none⟩])
  (.seq (.reg [⟨some 27, .mv (.t 6), none⟩, ⟨some 28, .call (.c (.fn 31 [])) [(.t 27)], none⟩, ⟨some 26, .mv (.t 28), none⟩, ⟨some 29, .ext (.t 26) 0, none⟩, ⟨some 30, .ext (.t 26) 1, none⟩, ⟨some 8, .mv (.t 29), none⟩, ⟨some 9, .mv (.t 30), none⟩])
  (.seq (.reg [⟨some 32, .mv (.t 1), none⟩, ⟨some 33, .call (.c (.fn 31 [])) [(.t 32)], none⟩, ⟨some 31, .mv (.t 33), none⟩, ⟨some 34, .ext (.t 31) 0, none⟩, ⟨some 35, .ext (.t 31) 1, none⟩, ⟨some 10, .mv (.t 34), none⟩, ⟨some 11, .mv (.t 35), none⟩])
  (.seq (.reg [⟨some 37, .mv (.t 10), none⟩, ⟨some 38, .call (.c (.fn 29 [])) [(.t 37)], none⟩, ⟨some 36, .mv (.t 38), none⟩, ⟨some 39, .ext (.t 36) 0, none⟩, ⟨some 40, .ext (.t 36) 1, none⟩, ⟨some 12, .mv (.t 39), none⟩, ⟨some 13, .mv (.t 40), none⟩])
  (.seq (.reg [⟨some 41, .mv (.t 7), none⟩, ⟨some 42, .bin .eql (.t 41) (.c (.x (.int .i64 (0)))), none⟩, ⟨some 43, .mv (.t 42), none⟩, ⟨some 44, .mv (.t 8), (some (43, true))⟩, ⟨some 45, .mv (.t 5), (some (43, true))⟩, ⟨some 46, .bin .eql (.t 44) (.t 45), (some (43, true))⟩, ⟨some 47, .pick (.t 43) (.t 46) (.c (.x (.bool false))), none⟩, ⟨some 48, .mv (.t 47), none⟩, ⟨some 49, .mv (.t 9), (some (48, true))⟩, ⟨some 50, .bin .eql (.t 49) (.c (.x (.int .i64 (0)))), (some (48, true))⟩, ⟨some 51, .pick (.t 48) (.t 50) (.c (.x (.bool false))), none⟩, ⟨some 52, .mv (.t 51), none⟩, ⟨some 53, .mv (.t 11), (some (52, true))⟩, ⟨some 54, .bin .eql (.t 53) (.c (.x (.int .i64 (0)))), (some (52, true))⟩, ⟨some 55, .mv (.t 54), (some (52, true))⟩, ⟨some 56, .mv (.t 13), (some (55, true))⟩, ⟨some 57, .pick (.t 55) (.t 56) (.c (.x (.bool false))), (some (52, true))⟩, ⟨some 58, .mv (.t 57), (some (52, true))⟩, ⟨some 59, .mv (.t 12), (some (58, true))⟩, ⟨some 60, .mv (.t 1), (some (58, true))⟩, ⟨some 61, .bin .eql (.t 59) (.t 60), (some (58, true))⟩, ⟨some 62, .pick (.t 58) (.t 61) (.c (.x (.bool false))), (some (52, true))⟩, ⟨some 63, .mv (.t 62), (some (52, true))⟩, ⟨some 64, .mv (.t 11), (some (63, false))⟩, ⟨some 65, .bin .eql (.t 64) (.c (.x (.int .i64 (5)))), (some (63, false))⟩, ⟨some 66, .mv (.t 65), (some (63, false))⟩, ⟨some 67, .mv (.t 10), (some (66, true))⟩, ⟨some 68, .bin .eql (.t 67) (.c (.x (.int .i64 (0)))), (some (66, true))⟩, ⟨some 69, .pick (.t 66) (.t 68) (.c (.x (.bool false))), (some (63, false))⟩, ⟨some 70, .pick (.t 63) (.c (.x (.bool true))) (.t 69), (some (52, true))⟩, ⟨some 71, .pick (.t 52) (.t 70) (.c (.x (.bool false))), none⟩, ⟨some 72, .mv (.t 71), none⟩, ⟨some 73, .call (.c (.fn 30 [])) [], (some (72, true))⟩, ⟨some 74, .pick (.t 72) (.t 73) (.c (.x (.bool false))), none⟩, ⟨some 4, .mv (.t 74), none⟩])
  .ret))))))))⟩
theorem c10 : compFn Try.prog Try.f10 = some i10 := by kernel_rfl
/-- bothy/bothylaw36.StampOrder -/
def i11 : IFn := ⟨59, [.tmp 4], (.seq (.reg [⟨some 4, .mv (.c (.x (.bool false))), none⟩])
  (.seq (.reg [⟨some 11, .mv (.t 0), none⟩, ⟨some 12, .bin .rem (.t 11) (.c (.x (.int .u64 (253402300800)))), none⟩, ⟨some 13, .cvi .i64 (.t 12), none⟩, ⟨some 14, .mv (.t 1), none⟩, ⟨some 15, .bin .rem (.t 14) (.c (.x (.int .u64 (253402300800)))), none⟩, ⟨some 16, .cvi .i64 (.t 15), none⟩, ⟨some 5, .mv (.t 13), none⟩, ⟨some 6, .mv (.t 16), none⟩])
  (.seq (.reg [⟨some 18, .mv (.t 5), none⟩, ⟨some 19, .call (.c (.fn 28 [])) [(.t 18)], none⟩, ⟨some 17, .mv (.t 19), none⟩, ⟨some 20, .ext (.t 17) 0, none⟩, ⟨some 21, .ext (.t 17) 1, none⟩, ⟨some 7, .mv (.t 20), none⟩, ⟨some 8, .mv (.t 21), none⟩])
  (.seq (.reg [⟨some 23, .mv (.t 6), none⟩, ⟨some 24, .call (.c (.fn 28 [])) [(.t 23)], none⟩, ⟨some 22, .mv (.t 24), none⟩, ⟨some 25, .ext (.t 22) 0, none⟩, ⟨some 26, .ext (.t 22) 1, none⟩, ⟨some 9, .mv (.t 25), none⟩, ⟨some 10, .mv (.t 26), none⟩])
  (.seq (.reg [⟨some 27, .mv (.t 8), none⟩, ⟨some 28, .bin .eql (.t 27) (.c (.x (.int .i64 (0)))), none⟩, ⟨some 29, .mv (.t 28), none⟩, ⟨some 30, .mv (.t 10), (some (29, true))⟩, ⟨some 31, .bin .eql (.t 30) (.c (.x (.int .i64 (0)))), (some (29, true))⟩, ⟨some 32, .pick (.t 29) (.t 31) (.c (.x (.bool false))), none⟩, ⟨some 33, .mv (.t 32), none⟩, ⟨some 34, .mv (.t 7), (some (33, true))⟩, ⟨some 35, .len true (.t 34), (some (33, true))⟩, ⟨some 36, .bin .eql (.t 35) (.c (.x (.int .i64 (15)))), (some (33, true))⟩, ⟨some 37, .pick (.t 33) (.t 36) (.c (.x (.bool false))), none⟩, ⟨some 38, .mv (.t 37), none⟩, ⟨some 39, .mv (.t 5), (some (38, true))⟩, ⟨some 40, .mv (.t 6), (some (38, true))⟩, ⟨some 41, .bin .lss (.t 39) (.t 40), (some (38, true))⟩, ⟨some 42, .mv (.t 7), (some (38, true))⟩, ⟨some 43, .mv (.t 9), (some (38, true))⟩, ⟨some 44, .bin .lss (.t 42) (.t 43), (some (38, true))⟩, ⟨some 45, .eq .bool false (.t 41) (.t 44), (some (38, true))⟩, ⟨some 46, .pick (.t 38) (.t 45) (.c (.x (.bool false))), none⟩, ⟨some 47, .mv (.t 46), none⟩, ⟨some 48, .mv (.t 5), (some (47, true))⟩, ⟨some 49, .mv (.t 6), (some (47, true))⟩, ⟨some 50, .bin .eql (.t 48) (.t 49), (some (47, true))⟩, ⟨some 51, .mv (.t 7), (some (47, true))⟩, ⟨some 52, .mv (.t 9), (some (47, true))⟩, ⟨some 53, .bin .eql (.t 51) (.t 52), (some (47, true))⟩, ⟨some 54, .eq .bool false (.t 50) (.t 53), (some (47, true))⟩, ⟨some 55, .pick (.t 47) (.t 54) (.c (.x (.bool false))), none⟩, ⟨some 56, .mv (.t 55), none⟩, ⟨some 57, .call (.c (.fn 30 [])) [], (some (56, true))⟩, ⟨some 58, .pick (.t 56) (.t 57) (.c (.x (.bool false))), none⟩, ⟨some 4, .mv (.t 58), none⟩])
  .ret)))))⟩
theorem c11 : compFn Try.prog Try.f11 = some i11 := by kernel_rfl
/-- bothy/stamp.Put -/
def i28 : IFn := ⟨76, [.tmp 2, .tmp 3], (.seq (.reg [⟨some 2, .mv (.c (.x (.str []))), none⟩, ⟨some 3, .mv (.c (.x (.int .i64 (0)))), none⟩])
  (.seq (.seq (.reg [⟨some 12, .mv (.t 0), none⟩, ⟨some 13, .bin .lss (.t 12) (.c (.x (.int .i64 (0)))), none⟩, ⟨some 14, .mv (.t 13), none⟩, ⟨some 15, .mv (.t 0), (some (14, false))⟩, ⟨some 16, .bin .gtr (.t 15) (.c (.x (.int .i64 (253402300799)))), (some (14, false))⟩, ⟨some 17, .pick (.t 14) (.c (.x (.bool true))) (.t 16), none⟩])
  (.cond (.t 17)
    (.seq (.reg [⟨some 2, .mv (.c (.x (.str []))), none⟩, ⟨some 3, .mv (.c (.x (.int .i64 (2)))), none⟩])
    .ret)
    .skip))
  (.seq (.reg [⟨some 18, .mv (.t 0), none⟩, ⟨some 19, .bin .quo (.t 18) (.c (.x (.int .i64 (86400)))), none⟩, ⟨some 20, .mv (.t 0), none⟩, ⟨some 21, .bin .rem (.t 20) (.c (.x (.int .i64 (86400)))), none⟩, ⟨some 4, .mv (.t 19), none⟩, ⟨some 5, .mv (.t 21), none⟩])
  (.seq (.reg [⟨some 22, .mv (.t 4), none⟩, ⟨some 23, .bin .quo (.t 22) (.c (.x (.int .i64 (366)))), none⟩, ⟨some 24, .bin .add (.c (.x (.int .i64 (1970)))) (.t 23), none⟩, ⟨some 6, .mv (.t 24), none⟩])
  (.seq (.block 0
    (.loop
      (.seq (.seq (.reg [⟨some 25, .mv (.t 6), none⟩, ⟨some 26, .bin .add (.t 25) (.c (.x (.int .i64 (1)))), none⟩, ⟨some 27, .call (.c (.fn 39 [])) [(.t 26)], none⟩, ⟨some 28, .mv (.t 4), none⟩, ⟨some 29, .bin .leq (.t 27) (.t 28), none⟩])
      (.cond (.t 29)
        .skip
        (.exit 0)))
      (.block 1
        (.reg [⟨some 30, .mv (.t 6), none⟩, ⟨some 31, .bin .add (.t 30) (.c (.x (.int .i64 (1)))), none⟩, ⟨some 6, .mv (.t 31), none⟩])))))
  (.seq (.reg [⟨some 32, .mv (.t 4), none⟩, ⟨some 33, .mv (.t 6), none⟩, ⟨some 34, .call (.c (.fn 39 [])) [(.t 33)], none⟩, ⟨some 35, .bin .sub (.t 32) (.t 34), none⟩, ⟨some 4, .mv (.t 35), none⟩])
  (.seq (.reg [⟨some 7, .mv (.c (.x (.int .i64 (0)))), none⟩])
  (.seq (.reg [⟨some 36, .mv (.t 6), none⟩, ⟨some 37, .call (.c (.fn 40 [])) [(.t 36)], none⟩, ⟨some 8, .abx 84 (.c (.agg [.x (.int .i64 (0)), .x (.int .i64 (0)), .x (.int .i64 (0)), .x (.int .i64 (0)), .x (.int .i64 (0)), .x (.int .i64 (0)), .x (.int .i64 (0)), .x (.int .i64 (0)), .x (.int .i64 (0)), .x (.int .i64 (0)), .x (.int .i64 (0)), .x (.int .i64 (0))])), none⟩, ⟨none, .sto 12 (.t 8) (.t 37), none⟩])
  (.seq (.block 2
    (.loop
      (.seq (.seq (.reg [⟨some 38, .mv (.t 4), none⟩, ⟨some 39, .mv (.t 7), none⟩, ⟨some 40, .iada 1 12 (.t 8) (.t 39), none⟩, ⟨some 41, .ld 1 false (.t 40), none⟩, ⟨some 42, .bin .geq (.t 38) (.t 41), none⟩])
      (.cond (.t 42)
        .skip
        (.exit 2)))
      (.block 3
        (.seq (.reg [⟨some 43, .mv (.t 4), none⟩, ⟨some 44, .mv (.t 7), none⟩, ⟨some 45, .iada 1 12 (.t 8) (.t 44), none⟩, ⟨some 46, .ld 1 false (.t 45), none⟩, ⟨some 47, .bin .sub (.t 43) (.t 46), none⟩, ⟨some 4, .mv (.t 47), none⟩])
        (.reg [⟨some 48, .mv (.t 7), none⟩, ⟨some 49, .bin .add (.t 48) (.c (.x (.int .i64 (1)))), none⟩, ⟨some 7, .mv (.t 49), none⟩]))))))
  (.seq (.reg [⟨some 9, .mv (.c (.x .nils)), none⟩])
  (.seq (.reg [⟨some 50, .mv (.t 9), none⟩, ⟨some 51, .mv (.t 6), none⟩, ⟨some 52, .call (.c (.fn 41 [])) [(.t 50), (.t 51), (.c (.x (.int .i64 (4))))], none⟩, ⟨some 9, .mv (.t 52), none⟩])
  (.seq (.seq (.reg [⟨some 53, .mv (.t 7), none⟩, ⟨some 54, .bin .add (.t 53) (.c (.x (.int .i64 (1)))), none⟩, ⟨some 55, .mv (.t 4), none⟩, ⟨some 56, .bin .add (.t 55) (.c (.x (.int .i64 (1)))), none⟩, ⟨some 57, .mv (.t 5), none⟩, ⟨some 58, .bin .quo (.t 57) (.c (.x (.int .i64 (3600)))), none⟩, ⟨some 59, .mv (.t 5), none⟩, ⟨some 60, .bin .quo (.t 59) (.c (.x (.int .i64 (60)))), none⟩, ⟨some 61, .bin .rem (.t 60) (.c (.x (.int .i64 (60)))), none⟩, ⟨some 62, .mv (.t 5), none⟩, ⟨some 63, .bin .rem (.t 62) (.c (.x (.int .i64 (60)))), none⟩, ⟨some 64, .build [.x (.int .i64 (0)), .x (.int .i64 (0)), .x (.int .i64 (0)), .x (.int .i64 (0)), .x (.int .i64 (0))] [(0, 1, (.t 54)), (1, 1, (.t 56)), (2, 1, (.t 58)), (3, 1, (.t 61)), (4, 1, (.t 63))], none⟩, ⟨some 65, .mv (.c (.x (.int .i64 (0)))), none⟩])
  (.block 4
    (.loop
      (.seq (.reg [⟨some 66, .bin .lss (.t 65) (.c (.x (.int .i64 (5)))), none⟩])
      (.seq (.cond (.t 66)
        .skip
        (.exit 4))
      (.seq (.block 5
        (.seq (.reg [⟨some 67, .idxa 1 5 false (.t 64) (.t 65), none⟩, ⟨some 11, .mv (.t 67), none⟩])
        (.reg [⟨some 68, .mv (.t 9), none⟩, ⟨some 69, .mv (.t 11), none⟩, ⟨some 70, .call (.c (.fn 41 [])) [(.t 68), (.t 69), (.c (.x (.int .i64 (2))))], none⟩, ⟨some 9, .mv (.t 70), none⟩])))
      (.reg [⟨some 71, .bin .add (.t 65) (.c (.x (.int .i64 (1)))), none⟩, ⟨some 65, .mv (.t 71), none⟩])))))))
  (.seq (.reg [⟨some 72, .mv (.t 9), none⟩, ⟨some 73, .bsl 5 1 1 [(.c (.x (.int .u8 (90))))], none⟩, ⟨some 74, .app 5 1 1 (.t 72) (.t 73), none⟩, ⟨some 75, .b2s (.t 74), none⟩, ⟨some 2, .mv (.t 75), none⟩, ⟨some 3, .mv (.c (.x (.int .i64 (0)))), none⟩])
  .ret)))))))))))))⟩
theorem c28 : compFn Try.prog Try.f28 = some i28 := by kernel_rfl
/-- bothy/bothylaw36.put -/
def i29 : IFn := ⟨64, [.tmp 2, .tmp 3], (.seq (.reg [⟨some 2, .mv (.c (.x (.str []))), none⟩, ⟨some 3, .mv (.c (.x (.bool false))), none⟩])
  (.seq (.seq (.reg [⟨some 9, .mv (.t 0), none⟩, ⟨some 10, .bin .lss (.t 9) (.c (.x (.int .i64 (0)))), none⟩, ⟨some 11, .mv (.t 10), none⟩, ⟨some 12, .mv (.t 0), (some (11, false))⟩, ⟨some 13, .bin .gtr (.t 12) (.c (.x (.int .i64 (253402300799)))), (some (11, false))⟩, ⟨some 14, .pick (.t 11) (.c (.x (.bool true))) (.t 13), none⟩])
  (.cond (.t 14)
    (.seq (.reg [⟨some 2, .mv (.c (.x (.str []))), none⟩, ⟨some 3, .mv (.c (.x (.bool false))), none⟩])
    .ret)
    .skip))
  (.seq (.reg [⟨some 15, .mv (.t 0), none⟩, ⟨some 16, .bin .quo (.t 15) (.c (.x (.int .i64 (86400)))), none⟩, ⟨some 17, .mv (.t 0), none⟩, ⟨some 18, .bin .rem (.t 17) (.c (.x (.int .i64 (86400)))), none⟩, ⟨some 4, .mv (.t 16), none⟩, ⟨some 5, .mv (.t 18), none⟩])
  (.seq (.reg [⟨some 6, .mv (.c (.x (.int .i64 (1970)))), none⟩, ⟨some 7, .mv (.c (.x (.int .i64 (1)))), none⟩])
  (.seq (.block 0
    (.loop
      (.block 1
        (.seq (.reg [⟨some 8, .mv (.c (.x (.int .i64 (365)))), none⟩])
        (.seq (.seq (.reg [⟨some 19, .mv (.t 6), none⟩, ⟨some 20, .call (.c (.fn 42 [])) [(.t 19)], none⟩])
        (.cond (.t 20)
          (.reg [⟨some 8, .mv (.c (.x (.int .i64 (366)))), none⟩])
          .skip))
        (.seq (.seq (.reg [⟨some 21, .mv (.t 4), none⟩, ⟨some 22, .mv (.t 8), none⟩, ⟨some 23, .bin .lss (.t 21) (.t 22), none⟩])
        (.cond (.t 23)
          (.exit 0)
          .skip))
        (.seq (.reg [⟨some 24, .mv (.t 4), none⟩, ⟨some 25, .mv (.t 8), none⟩, ⟨some 26, .bin .sub (.t 24) (.t 25), none⟩, ⟨some 4, .mv (.t 26), none⟩])
        (.reg [⟨some 27, .mv (.t 6), none⟩, ⟨some 28, .bin .add (.t 27) (.c (.x (.int .i64 (1)))), none⟩, ⟨some 6, .mv (.t 28), none⟩]))))))))
  (.seq (.block 2
    (.loop
      (.seq (.seq (.reg [⟨some 29, .mv (.t 4), none⟩, ⟨some 30, .mv (.t 6), none⟩, ⟨some 31, .mv (.t 7), none⟩, ⟨some 32, .call (.c (.fn 43 [])) [(.t 30), (.t 31)], none⟩, ⟨some 33, .bin .geq (.t 29) (.t 32), none⟩])
      (.cond (.t 33)
        .skip
        (.exit 2)))
      (.block 3
        (.seq (.reg [⟨some 34, .mv (.t 4), none⟩, ⟨some 35, .mv (.t 6), none⟩, ⟨some 36, .mv (.t 7), none⟩, ⟨some 37, .call (.c (.fn 43 [])) [(.t 35), (.t 36)], none⟩, ⟨some 38, .bin .sub (.t 34) (.t 37), none⟩, ⟨some 4, .mv (.t 38), none⟩])
        (.reg [⟨some 39, .mv (.t 7), none⟩, ⟨some 40, .bin .add (.t 39) (.c (.x (.int .i64 (1)))), none⟩, ⟨some 7, .mv (.t 40), none⟩]))))))
  (.seq (.reg [⟨some 41, .mv (.t 6), none⟩, ⟨some 42, .call (.c (.fn 44 [])) [(.t 41), (.c (.x (.int .i64 (4))))], none⟩, ⟨some 43, .mv (.t 7), none⟩, ⟨some 44, .call (.c (.fn 44 [])) [(.t 43), (.c (.x (.int .i64 (2))))], none⟩, ⟨some 45, .bin .add (.t 42) (.t 44), none⟩, ⟨some 46, .mv (.t 4), none⟩, ⟨some 47, .bin .add (.t 46) (.c (.x (.int .i64 (1)))), none⟩, ⟨some 48, .call (.c (.fn 44 [])) [(.t 47), (.c (.x (.int .i64 (2))))], none⟩, ⟨some 49, .bin .add (.t 45) (.t 48), none⟩, ⟨some 50, .mv (.t 5), none⟩, ⟨some 51, .bin .quo (.t 50) (.c (.x (.int .i64 (3600)))), none⟩, ⟨some 52, .call (.c (.fn 44 [])) [(.t 51), (.c (.x (.int .i64 (2))))], none⟩, ⟨some 53, .bin .add (.t 49) (.t 52), none⟩, ⟨some 54, .mv (.t 5), none⟩, ⟨some 55, .bin .quo (.t 54) (.c (.x (.int .i64 (60)))), none⟩, ⟨some 56, .bin .rem (.t 55) (.c (.x (.int .i64 (60)))), none⟩, ⟨some 57, .call (.c (.fn 44 [])) [(.t 56), (.c (.x (.int .i64 (2))))], none⟩, ⟨some 58, .bin .add (.t 53) (.t 57), none⟩, ⟨some 59, .mv (.t 5), none⟩, ⟨some 60, .bin .rem (.t 59) (.c (.x (.int .i64 (60)))), none⟩, ⟨some 61, .call (.c (.fn 44 [])) [(.t 60), (.c (.x (.int .i64 (2))))], none⟩, ⟨some 62, .bin .add (.t 58) (.t 61), none⟩, ⟨some 63, .bin .add (.t 62) (.c (.x (.str [90]))), none⟩, ⟨some 2, .mv (.t 63), none⟩, ⟨some 3, .mv (.c (.x (.bool true))), none⟩])
  .ret)))))))⟩
theorem c29 : compFn Try.prog Try.f29 = some i29 := by kernel_rfl
/-- bothy/bothylaw36.awake -/
def i30 : IFn := ⟨57, [.tmp 0], (.seq (.reg [⟨some 0, .mv (.c (.x (.bool false))), none⟩])
  (.seq (.reg [⟨some 12, .call (.c (.fn 28 [])) [(.c (.x (.int .i64 (0))))], none⟩, ⟨some 11, .mv (.t 12), none⟩, ⟨some 13, .ext (.t 11) 0, none⟩, ⟨some 14, .ext (.t 11) 1, none⟩, ⟨some 1, .mv (.t 13), none⟩, ⟨some 2, .mv (.t 14), none⟩])
  (.seq (.reg [⟨some 16, .call (.c (.fn 28 [])) [(.c (.x (.int .i64 (951782400))))], none⟩, ⟨some 15, .mv (.t 16), none⟩, ⟨some 17, .ext (.t 15) 0, none⟩, ⟨some 18, .ext (.t 15) 1, none⟩, ⟨some 3, .mv (.t 17), none⟩, ⟨some 4, .mv (.t 18), none⟩])
  (.seq (.reg [⟨some 20, .call (.c (.fn 31 [])) [(.c (.x (.str [57, 57, 57, 57, 49, 50, 51, 49, 50, 51, 53, 57, 53, 57, 90])))], none⟩, ⟨some 19, .mv (.t 20), none⟩, ⟨some 21, .ext (.t 19) 0, none⟩, ⟨some 22, .ext (.t 19) 1, none⟩, ⟨some 5, .mv (.t 21), none⟩, ⟨some 6, .mv (.t 22), none⟩])
  (.seq (.reg [⟨some 24, .call (.c (.fn 31 [])) [(.c (.x (.str [50, 48, 50, 51, 48, 50, 50, 57, 48, 48, 48, 48, 48, 48, 90])))], none⟩, ⟨some 23, .mv (.t 24), none⟩, ⟨some 25, .ext (.t 23) 0, none⟩, ⟨some 26, .ext (.t 23) 1, none⟩, ⟨some 7, .mv (.t 25), none⟩, ⟨some 8, .mv (.t 26), none⟩])
  (.seq (.reg [⟨some 28, .call (.c (.fn 28 [])) [(.c (.x (.int .i64 (-1))))], none⟩, ⟨some 27, .mv (.t 28), none⟩, ⟨some 29, .ext (.t 27) 0, none⟩, ⟨some 30, .ext (.t 27) 1, none⟩, ⟨some 9, .mv (.t 29), none⟩, ⟨some 10, .mv (.t 30), none⟩])
  (.seq (.reg [⟨some 31, .mv (.t 1), none⟩, ⟨some 32, .bin .eql (.t 31) (.c (.x (.str [49, 57, 55, 48, 48, 49, 48, 49, 48, 48, 48, 48, 48, 48, 90]))), none⟩, ⟨some 33, .mv (.t 32), none⟩, ⟨some 34, .mv (.t 2), (some (33, true))⟩, ⟨some 35, .bin .eql (.t 34) (.c (.x (.int .i64 (0)))), (some (33, true))⟩, ⟨some 36, .pick (.t 33) (.t 35) (.c (.x (.bool false))), none⟩, ⟨some 37, .mv (.t 36), none⟩, ⟨some 38, .mv (.t 3), (some (37, true))⟩, ⟨some 39, .bin .eql (.t 38) (.c (.x (.str [50, 48, 48, 48, 48, 50, 50, 57, 48, 48, 48, 48, 48, 48, 90]))), (some (37, true))⟩, ⟨some 40, .pick (.t 37) (.t 39) (.c (.x (.bool false))), none⟩, ⟨some 41, .mv (.t 40), none⟩, ⟨some 42, .mv (.t 5), (some (41, true))⟩, ⟨some 43, .bin .eql (.t 42) (.c (.x (.int .i64 (253402300799)))), (some (41, true))⟩, ⟨some 44, .pick (.t 41) (.t 43) (.c (.x (.bool false))), none⟩, ⟨some 45, .mv (.t 44), none⟩, ⟨some 46, .mv (.t 6), (some (45, true))⟩, ⟨some 47, .bin .eql (.t 46) (.c (.x (.int .i64 (0)))), (some (45, true))⟩, ⟨some 48, .pick (.t 45) (.t 47) (.c (.x (.bool false))), none⟩, ⟨some 49, .mv (.t 48), none⟩, ⟨some 50, .mv (.t 8), (some (49, true))⟩, ⟨some 51, .bin .eql (.t 50) (.c (.x (.int .i64 (5)))), (some (49, true))⟩, ⟨some 52, .pick (.t 49) (.t 51) (.c (.x (.bool false))), none⟩, ⟨some 53, .mv (.t 52), none⟩, ⟨some 54, .mv (.t 10), (some (53, true))⟩, ⟨some 55, .bin .eql (.t 54) (.c (.x (.int .i64 (2)))), (some (53, true))⟩, ⟨some 56, .pick (.t 53) (.t 55) (.c (.x (.bool false))), none⟩, ⟨some 0, .mv (.t 56), none⟩])
  .ret)))))))⟩
theorem c30 : compFn Try.prog Try.f30 = some i30 := by kernel_rfl
/-- bothy/stamp.Read -/
def i31 : IFn := ⟨129, [.tmp 2, .tmp 3], (.seq (.reg [⟨some 2, .mv (.c (.x (.int .i64 (0)))), none⟩, ⟨some 3, .mv (.c (.x (.int .i64 (0)))), none⟩])
  (.seq (.seq (.reg [⟨some 14, .mv (.t 0), none⟩, ⟨some 15, .len true (.t 14), none⟩, ⟨some 16, .bin .neq (.t 15) (.c (.x (.int .i64 (15)))), none⟩, ⟨some 17, .mv (.t 16), none⟩, ⟨some 18, .mv (.t 0), (some (17, false))⟩, ⟨some 19, .idx (.t 18) (.c (.x (.int .i64 (14)))), (some (17, false))⟩, ⟨some 20, .bin .neq (.t 19) (.c (.x (.int .u8 (90)))), (some (17, false))⟩, ⟨some 21, .pick (.t 17) (.c (.x (.bool true))) (.t 20), none⟩])
  (.cond (.t 21)
    (.seq (.reg [⟨some 2, .mv (.c (.x (.int .i64 (0)))), none⟩, ⟨some 3, .mv (.c (.x (.int .i64 (5)))), none⟩])
    .ret)
    .skip))
  (.seq (.reg [⟨some 23, .mv (.t 0), none⟩, ⟨some 24, .slc 0 (.t 23) none (some (.c (.x (.int .i64 (4))))) none, none⟩, ⟨some 25, .call (.c (.fn 45 [])) [(.t 24)], none⟩, ⟨some 22, .mv (.t 25), none⟩, ⟨some 26, .ext (.t 22) 0, none⟩, ⟨some 27, .ext (.t 22) 1, none⟩, ⟨some 4, .mv (.t 26), none⟩, ⟨some 5, .mv (.t 27), none⟩])
  (.seq (.reg [⟨some 6, .abx 87 (.c (.agg [.x (.int .i64 (0)), .x (.int .i64 (0)), .x (.int .i64 (0)), .x (.int .i64 (0)), .x (.int .i64 (0))])), none⟩])
  (.seq (.seq (.reg [⟨some 28, .mv (.c (.x (.int .i64 (0)))), none⟩])
  (.block 0
    (.loop
      (.seq (.reg [⟨some 29, .bin .lss (.t 28) (.c (.x (.int .i64 (5)))), none⟩])
      (.seq (.cond (.t 29)
        .skip
        (.exit 0))
      (.seq (.block 1
        (.seq (.reg [⟨some 30, .mv (.t 28), none⟩, ⟨some 7, .mv (.t 30), none⟩])
        (.seq (.reg [⟨some 32, .mv (.t 0), none⟩, ⟨some 33, .mv (.t 7), none⟩, ⟨some 34, .bin .mul (.c (.x (.int .i64 (2)))) (.t 33), none⟩, ⟨some 35, .bin .add (.c (.x (.int .i64 (4)))) (.t 34), none⟩, ⟨some 36, .mv (.t 7), none⟩, ⟨some 37, .bin .mul (.c (.x (.int .i64 (2)))) (.t 36), none⟩, ⟨some 38, .bin .add (.c (.x (.int .i64 (6)))) (.t 37), none⟩, ⟨some 39, .slc 0 (.t 32) (some (.t 35)) (some (.t 38)) none, none⟩, ⟨some 40, .call (.c (.fn 45 [])) [(.t 39)], none⟩, ⟨some 31, .mv (.t 40), none⟩, ⟨some 41, .ext (.t 31) 0, none⟩, ⟨some 42, .ext (.t 31) 1, none⟩, ⟨some 8, .mv (.t 41), none⟩, ⟨some 9, .mv (.t 42), none⟩])
        (.reg [⟨some 43, .mv (.t 7), none⟩, ⟨some 44, .mv (.t 8), none⟩, ⟨some 45, .mv (.t 5), none⟩, ⟨some 46, .mv (.t 45), none⟩, ⟨some 47, .mv (.t 9), (some (46, true))⟩, ⟨some 48, .pick (.t 46) (.t 47) (.c (.x (.bool false))), none⟩, ⟨some 49, .iada 1 5 (.t 6) (.t 43), none⟩, ⟨none, .sto 1 (.t 49) (.t 44), none⟩, ⟨some 5, .mv (.t 48), none⟩]))))
      (.reg [⟨some 50, .bin .add (.t 28) (.c (.x (.int .i64 (1)))), none⟩, ⟨some 28, .mv (.t 50), none⟩])))))))
  (.seq (.seq (.reg [⟨some 51, .mv (.t 5), none⟩, ⟨some 52, .un .not (.t 51), none⟩, ⟨some 53, .mv (.t 52), none⟩, ⟨some 54, .mv (.t 4), (some (53, false))⟩, ⟨some 55, .bin .lss (.t 54) (.c (.x (.int .i64 (1970)))), (some (53, false))⟩, ⟨some 56, .pick (.t 53) (.c (.x (.bool true))) (.t 55), none⟩, ⟨some 57, .mv (.t 56), none⟩, ⟨some 58, .iada 1 5 (.t 6) (.c (.x (.int .i64 (0)))), (some (57, false))⟩, ⟨some 59, .ld 1 false (.t 58), (some (57, false))⟩, ⟨some 60, .bin .lss (.t 59) (.c (.x (.int .i64 (1)))), (some (57, false))⟩, ⟨some 61, .pick (.t 57) (.c (.x (.bool true))) (.t 60), none⟩, ⟨some 62, .mv (.t 61), none⟩, ⟨some 63, .iada 1 5 (.t 6) (.c (.x (.int .i64 (0)))), (some (62, false))⟩, ⟨some 64, .ld 1 false (.t 63), (some (62, false))⟩, ⟨some 65, .bin .gtr (.t 64) (.c (.x (.int .i64 (12)))), (some (62, false))⟩, ⟨some 66, .pick (.t 62) (.c (.x (.bool true))) (.t 65), none⟩, ⟨some 67, .mv (.t 66), none⟩, ⟨some 68, .iada 1 5 (.t 6) (.c (.x (.int .i64 (1)))), (some (67, false))⟩, ⟨some 69, .ld 1 false (.t 68), (some (67, false))⟩, ⟨some 70, .bin .lss (.t 69) (.c (.x (.int .i64 (1)))), (some (67, false))⟩, ⟨some 71, .pick (.t 67) (.c (.x (.bool true))) (.t 70), none⟩, ⟨some 72, .mv (.t 71), none⟩, ⟨some 73, .iada 1 5 (.t 6) (.c (.x (.int .i64 (2)))), (some (72, false))⟩, ⟨some 74, .ld 1 false (.t 73), (some (72, false))⟩, ⟨some 75, .bin .gtr (.t 74) (.c (.x (.int .i64 (23)))), (some (72, false))⟩, ⟨some 76, .pick (.t 72) (.c (.x (.bool true))) (.t 75), none⟩, ⟨some 77, .mv (.t 76), none⟩, ⟨some 78, .iada 1 5 (.t 6) (.c (.x (.int .i64 (3)))), (some (77, false))⟩, ⟨some 79, .ld 1 false (.t 78), (some (77, false))⟩, ⟨some 80, .bin .gtr (.t 79) (.c (.x (.int .i64 (59)))), (some (77, false))⟩, ⟨some 81, .pick (.t 77) (.c (.x (.bool true))) (.t 80), none⟩, ⟨some 82, .mv (.t 81), none⟩, ⟨some 83, .iada 1 5 (.t 6) (.c (.x (.int .i64 (4)))), (some (82, false))⟩, ⟨some 84, .ld 1 false (.t 83), (some (82, false))⟩, ⟨some 85, .bin .gtr (.t 84) (.c (.x (.int .i64 (59)))), (some (82, false))⟩, ⟨some 86, .pick (.t 82) (.c (.x (.bool true))) (.t 85), none⟩])
  (.cond (.t 86)
    (.seq (.reg [⟨some 2, .mv (.c (.x (.int .i64 (0)))), none⟩, ⟨some 3, .mv (.c (.x (.int .i64 (5)))), none⟩])
    .ret)
    .skip))
  (.seq (.reg [⟨some 87, .mv (.t 4), none⟩, ⟨some 88, .call (.c (.fn 40 [])) [(.t 87)], none⟩, ⟨some 10, .abx 84 (.c (.agg [.x (.int .i64 (0)), .x (.int .i64 (0)), .x (.int .i64 (0)), .x (.int .i64 (0)), .x (.int .i64 (0)), .x (.int .i64 (0)), .x (.int .i64 (0)), .x (.int .i64 (0)), .x (.int .i64 (0)), .x (.int .i64 (0)), .x (.int .i64 (0)), .x (.int .i64 (0))])), none⟩, ⟨none, .sto 12 (.t 10) (.t 88), none⟩])
  (.seq (.seq (.dreg 7 [] [⟨some 89, .iada 1 5 (.t 6) (.c (.x (.int .i64 (1)))), none⟩, ⟨some 90, .ld 1 false (.t 89), none⟩, ⟨some 91, .iada 1 5 (.t 6) (.c (.x (.int .i64 (0)))), none⟩, ⟨some 92, .ld 1 false (.t 91), none⟩, ⟨some 93, .bin .sub (.t 92) (.c (.x (.int .i64 (1)))), none⟩, ⟨some 94, .iada 1 12 (.t 10) (.t 93), none⟩, ⟨some 95, .ld 1 false (.t 94), none⟩, ⟨some 96, .bin .gtr (.t 90) (.t 95), none⟩])
  (.cond (.t 96)
    (.seq (.reg [⟨some 2, .mv (.c (.x (.int .i64 (0)))), none⟩, ⟨some 3, .mv (.c (.x (.int .i64 (5)))), none⟩])
    .ret)
    .skip))
  (.seq (.dreg 4 [] [⟨some 97, .mv (.t 4), none⟩, ⟨some 98, .call (.c (.fn 39 [])) [(.t 97)], none⟩, ⟨some 99, .iada 1 5 (.t 6) (.c (.x (.int .i64 (1)))), none⟩, ⟨some 100, .ld 1 false (.t 99), none⟩, ⟨some 101, .bin .add (.t 98) (.t 100), none⟩, ⟨some 102, .bin .sub (.t 101) (.c (.x (.int .i64 (1)))), none⟩, ⟨some 11, .mv (.t 102), none⟩])
  (.seq (.seq (.reg [⟨some 103, .iada 1 5 (.t 6) (.c (.x (.int .i64 (0)))), none⟩, ⟨some 104, .ld 1 false (.t 103), none⟩, ⟨some 105, .bin .sub (.t 104) (.c (.x (.int .i64 (1)))), none⟩, ⟨some 106, .asl 12 (.t 10) (some (.t 105)), none⟩, ⟨some 107, .len false (.t 106), none⟩, ⟨some 108, .mv (.c (.x (.int .i64 (0)))), none⟩])
  (.block 2
    (.loop
      (.seq (.reg [⟨some 109, .bin .lss (.t 108) (.t 107), none⟩])
      (.seq (.cond (.t 109)
        .skip
        (.exit 2))
      (.seq (.block 3
        (.seq (.reg [⟨some 110, .iad 1 (.t 106) (.t 108), none⟩, ⟨some 111, .ld 1 false (.t 110), none⟩, ⟨some 13, .mv (.t 111), none⟩])
        (.reg [⟨some 112, .mv (.t 11), none⟩, ⟨some 113, .mv (.t 13), none⟩, ⟨some 114, .bin .add (.t 112) (.t 113), none⟩, ⟨some 11, .mv (.t 114), none⟩])))
      (.reg [⟨some 115, .bin .add (.t 108) (.c (.x (.int .i64 (1)))), none⟩, ⟨some 108, .mv (.t 115), none⟩])))))))
  (.seq (.reg [⟨some 116, .mv (.t 11), none⟩, ⟨some 117, .bin .mul (.t 116) (.c (.x (.int .i64 (86400)))), none⟩, ⟨some 118, .iada 1 5 (.t 6) (.c (.x (.int .i64 (2)))), none⟩, ⟨some 119, .ld 1 false (.t 118), none⟩, ⟨some 120, .bin .mul (.t 119) (.c (.x (.int .i64 (3600)))), none⟩, ⟨some 121, .bin .add (.t 117) (.t 120), none⟩, ⟨some 122, .iada 1 5 (.t 6) (.c (.x (.int .i64 (3)))), none⟩, ⟨some 123, .ld 1 false (.t 122), none⟩, ⟨some 124, .bin .mul (.t 123) (.c (.x (.int .i64 (60)))), none⟩, ⟨some 125, .bin .add (.t 121) (.t 124), none⟩, ⟨some 126, .iada 1 5 (.t 6) (.c (.x (.int .i64 (4)))), none⟩, ⟨some 127, .ld 1 false (.t 126), none⟩, ⟨some 128, .bin .add (.t 125) (.t 127), none⟩, ⟨some 2, .mv (.t 128), none⟩, ⟨some 3, .mv (.c (.x (.int .i64 (0)))), none⟩])
  .ret)))))))))))⟩
theorem c31 : compFn Try.prog Try.f31 = some i31 := by kernel_rfl
/-- bothy/stamp.before -/
def i39 : IFn := ⟨15, [.tmp 2], (.seq (.reg [⟨some 2, .mv (.c (.x (.int .i64 (0)))), none⟩])
  (.seq (.reg [⟨some 3, .mv (.c (.fn 48 [])), none⟩])
  (.seq (.reg [⟨some 4, .mv (.t 0), none⟩, ⟨some 5, .bin .sub (.t 4) (.c (.x (.int .i64 (1970)))), none⟩, ⟨some 6, .bin .mul (.c (.x (.int .i64 (365)))) (.t 5), none⟩, ⟨some 7, .mv (.t 3), none⟩, ⟨some 8, .mv (.t 0), none⟩, ⟨some 9, .bin .sub (.t 8) (.c (.x (.int .i64 (1)))), none⟩, ⟨some 10, .call (.t 7) [(.t 9)], none⟩, ⟨some 11, .bin .add (.t 6) (.t 10), none⟩, ⟨some 12, .mv (.t 3), none⟩, ⟨some 13, .call (.t 12) [(.c (.x (.int .i64 (1969))))], none⟩, ⟨some 14, .bin .sub (.t 11) (.t 13), none⟩, ⟨some 2, .mv (.t 14), none⟩])
  .ret)))⟩
theorem c39 : compFn Try.prog Try.f39 = some i39 := by kernel_rfl
/-- bothy/stamp.months -/
def i40 : IFn := ⟨12, [.cell 2 12 true], (.seq (.reg [⟨some 2, .abx 84 (.c (.agg [.x (.int .i64 (0)), .x (.int .i64 (0)), .x (.int .i64 (0)), .x (.int .i64 (0)), .x (.int .i64 (0)), .x (.int .i64 (0)), .x (.int .i64 (0)), .x (.int .i64 (0)), .x (.int .i64 (0)), .x (.int .i64 (0)), .x (.int .i64 (0)), .x (.int .i64 (0))])), none⟩])
  (.seq (.reg [⟨some 4, .build [.x (.int .i64 (0)), .x (.int .i64 (0)), .x (.int .i64 (0)), .x (.int .i64 (0)), .x (.int .i64 (0)), .x (.int .i64 (0)), .x (.int .i64 (0)), .x (.int .i64 (0)), .x (.int .i64 (0)), .x (.int .i64 (0)), .x (.int .i64 (0)), .x (.int .i64 (0))] [(0, 1, (.c (.x (.int .i64 (31))))), (1, 1, (.c (.x (.int .i64 (28))))), (2, 1, (.c (.x (.int .i64 (31))))), (3, 1, (.c (.x (.int .i64 (30))))), (4, 1, (.c (.x (.int .i64 (31))))), (5, 1, (.c (.x (.int .i64 (30))))), (6, 1, (.c (.x (.int .i64 (31))))), (7, 1, (.c (.x (.int .i64 (31))))), (8, 1, (.c (.x (.int .i64 (30))))), (9, 1, (.c (.x (.int .i64 (31))))), (10, 1, (.c (.x (.int .i64 (30))))), (11, 1, (.c (.x (.int .i64 (31)))))], none⟩, ⟨some 3, .abx 84 (.c (.agg [.x (.int .i64 (0)), .x (.int .i64 (0)), .x (.int .i64 (0)), .x (.int .i64 (0)), .x (.int .i64 (0)), .x (.int .i64 (0)), .x (.int .i64 (0)), .x (.int .i64 (0)), .x (.int .i64 (0)), .x (.int .i64 (0)), .x (.int .i64 (0)), .x (.int .i64 (0))])), none⟩, ⟨none, .sto 12 (.t 3) (.t 4), none⟩])
  (.seq (.seq (.reg [⟨some 5, .mv (.t 0), none⟩, ⟨some 6, .call (.c (.fn 49 [])) [(.t 5)], none⟩])
  (.cond (.t 6)
    (.reg [⟨some 7, .iada 1 12 (.t 3) (.c (.x (.int .i64 (1)))), none⟩, ⟨some 8, .ld 1 false (.t 7), none⟩, ⟨some 9, .bin .add (.t 8) (.c (.x (.int .i64 (1)))), none⟩, ⟨some 10, .iada 1 12 (.t 3) (.c (.x (.int .i64 (1)))), none⟩, ⟨none, .sto 1 (.t 10) (.t 9), none⟩])
    .skip))
  (.seq (.reg [⟨some 11, .ld 12 true (.t 3), none⟩, ⟨none, .sto 12 (.t 2) (.t 11), none⟩])
  .ret))))⟩
theorem c40 : compFn Try.prog Try.f40 = some i40 := by kernel_rfl
/-- bothy/stamp.digits -/
def i41 : IFn := ⟨32, [.tmp 6], (.seq (.reg [⟨some 6, .mv (.c (.x .nils)), none⟩])
  (.seq (.reg [⟨some 9, .mv (.t 0), none⟩, ⟨some 10, .len false (.t 9), none⟩, ⟨some 7, .mv (.t 10), none⟩])
  (.seq (.reg [⟨some 11, .mv (.t 0), none⟩, ⟨some 12, .mv (.t 2), none⟩, ⟨some 13, .apz 5 1 1 [(.int .u8 (0))] (.t 11) (.t 12), none⟩, ⟨some 0, .mv (.t 13), none⟩])
  (.seq (.seq (.reg [⟨some 14, .mv (.t 2), none⟩, ⟨some 15, .bin .sub (.t 14) (.c (.x (.int .i64 (1)))), none⟩, ⟨some 8, .mv (.t 15), none⟩])
  (.block 0
    (.loop
      (.seq (.seq (.reg [⟨some 16, .mv (.t 8), none⟩, ⟨some 17, .bin .geq (.t 16) (.c (.x (.int .i64 (0)))), none⟩])
      (.cond (.t 17)
        .skip
        (.exit 0)))
      (.seq (.block 1
        (.seq (.reg [⟨some 20, .mv (.t 0), none⟩, ⟨some 21, .mv (.t 7), none⟩, ⟨some 22, .mv (.t 8), none⟩, ⟨some 23, .bin .add (.t 21) (.t 22), none⟩, ⟨some 24, .mv (.t 1), none⟩, ⟨some 25, .bin .rem (.t 24) (.c (.x (.int .i64 (10)))), none⟩, ⟨some 26, .bin .add (.c (.x (.int .i64 (48)))) (.t 25), none⟩, ⟨some 27, .cvi .u8 (.t 26), none⟩, ⟨some 28, .iad 1 (.t 20) (.t 23), none⟩, ⟨none, .sto 1 (.t 28) (.t 27), none⟩])
        (.reg [⟨some 29, .mv (.t 1), none⟩, ⟨some 30, .bin .quo (.t 29) (.c (.x (.int .i64 (10)))), none⟩, ⟨some 1, .mv (.t 30), none⟩])))
      (.reg [⟨some 18, .mv (.t 8), none⟩, ⟨some 19, .bin .sub (.t 18) (.c (.x (.int .i64 (1)))), none⟩, ⟨some 8, .mv (.t 19), none⟩]))))))
  (.seq (.reg [⟨some 31, .mv (.t 0), none⟩, ⟨some 6, .mv (.t 31), none⟩])
  .ret)))))⟩
theorem c41 : compFn Try.prog Try.f41 = some i41 := by kernel_rfl
/-- bothy/bothylaw36.leap -/
def i42 : IFn := ⟨16, [.tmp 2], (.seq (.reg [⟨some 2, .mv (.c (.x (.bool false))), none⟩])
  (.seq (.reg [⟨some 3, .mv (.t 0), none⟩, ⟨some 4, .bin .rem (.t 3) (.c (.x (.int .i64 (4)))), none⟩, ⟨some 5, .bin .eql (.t 4) (.c (.x (.int .i64 (0)))), none⟩, ⟨some 6, .mv (.t 5), none⟩, ⟨some 7, .mv (.t 0), (some (6, true))⟩, ⟨some 8, .bin .rem (.t 7) (.c (.x (.int .i64 (100)))), (some (6, true))⟩, ⟨some 9, .bin .neq (.t 8) (.c (.x (.int .i64 (0)))), (some (6, true))⟩, ⟨some 10, .mv (.t 9), (some (6, true))⟩, ⟨some 11, .mv (.t 0), (some (10, false))⟩, ⟨some 12, .bin .rem (.t 11) (.c (.x (.int .i64 (400)))), (some (10, false))⟩, ⟨some 13, .bin .eql (.t 12) (.c (.x (.int .i64 (0)))), (some (10, false))⟩, ⟨some 14, .pick (.t 10) (.c (.x (.bool true))) (.t 13), (some (6, true))⟩, ⟨some 15, .pick (.t 6) (.t 14) (.c (.x (.bool false))), none⟩, ⟨some 2, .mv (.t 15), none⟩])
  .ret))⟩
theorem c42 : compFn Try.prog Try.f42 = some i42 := by kernel_rfl
/-- bothy/bothylaw36.long -/
def i43 : IFn := ⟨15, [.tmp 4], (.seq (.reg [⟨some 4, .mv (.c (.x (.int .i64 (0)))), none⟩])
  (.seq (.seq (.reg [⟨some 5, .mv (.t 1), none⟩])
  (.block 0
    (.seq (.reg [⟨some 7, .bin .eql (.t 5) (.c (.x (.int .i64 (2)))), none⟩, ⟨some 6, .mv (.t 7), none⟩])
    (.cond (.t 6)
      (.seq (.seq (.reg [⟨some 8, .mv (.t 0), none⟩, ⟨some 9, .call (.c (.fn 42 [])) [(.t 8)], none⟩])
      (.cond (.t 9)
        (.seq (.reg [⟨some 4, .mv (.c (.x (.int .i64 (29)))), none⟩])
        .ret)
        .skip))
      (.seq (.reg [⟨some 4, .mv (.c (.x (.int .i64 (28)))), none⟩])
      .ret))
      (.seq (.seq (.reg [⟨some 11, .bin .eql (.t 5) (.c (.x (.int .i64 (4)))), none⟩, ⟨some 10, .mv (.t 11), none⟩])
      (.cond (.t 10)
        .skip
        (.seq (.reg [⟨some 12, .bin .eql (.t 5) (.c (.x (.int .i64 (6)))), none⟩, ⟨some 10, .mv (.t 12), none⟩])
        (.cond (.t 10)
          .skip
          (.seq (.reg [⟨some 13, .bin .eql (.t 5) (.c (.x (.int .i64 (9)))), none⟩, ⟨some 10, .mv (.t 13), none⟩])
          (.cond (.t 10)
            .skip
            (.reg [⟨some 14, .bin .eql (.t 5) (.c (.x (.int .i64 (11)))), none⟩, ⟨some 10, .mv (.t 14), none⟩])))))))
      (.cond (.t 10)
        (.seq (.reg [⟨some 4, .mv (.c (.x (.int .i64 (30)))), none⟩])
        .ret)
        .skip))))))
  (.seq (.reg [⟨some 4, .mv (.c (.x (.int .i64 (31)))), none⟩])
  .ret)))⟩
theorem c43 : compFn Try.prog Try.f43 = some i43 := by kernel_rfl
/-- bothy/bothylaw36.digits -/
def i44 : IFn := ⟨23, [.tmp 4], (.seq (.reg [⟨some 4, .mv (.c (.x (.str []))), none⟩])
  (.seq (.reg [⟨some 5, .mv (.c (.x (.str []))), none⟩])
  (.seq (.seq (.reg [⟨some 6, .mv (.c (.x (.int .i64 (0)))), none⟩])
  (.block 0
    (.loop
      (.seq (.seq (.reg [⟨some 7, .mv (.t 6), none⟩, ⟨some 8, .mv (.t 1), none⟩, ⟨some 9, .bin .lss (.t 7) (.t 8), none⟩])
      (.cond (.t 9)
        .skip
        (.exit 0)))
      (.seq (.block 1
        (.seq (.reg [⟨some 12, .mv (.t 0), none⟩, ⟨some 13, .bin .rem (.t 12) (.c (.x (.int .i64 (10)))), none⟩, ⟨some 14, .bin .add (.c (.x (.int .i64 (48)))) (.t 13), none⟩, ⟨some 15, .cvi .u8 (.t 14), none⟩, ⟨some 16, .bsl 5 1 1 [(.t 15)], none⟩, ⟨some 17, .b2s (.t 16), none⟩, ⟨some 18, .mv (.t 5), none⟩, ⟨some 19, .bin .add (.t 17) (.t 18), none⟩, ⟨some 5, .mv (.t 19), none⟩])
        (.reg [⟨some 20, .mv (.t 0), none⟩, ⟨some 21, .bin .quo (.t 20) (.c (.x (.int .i64 (10)))), none⟩, ⟨some 0, .mv (.t 21), none⟩])))
      (.reg [⟨some 10, .mv (.t 6), none⟩, ⟨some 11, .bin .add (.t 10) (.c (.x (.int .i64 (1)))), none⟩, ⟨some 6, .mv (.t 11), none⟩]))))))
  (.seq (.reg [⟨some 22, .mv (.t 5), none⟩, ⟨some 4, .mv (.t 22), none⟩])
  .ret))))⟩
theorem c44 : compFn Try.prog Try.f44 = some i44 := by kernel_rfl
/-- bothy/stamp.number -/
def i45 : IFn := ⟨28, [.tmp 2, .tmp 3], (.seq (.reg [⟨some 2, .mv (.c (.x (.int .i64 (0)))), none⟩, ⟨some 3, .mv (.c (.x (.bool false))), none⟩])
  (.seq (.reg [⟨some 4, .mv (.c (.x (.int .i64 (0)))), none⟩])
  (.seq (.seq (.reg [⟨some 7, .mv (.t 0), none⟩, ⟨some 8, .s2b 5 (.t 7), none⟩, ⟨some 9, .len false (.t 8), none⟩, ⟨some 10, .mv (.c (.x (.int .i64 (0)))), none⟩])
  (.block 0
    (.loop
      (.seq (.reg [⟨some 11, .bin .lss (.t 10) (.t 9), none⟩])
      (.seq (.cond (.t 11)
        .skip
        (.exit 0))
      (.seq (.block 1
        (.seq (.reg [⟨some 12, .iad 1 (.t 8) (.t 10), none⟩, ⟨some 13, .ld 1 false (.t 12), none⟩, ⟨some 6, .mv (.t 13), none⟩])
        (.seq (.seq (.reg [⟨some 14, .mv (.t 6), none⟩, ⟨some 15, .bin .lss (.t 14) (.c (.x (.int .u8 (48)))), none⟩, ⟨some 16, .mv (.t 15), none⟩, ⟨some 17, .mv (.t 6), (some (16, false))⟩, ⟨some 18, .bin .gtr (.t 17) (.c (.x (.int .u8 (57)))), (some (16, false))⟩, ⟨some 19, .pick (.t 16) (.c (.x (.bool true))) (.t 18), none⟩])
        (.cond (.t 19)
          (.seq (.reg [⟨some 2, .mv (.c (.x (.int .i64 (0)))), none⟩, ⟨some 3, .mv (.c (.x (.bool false))), none⟩])
          .ret)
          .skip))
        (.reg [⟨some 20, .mv (.t 4), none⟩, ⟨some 21, .bin .mul (.c (.x (.int .i64 (10)))) (.t 20), none⟩, ⟨some 22, .mv (.t 6), none⟩, ⟨some 23, .bin .sub (.t 22) (.c (.x (.int .u8 (48)))), none⟩, ⟨some 24, .cvi .i64 (.t 23), none⟩, ⟨some 25, .bin .add (.t 21) (.t 24), none⟩, ⟨some 4, .mv (.t 25), none⟩]))))
      (.reg [⟨some 26, .bin .add (.t 10) (.c (.x (.int .i64 (1)))), none⟩, ⟨some 10, .mv (.t 26), none⟩])))))))
  (.seq (.reg [⟨some 27, .mv (.t 4), none⟩, ⟨some 2, .mv (.t 27), none⟩, ⟨some 3, .mv (.c (.x (.bool true))), none⟩])
  .ret))))⟩
theorem c45 : compFn Try.prog Try.f45 = some i45 := by kernel_rfl
/-- bothy/stamp.before$1 -/
def i48 : IFn := ⟨11, [.tmp 2], (.seq (.reg [⟨some 2, .mv (.c (.x (.int .i64 (0)))), none⟩])
  (.seq (.reg [⟨some 3, .mv (.t 0), none⟩, ⟨some 4, .bin .quo (.t 3) (.c (.x (.int .i64 (4)))), none⟩, ⟨some 5, .mv (.t 0), none⟩, ⟨some 6, .bin .quo (.t 5) (.c (.x (.int .i64 (100)))), none⟩, ⟨some 7, .bin .sub (.t 4) (.t 6), none⟩, ⟨some 8, .mv (.t 0), none⟩, ⟨some 9, .bin .quo (.t 8) (.c (.x (.int .i64 (400)))), none⟩, ⟨some 10, .bin .add (.t 7) (.t 9), none⟩, ⟨some 2, .mv (.t 10), none⟩])
  .ret))⟩
theorem c48 : compFn Try.prog Try.f48 = some i48 := by kernel_rfl
/-- bothy/stamp.leap -/
def i49 : IFn := ⟨16, [.tmp 2], (.seq (.reg [⟨some 2, .mv (.c (.x (.bool false))), none⟩])
  (.seq (.reg [⟨some 3, .mv (.t 0), none⟩, ⟨some 4, .bin .rem (.t 3) (.c (.x (.int .i64 (4)))), none⟩, ⟨some 5, .bin .eql (.t 4) (.c (.x (.int .i64 (0)))), none⟩, ⟨some 6, .mv (.t 5), none⟩, ⟨some 7, .mv (.t 0), (some (6, true))⟩, ⟨some 8, .bin .rem (.t 7) (.c (.x (.int .i64 (100)))), (some (6, true))⟩, ⟨some 9, .bin .neq (.t 8) (.c (.x (.int .i64 (0)))), (some (6, true))⟩, ⟨some 10, .pick (.t 6) (.t 9) (.c (.x (.bool false))), none⟩, ⟨some 11, .mv (.t 10), none⟩, ⟨some 12, .mv (.t 0), (some (11, false))⟩, ⟨some 13, .bin .rem (.t 12) (.c (.x (.int .i64 (400)))), (some (11, false))⟩, ⟨some 14, .bin .eql (.t 13) (.c (.x (.int .i64 (0)))), (some (11, false))⟩, ⟨some 15, .pick (.t 11) (.c (.x (.bool true))) (.t 14), none⟩, ⟨some 2, .mv (.t 15), none⟩])
  .ret))⟩
theorem c49 : compFn Try.prog Try.f49 = some i49 := by kernel_rfl
def G : FuncId → Option IFn
  | 3 => some i3
  | 9 => some i9
  | 10 => some i10
  | 11 => some i11
  | 28 => some i28
  | 29 => some i29
  | 30 => some i30
  | 31 => some i31
  | 39 => some i39
  | 40 => some i40
  | 41 => some i41
  | 42 => some i42
  | 43 => some i43
  | 44 => some i44
  | 45 => some i45
  | 48 => some i48
  | 49 => some i49
  | _ => none
theorem G_ok : GOk Try.prog G := by
  intro f p h
  unfold G at h
  split at h
  · cases h; exact ⟨Try.f3, Try.func3, by decide, c3⟩
  · cases h; exact ⟨Try.f9, Try.func9, by decide, c9⟩
  · cases h; exact ⟨Try.f10, Try.func10, by decide, c10⟩
  · cases h; exact ⟨Try.f11, Try.func11, by decide, c11⟩
  · cases h; exact ⟨Try.f28, Try.func28, by decide, c28⟩
  · cases h; exact ⟨Try.f29, Try.func29, by decide, c29⟩
  · cases h; exact ⟨Try.f30, Try.func30, by decide, c30⟩
  · cases h; exact ⟨Try.f31, Try.func31, by decide, c31⟩
  · cases h; exact ⟨Try.f39, Try.func39, by decide, c39⟩
  · cases h; exact ⟨Try.f40, Try.func40, by decide, c40⟩
  · cases h; exact ⟨Try.f41, Try.func41, by decide, c41⟩
  · cases h; exact ⟨Try.f42, Try.func42, by decide, c42⟩
  · cases h; exact ⟨Try.f43, Try.func43, by decide, c43⟩
  · cases h; exact ⟨Try.f44, Try.func44, by decide, c44⟩
  · cases h; exact ⟨Try.f45, Try.func45, by decide, c45⟩
  · cases h; exact ⟨Try.f48, Try.func48, by decide, c48⟩
  · cases h; exact ⟨Try.f49, Try.func49, by decide, c49⟩
  · cases h
end Go.Proofs.Ytogplpcamiicgaa
