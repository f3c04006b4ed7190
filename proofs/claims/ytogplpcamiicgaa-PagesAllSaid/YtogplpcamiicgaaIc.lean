/- The code of functions, as the abstract evaluator reads it. Printed by gen_ic.py. -/
import Derived.Test.YtogplpcamiicgaaProg
import Derived.Test.YtogplpcamiicgaaLA3
namespace Go.Proofs.Ytogplpcamiicgaa
open Go.RowKit Go.Bo Go.Ab
/-- bothy/bothylaw38.PagesNone -/
def i4 : IFn := ⟨53, [.tmp 2], (.seq (.reg [⟨some 1, .box (.t 0), none⟩, ⟨some 2, .mv (.c (.x (.bool false))), none⟩])
  (.seq (.reg [⟨some 3, .mv (.c (.x .nilp)), none⟩])
  (.seq (.reg [⟨some 10, .mv (.t 3), none⟩, ⟨some 11, .call (.c (.fn 14 [])) [(.c (.x (.int .i64 (1))))], none⟩, ⟨some 12, .call (.c (.fn 15 [])) [(.t 10), (.t 11)], none⟩, ⟨some 9, .mv (.t 12), none⟩, ⟨some 13, .ext (.t 9) 0, none⟩, ⟨some 14, .ext (.t 9) 1, none⟩, ⟨some 4, .mv (.t 13), none⟩, ⟨some 5, .mv (.t 14), none⟩])
  (.seq (.reg [⟨some 16, .mv (.t 3), none⟩, ⟨some 17, .fad 1 (.t 1), none⟩, ⟨some 18, .ld 1 false (.t 17), none⟩, ⟨some 19, .fad 2 (.t 1), none⟩, ⟨some 20, .ld 1 false (.t 19), none⟩, ⟨some 21, .call (.c (.fn 21 [])) [(.t 16), (.t 18), (.t 20)], none⟩, ⟨some 15, .mv (.t 21), none⟩, ⟨some 22, .ext (.t 15) 0, none⟩, ⟨some 23, .ext (.t 15) 1, none⟩, ⟨some 24, .ext (.t 15) 2, none⟩, ⟨some 6, .mv (.t 22), none⟩, ⟨some 7, .mv (.t 23), none⟩, ⟨some 8, .mv (.t 24), none⟩])
  (.seq (.reg [⟨some 25, .mv (.t 4), none⟩, ⟨some 26, .mv (.t 7), none⟩, ⟨some 27, .bin .add (.t 25) (.t 26), none⟩, ⟨some 28, .mv (.t 6), none⟩, ⟨some 29, .len false (.t 28), none⟩, ⟨some 30, .bin .add (.t 27) (.t 29), none⟩, ⟨some 31, .mv (.t 3), none⟩, ⟨some 32, .call (.c (.fn 20 [])) [(.t 31)], none⟩, ⟨some 33, .bin .add (.t 30) (.t 32), none⟩, ⟨some 34, .bin .eql (.t 33) (.c (.x (.int .i64 (0)))), none⟩, ⟨some 35, .mv (.t 34), none⟩, ⟨some 36, .mv (.t 5), (some (35, true))⟩, ⟨some 37, .un .not (.t 36), (some (35, true))⟩, ⟨some 38, .pick (.t 35) (.t 37) (.c (.x (.bool false))), none⟩, ⟨some 39, .mv (.t 38), none⟩, ⟨some 40, .mv (.t 8), (some (39, true))⟩, ⟨some 41, .bin .eql (.t 40) (.c (.x (.int .i64 (12)))), (some (39, true))⟩, ⟨some 42, .pick (.t 39) (.t 41) (.c (.x (.bool false))), none⟩, ⟨some 43, .mv (.t 42), none⟩, ⟨some 44, .mv (.t 3), (some (43, true))⟩, ⟨some 45, .fad 1 (.t 1), (some (43, true))⟩, ⟨some 46, .ld 1 false (.t 45), (some (43, true))⟩, ⟨some 47, .call (.c (.fn 18 [])) [(.t 44), (.t 46)], (some (43, true))⟩, ⟨some 48, .un .not (.t 47), (some (43, true))⟩, ⟨some 49, .pick (.t 43) (.t 48) (.c (.x (.bool false))), none⟩, ⟨some 50, .mv (.t 49), none⟩, ⟨some 51, .call (.c (.fn 12 [])) [], (some (50, true))⟩, ⟨some 52, .pick (.t 50) (.t 51) (.c (.x (.bool false))), none⟩, ⟨some 2, .mv (.t 52), none⟩])
  .ret)))))⟩
theorem c4 : compFn Try.prog Try.f4 = some i4 := by kernel_rfl
/-- bothy/bothylaw38.PagesAll -/
def i5 : IFn := ⟨117, [.tmp 4], (.seq (.reg [⟨some 4, .mv (.c (.x (.bool false))), none⟩])
  (.seq (.reg [⟨some 17, .call (.c (.fn 13 [])) [(.c (.x (.int .i64 (4))))], none⟩, ⟨some 16, .mv (.t 17), none⟩, ⟨some 18, .ext (.t 16) 0, none⟩, ⟨some 19, .ext (.t 16) 1, none⟩, ⟨some 5, .mv (.t 18), none⟩, ⟨some 6, .mv (.t 19), none⟩])
  (.seq (.seq (.reg [⟨some 20, .mv (.t 5), none⟩, ⟨some 21, .eq .ptr false (.t 20) (.c (.x .nilp)), none⟩, ⟨some 22, .mv (.t 21), none⟩, ⟨some 23, .mv (.t 1), (some (22, false))⟩, ⟨some 24, .len false (.t 23), (some (22, false))⟩, ⟨some 25, .bin .gtr (.t 24) (.c (.x (.int .i64 (100)))), (some (22, false))⟩, ⟨some 26, .pick (.t 22) (.c (.x (.bool true))) (.t 25), none⟩])
  (.cond (.t 26)
    (.seq (.reg [⟨some 27, .mv (.t 5), none⟩, ⟨some 28, .eq .ptr true (.t 27) (.c (.x .nilp)), none⟩, ⟨some 29, .mv (.t 28), none⟩, ⟨some 30, .call (.c (.fn 12 [])) [], (some (29, true))⟩, ⟨some 31, .pick (.t 29) (.t 30) (.c (.x (.bool false))), none⟩, ⟨some 4, .mv (.t 31), none⟩])
    .ret)
    .skip))
  (.seq (.reg [⟨some 32, .mv (.t 0), none⟩, ⟨some 33, .cvi .i64 (.t 32), none⟩, ⟨some 34, .call (.c (.fn 14 [])) [(.t 33)], none⟩, ⟨some 7, .mv (.t 34), none⟩])
  (.seq (.reg [⟨some 36, .mv (.t 5), none⟩, ⟨some 37, .mv (.t 7), none⟩, ⟨some 38, .call (.c (.fn 15 [])) [(.t 36), (.t 37)], none⟩, ⟨some 35, .mv (.t 38), none⟩, ⟨some 39, .ext (.t 35) 0, none⟩, ⟨some 40, .ext (.t 35) 1, none⟩, ⟨some 8, .mv (.t 39), none⟩, ⟨some 9, .mv (.t 40), none⟩])
  (.seq (.seq (.reg [⟨some 41, .mv (.t 9), none⟩, ⟨some 42, .un .not (.t 41), none⟩])
  (.cond (.t 42)
    (.seq (.reg [⟨some 43, .mv (.t 0), none⟩, ⟨some 44, .bin .eql (.t 43) (.c (.x (.int .u8 (0)))), none⟩, ⟨some 45, .mv (.t 44), none⟩, ⟨some 46, .call (.c (.fn 12 [])) [], (some (45, true))⟩, ⟨some 47, .pick (.t 45) (.t 46) (.c (.x (.bool false))), none⟩, ⟨some 4, .mv (.t 47), none⟩])
    .ret)
    .skip))
  (.seq (.reg [⟨some 10, .mv (.c (.x (.int .i64 (0)))), none⟩])
  (.seq (.seq (.reg [⟨some 11, .mv (.c (.x (.int .i64 (0)))), none⟩])
  (.block 0
    (.loop
      (.seq (.seq (.reg [⟨some 48, .mv (.t 11), none⟩, ⟨some 49, .mv (.t 1), none⟩, ⟨some 50, .len false (.t 49), none⟩, ⟨some 51, .bin .lss (.t 48) (.t 50), none⟩, ⟨some 52, .mv (.t 51), none⟩, ⟨some 53, .mv (.t 8), (some (52, true))⟩, ⟨some 54, .bin .neq (.t 53) (.c (.x (.int .i64 (0)))), (some (52, true))⟩, ⟨some 55, .pick (.t 52) (.t 54) (.c (.x (.bool false))), none⟩])
      (.cond (.t 55)
        .skip
        (.exit 0)))
      (.seq (.block 1
        (.seq (.reg [⟨some 59, .mv (.t 5), none⟩, ⟨some 60, .mv (.t 8), none⟩, ⟨some 61, .mv (.t 1), none⟩, ⟨some 62, .mv (.t 11), none⟩, ⟨some 63, .iad 1 (.t 61) (.t 62), none⟩, ⟨some 64, .ld 1 false (.t 63), none⟩, ⟨some 65, .bin .rem (.t 64) (.c (.x (.int .u8 (20)))), none⟩, ⟨some 66, .cvi .i64 (.t 65), none⟩, ⟨some 67, .bin .add (.t 66) (.c (.x (.int .i64 (1)))), none⟩, ⟨some 68, .call (.c (.fn 21 [])) [(.t 59), (.t 60), (.t 67)], none⟩, ⟨some 58, .mv (.t 68), none⟩, ⟨some 69, .ext (.t 58) 0, none⟩, ⟨some 70, .ext (.t 58) 1, none⟩, ⟨some 71, .ext (.t 58) 2, none⟩, ⟨some 12, .mv (.t 69), none⟩, ⟨some 13, .mv (.t 70), none⟩, ⟨some 14, .mv (.t 71), none⟩])
        (.seq (.seq (.reg [⟨some 72, .mv (.t 14), none⟩, ⟨some 73, .bin .neq (.t 72) (.c (.x (.int .i64 (0)))), none⟩, ⟨some 74, .mv (.t 73), none⟩, ⟨some 75, .mv (.t 12), (some (74, false))⟩, ⟨some 76, .len false (.t 75), (some (74, false))⟩, ⟨some 77, .mv (.t 7), (some (74, false))⟩, ⟨some 78, .len false (.t 77), (some (74, false))⟩, ⟨some 79, .mv (.t 10), (some (74, false))⟩, ⟨some 80, .bin .sub (.t 78) (.t 79), (some (74, false))⟩, ⟨some 81, .bin .gtr (.t 76) (.t 80), (some (74, false))⟩, ⟨some 82, .pick (.t 74) (.c (.x (.bool true))) (.t 81), none⟩])
        (.cond (.t 82)
          (.seq (.reg [⟨some 4, .mv (.c (.x (.bool false))), none⟩])
          .ret)
          .skip))
        (.seq (.seq (.reg [⟨some 15, .mv (.c (.x (.int .i64 (0)))), none⟩])
        (.block 2
          (.loop
            (.seq (.seq (.reg [⟨some 83, .mv (.t 15), none⟩, ⟨some 84, .mv (.t 12), none⟩, ⟨some 85, .len false (.t 84), none⟩, ⟨some 86, .bin .lss (.t 83) (.t 85), none⟩])
            (.cond (.t 86)
              .skip
              (.exit 2)))
            (.seq (.block 3
              (.seq (.dreg 12 [] [⟨some 89, .mv (.t 12), none⟩, ⟨some 90, .mv (.t 15), none⟩, ⟨some 91, .iad 2 (.t 89) (.t 90), none⟩, ⟨some 92, .fad 0 (.t 91), none⟩, ⟨some 93, .ld 1 false (.t 92), none⟩, ⟨some 94, .mv (.t 7), none⟩, ⟨some 95, .mv (.t 10), none⟩, ⟨some 96, .mv (.t 15), none⟩, ⟨some 97, .bin .add (.t 95) (.t 96), none⟩, ⟨some 98, .iad 2 (.t 94) (.t 97), none⟩, ⟨some 99, .fad 0 (.t 98), none⟩, ⟨some 100, .ld 1 false (.t 99), none⟩, ⟨some 101, .bin .neq (.t 93) (.t 100), none⟩])
              (.cond (.t 101)
                (.seq (.reg [⟨some 4, .mv (.c (.x (.bool false))), none⟩])
                .ret)
                .skip)))
            (.reg [⟨some 87, .mv (.t 15), none⟩, ⟨some 88, .bin .add (.t 87) (.c (.x (.int .i64 (1)))), none⟩, ⟨some 15, .mv (.t 88), none⟩]))))))
        (.seq (.reg [⟨some 102, .mv (.t 10), none⟩, ⟨some 103, .mv (.t 12), none⟩, ⟨some 104, .len false (.t 103), none⟩, ⟨some 105, .bin .add (.t 102) (.t 104), none⟩, ⟨some 10, .mv (.t 105), none⟩])
        (.reg [⟨some 106, .mv (.t 13), none⟩, ⟨some 8, .mv (.t 106), none⟩]))))))
      (.reg [⟨some 56, .mv (.t 11), none⟩, ⟨some 57, .bin .add (.t 56) (.c (.x (.int .i64 (1)))), none⟩, ⟨some 11, .mv (.t 57), none⟩]))))))
  (.seq (.reg [⟨some 107, .mv (.t 8), none⟩, ⟨some 108, .bin .eql (.t 107) (.c (.x (.int .i64 (0)))), none⟩, ⟨some 109, .mv (.t 10), none⟩, ⟨some 110, .mv (.t 7), none⟩, ⟨some 111, .len false (.t 110), none⟩, ⟨some 112, .bin .eql (.t 109) (.t 111), none⟩, ⟨some 113, .eq .bool false (.t 108) (.t 112), none⟩, ⟨some 114, .mv (.t 113), none⟩, ⟨some 115, .call (.c (.fn 12 [])) [], (some (114, true))⟩, ⟨some 116, .pick (.t 114) (.t 115) (.c (.x (.bool false))), none⟩, ⟨some 4, .mv (.t 116), none⟩])
  .ret)))))))))⟩
theorem c5 : compFn Try.prog Try.f5 = some i5 := by kernel_rfl
/-- bothy/bothylaw38.awake -/
def i12 : IFn := ⟨118, [.tmp 0], (.seq (.reg [⟨some 0, .mv (.c (.x (.bool false))), none⟩])
  (.seq (.reg [⟨some 19, .call (.c (.fn 13 [])) [(.c (.x (.int .i64 (1))))], none⟩, ⟨some 18, .mv (.t 19), none⟩, ⟨some 20, .ext (.t 18) 0, none⟩, ⟨some 21, .ext (.t 18) 1, none⟩, ⟨some 1, .mv (.t 20), none⟩, ⟨some 2, .mv (.t 21), none⟩])
  (.seq (.reg [⟨some 23, .call (.c (.fn 13 [])) [(.c (.x (.int .i64 (0))))], none⟩, ⟨some 22, .mv (.t 23), none⟩, ⟨some 24, .ext (.t 22) 0, none⟩, ⟨some 25, .ext (.t 22) 1, none⟩, ⟨some 3, .mv (.t 24), none⟩, ⟨some 4, .mv (.t 25), none⟩])
  (.seq (.seq (.reg [⟨some 26, .mv (.t 1), none⟩, ⟨some 27, .eq .ptr false (.t 26) (.c (.x .nilp)), none⟩])
  (.cond (.t 27)
    (.seq (.reg [⟨some 0, .mv (.c (.x (.bool false))), none⟩])
    .ret)
    .skip))
  (.seq (.reg [⟨some 29, .mv (.t 1), none⟩, ⟨some 30, .call (.c (.fn 14 [])) [(.c (.x (.int .i64 (3))))], none⟩, ⟨some 31, .call (.c (.fn 15 [])) [(.t 29), (.t 30)], none⟩, ⟨some 28, .mv (.t 31), none⟩, ⟨some 32, .ext (.t 28) 0, none⟩, ⟨some 33, .ext (.t 28) 1, none⟩, ⟨some 5, .mv (.t 32), none⟩, ⟨some 6, .mv (.t 33), none⟩])
  (.seq (.reg [⟨some 35, .mv (.t 1), none⟩, ⟨some 36, .call (.c (.fn 14 [])) [(.c (.x (.int .i64 (1))))], none⟩, ⟨some 37, .call (.c (.fn 15 [])) [(.t 35), (.t 36)], none⟩, ⟨some 34, .mv (.t 37), none⟩, ⟨some 38, .ext (.t 34) 0, none⟩, ⟨some 39, .ext (.t 34) 1, none⟩, ⟨some 7, .mv (.t 38), none⟩, ⟨some 8, .mv (.t 39), none⟩])
  (.seq (.reg [⟨some 41, .mv (.t 1), none⟩, ⟨some 42, .mv (.t 5), none⟩, ⟨some 43, .call (.c (.fn 21 [])) [(.t 41), (.t 42), (.c (.x (.int .i64 (2))))], none⟩, ⟨some 40, .mv (.t 43), none⟩, ⟨some 44, .ext (.t 40) 0, none⟩, ⟨some 45, .ext (.t 40) 1, none⟩, ⟨some 46, .ext (.t 40) 2, none⟩, ⟨some 9, .mv (.t 44), none⟩, ⟨some 10, .mv (.t 45), none⟩, ⟨some 11, .mv (.t 46), none⟩])
  (.seq (.reg [⟨some 48, .mv (.t 1), none⟩, ⟨some 49, .mv (.t 5), none⟩, ⟨some 50, .call (.c (.fn 21 [])) [(.t 48), (.t 49), (.c (.x (.int .i64 (2))))], none⟩, ⟨some 47, .mv (.t 50), none⟩, ⟨some 51, .ext (.t 47) 0, none⟩, ⟨some 52, .ext (.t 47) 1, none⟩, ⟨some 53, .ext (.t 47) 2, none⟩, ⟨some 12, .mv (.t 51), none⟩, ⟨some 13, .mv (.t 52), none⟩, ⟨some 14, .mv (.t 53), none⟩])
  (.seq (.reg [⟨some 55, .mv (.t 1), none⟩, ⟨some 56, .mv (.t 5), none⟩, ⟨some 57, .call (.c (.fn 21 [])) [(.t 55), (.t 56), (.c (.x (.int .i64 (2))))], none⟩, ⟨some 54, .mv (.t 57), none⟩, ⟨some 58, .ext (.t 54) 0, none⟩, ⟨some 59, .ext (.t 54) 1, none⟩, ⟨some 60, .ext (.t 54) 2, none⟩, ⟨some 15, .mv (.t 58), none⟩, ⟨some 16, .mv (.t 59), none⟩, ⟨some 17, .mv (.t 60), none⟩])
  (.seq (.reg [⟨some 61, .mv (.t 2), none⟩, ⟨some 62, .bin .eql (.t 61) (.c (.x (.int .i64 (0)))), none⟩, ⟨some 63, .mv (.t 62), none⟩, ⟨some 64, .mv (.t 4), (some (63, true))⟩, ⟨some 65, .bin .eql (.t 64) (.c (.x (.int .i64 (1)))), (some (63, true))⟩, ⟨some 66, .pick (.t 63) (.t 65) (.c (.x (.bool false))), none⟩, ⟨some 67, .mv (.t 66), none⟩, ⟨some 68, .mv (.t 5), (some (67, true))⟩, ⟨some 69, .bin .eql (.t 68) (.c (.x (.int .i64 (1)))), (some (67, true))⟩, ⟨some 70, .pick (.t 67) (.t 69) (.c (.x (.bool false))), none⟩, ⟨some 71, .mv (.t 70), none⟩, ⟨some 72, .mv (.t 6), (some (71, true))⟩, ⟨some 73, .pick (.t 71) (.t 72) (.c (.x (.bool false))), none⟩, ⟨some 74, .mv (.t 73), none⟩, ⟨some 75, .mv (.t 8), (some (74, true))⟩, ⟨some 76, .un .not (.t 75), (some (74, true))⟩, ⟨some 77, .pick (.t 74) (.t 76) (.c (.x (.bool false))), none⟩, ⟨some 78, .mv (.t 77), none⟩, ⟨some 79, .mv (.t 9), (some (78, true))⟩, ⟨some 80, .len false (.t 79), (some (78, true))⟩, ⟨some 81, .bin .eql (.t 80) (.c (.x (.int .i64 (2)))), (some (78, true))⟩, ⟨some 82, .pick (.t 78) (.t 81) (.c (.x (.bool false))), none⟩, ⟨some 83, .mv (.t 82), none⟩, ⟨some 84, .mv (.t 10), (some (83, true))⟩, ⟨some 85, .bin .eql (.t 84) (.c (.x (.int .i64 (1)))), (some (83, true))⟩, ⟨some 86, .pick (.t 83) (.t 85) (.c (.x (.bool false))), none⟩, ⟨some 87, .mv (.t 86), none⟩, ⟨some 88, .mv (.t 11), (some (87, true))⟩, ⟨some 89, .bin .eql (.t 88) (.c (.x (.int .i64 (0)))), (some (87, true))⟩, ⟨some 90, .pick (.t 87) (.t 89) (.c (.x (.bool false))), none⟩, ⟨some 91, .mv (.t 90), none⟩, ⟨some 92, .mv (.t 12), (some (91, true))⟩, ⟨some 93, .len false (.t 92), (some (91, true))⟩, ⟨some 94, .bin .eql (.t 93) (.c (.x (.int .i64 (1)))), (some (91, true))⟩, ⟨some 95, .pick (.t 91) (.t 94) (.c (.x (.bool false))), none⟩, ⟨some 96, .mv (.t 95), none⟩, ⟨some 97, .mv (.t 13), (some (96, true))⟩, ⟨some 98, .bin .eql (.t 97) (.c (.x (.int .i64 (0)))), (some (96, true))⟩, ⟨some 99, .pick (.t 96) (.t 98) (.c (.x (.bool false))), none⟩, ⟨some 100, .mv (.t 99), none⟩, ⟨some 101, .mv (.t 14), (some (100, true))⟩, ⟨some 102, .bin .eql (.t 101) (.c (.x (.int .i64 (0)))), (some (100, true))⟩, ⟨some 103, .pick (.t 100) (.t 102) (.c (.x (.bool false))), none⟩, ⟨some 104, .mv (.t 103), none⟩, ⟨some 105, .mv (.t 17), (some (104, true))⟩, ⟨some 106, .bin .eql (.t 105) (.c (.x (.int .i64 (8)))), (some (104, true))⟩, ⟨some 107, .pick (.t 104) (.t 106) (.c (.x (.bool false))), none⟩, ⟨some 108, .mv (.t 107), none⟩, ⟨some 109, .mv (.t 1), (some (108, true))⟩, ⟨some 110, .call (.c (.fn 20 [])) [(.t 109)], (some (108, true))⟩, ⟨some 111, .bin .eql (.t 110) (.c (.x (.int .i64 (0)))), (some (108, true))⟩, ⟨some 112, .pick (.t 108) (.t 111) (.c (.x (.bool false))), none⟩, ⟨some 113, .mv (.t 112), none⟩, ⟨some 114, .mv (.t 1), (some (113, true))⟩, ⟨some 115, .call (.c (.fn 18 [])) [(.t 114), (.c (.x (.int .i64 (1))))], (some (113, true))⟩, ⟨some 116, .un .not (.t 115), (some (113, true))⟩, ⟨some 117, .pick (.t 113) (.t 116) (.c (.x (.bool false))), none⟩, ⟨some 0, .mv (.t 117), none⟩])
  .ret))))))))))⟩
theorem c12 : compFn Try.prog Try.f12 = some i12 := by kernel_rfl
/-- bothy/pages.New -/
def i13 : IFn := ⟨14, [.tmp 2, .tmp 3], (.seq (.reg [⟨some 2, .mv (.c (.x .nilp)), none⟩, ⟨some 3, .mv (.c (.x (.int .i64 (0)))), none⟩])
  (.seq (.seq (.reg [⟨some 4, .mv (.t 0), none⟩, ⟨some 5, .bin .lss (.t 4) (.c (.x (.int .i64 (1)))), none⟩, ⟨some 6, .mv (.t 5), none⟩, ⟨some 7, .mv (.t 0), (some (6, false))⟩, ⟨some 8, .bin .gtr (.t 7) (.c (.x (.int .i64 (1024)))), (some (6, false))⟩, ⟨some 9, .pick (.t 6) (.c (.x (.bool true))) (.t 8), none⟩])
  (.cond (.t 9)
    (.seq (.reg [⟨some 2, .mv (.c (.x .nilp)), none⟩, ⟨some 3, .mv (.c (.x (.int .i64 (1)))), none⟩])
    .ret)
    .skip))
  (.seq (.reg [⟨some 10, .mkm (some .i64) false, none⟩, ⟨some 11, .mv (.t 0), none⟩, ⟨some 12, .build [.und, .x (.int .i64 (0)), .x (.int .i64 (0))] [(0, 1, (.t 10)), (1, 1, (.t 11))], none⟩, ⟨some 13, .box (.t 12), none⟩, ⟨some 2, .mv (.t 13), none⟩, ⟨some 3, .mv (.c (.x (.int .i64 (0)))), none⟩])
  .ret)))⟩
theorem c13 : compFn Try.prog Try.f13 = some i13 := by kernel_rfl
/-- bothy/bothylaw38.some -/
def i14 : IFn := ⟨21, [.tmp 2], (.seq (.reg [⟨some 2, .mv (.c (.x .nils)), none⟩])
  (.seq (.reg [⟨some 3, .mv (.c (.x .nils)), none⟩])
  (.seq (.seq (.reg [⟨some 4, .mv (.c (.x (.int .i64 (0)))), none⟩])
  (.block 0
    (.loop
      (.seq (.seq (.reg [⟨some 5, .mv (.t 4), none⟩, ⟨some 6, .mv (.t 0), none⟩, ⟨some 7, .bin .lss (.t 5) (.t 6), none⟩])
      (.cond (.t 7)
        .skip
        (.exit 0)))
      (.seq (.block 1
        (.reg [⟨some 10, .mv (.t 3), none⟩, ⟨some 11, .mv (.t 4), none⟩, ⟨some 12, .bin .rem (.t 11) (.c (.x (.int .i64 (26)))), none⟩, ⟨some 13, .bin .add (.c (.x (.int .i64 (97)))) (.t 12), none⟩, ⟨some 14, .cvi .u8 (.t 13), none⟩, ⟨some 15, .bsl 5 1 1 [(.t 14)], none⟩, ⟨some 16, .b2s (.t 15), none⟩, ⟨some 17, .build [.x (.str []), .x .nils] [(0, 1, (.t 16))], none⟩, ⟨some 18, .bsl 38 2 1 [(.t 17)], none⟩, ⟨some 19, .app 38 2 40 (.t 10) (.t 18), none⟩, ⟨some 3, .mv (.t 19), none⟩]))
      (.reg [⟨some 8, .mv (.t 4), none⟩, ⟨some 9, .bin .add (.t 8) (.c (.x (.int .i64 (1)))), none⟩, ⟨some 4, .mv (.t 9), none⟩]))))))
  (.seq (.reg [⟨some 20, .mv (.t 3), none⟩, ⟨some 2, .mv (.t 20), none⟩])
  .ret))))⟩
theorem c14 : compFn Try.prog Try.f14 = some i14 := by kernel_rfl
/-- (*bothy/pages.Pager).Begin -/
def i15 : IFn := ⟨46, [.tmp 4, .tmp 5], (.seq (.reg [⟨some 4, .mv (.c (.x (.int .i64 (0)))), none⟩, ⟨some 5, .mv (.c (.x (.bool false))), none⟩])
  (.seq (.seq (.dreg 17 [] [⟨some 6, .mv (.t 0), none⟩, ⟨some 7, .eq .ptr false (.t 6) (.c (.x .nilp)), none⟩, ⟨some 8, .mv (.t 7), none⟩, ⟨some 9, .mv (.t 1), (some (8, false))⟩, ⟨some 10, .len false (.t 9), (some (8, false))⟩, ⟨some 11, .bin .eql (.t 10) (.c (.x (.int .i64 (0)))), (some (8, false))⟩, ⟨some 12, .pick (.t 8) (.c (.x (.bool true))) (.t 11), none⟩, ⟨some 13, .mv (.t 12), none⟩, ⟨some 14, .mv (.t 0), (some (13, false))⟩, ⟨some 15, .nck (.t 14), (some (13, false))⟩, ⟨some 16, .fad 0 (.t 15), (some (13, false))⟩, ⟨some 17, .ld 1 false (.t 16), (some (13, false))⟩, ⟨some 18, .mln (.t 17), (some (13, false))⟩, ⟨some 19, .mv (.t 0), (some (13, false))⟩, ⟨some 20, .nck (.t 19), (some (13, false))⟩, ⟨some 21, .fad 1 (.t 20), (some (13, false))⟩, ⟨some 22, .ld 1 false (.t 21), (some (13, false))⟩, ⟨some 23, .bin .geq (.t 18) (.t 22), (some (13, false))⟩, ⟨some 24, .pick (.t 13) (.c (.x (.bool true))) (.t 23), none⟩])
  (.cond (.t 24)
    (.seq (.reg [⟨some 4, .mv (.c (.x (.int .i64 (0)))), none⟩, ⟨some 5, .mv (.c (.x (.bool false))), none⟩])
    .ret)
    .skip))
  (.seq (.reg [⟨some 25, .mv (.t 0), none⟩, ⟨some 26, .nck (.t 25), none⟩, ⟨some 27, .fad 2 (.t 26), none⟩, ⟨some 28, .ld 1 false (.t 27), none⟩, ⟨some 29, .bin .add (.t 28) (.c (.x (.int .i64 (1)))), none⟩, ⟨some 30, .nck (.t 25), none⟩, ⟨some 31, .fad 2 (.t 30), none⟩, ⟨none, .sto 1 (.t 31) (.t 29), none⟩])
  (.seq (.dreg 10 [] [⟨some 32, .mv (.t 0), none⟩, ⟨some 33, .nck (.t 32), none⟩, ⟨some 34, .fad 0 (.t 33), none⟩, ⟨some 35, .ld 1 false (.t 34), none⟩, ⟨some 36, .mv (.t 0), none⟩, ⟨some 37, .nck (.t 36), none⟩, ⟨some 38, .fad 2 (.t 37), none⟩, ⟨some 39, .ld 1 false (.t 38), none⟩, ⟨some 40, .mv (.t 1), none⟩, ⟨some 41, .call (.c (.fn 32 [])) [(.t 40)], none⟩, ⟨none, .mup (some .i64) (.t 35) (.t 39) (.t 41), none⟩])
  (.seq (.reg [⟨some 42, .mv (.t 0), none⟩, ⟨some 43, .nck (.t 42), none⟩, ⟨some 44, .fad 2 (.t 43), none⟩, ⟨some 45, .ld 1 false (.t 44), none⟩, ⟨some 4, .mv (.t 45), none⟩, ⟨some 5, .mv (.c (.x (.bool true))), none⟩])
  .ret)))))⟩
theorem c15 : compFn Try.prog Try.f15 = some i15 := by kernel_rfl
/-- (*bothy/pages.Pager).Drop -/
def i18 : IFn := ⟨24, [.tmp 4], (.seq (.reg [⟨some 4, .mv (.c (.x (.bool false))), none⟩])
  (.seq (.seq (.reg [⟨some 7, .mv (.t 0), none⟩, ⟨some 8, .eq .ptr false (.t 7) (.c (.x .nilp)), none⟩])
  (.cond (.t 8)
    (.seq (.reg [⟨some 4, .mv (.c (.x (.bool false))), none⟩])
    .ret)
    .skip))
  (.seq (.reg [⟨some 10, .mv (.t 0), none⟩, ⟨some 11, .nck (.t 10), none⟩, ⟨some 12, .fad 0 (.t 11), none⟩, ⟨some 13, .ld 1 false (.t 12), none⟩, ⟨some 14, .mv (.t 1), none⟩, ⟨some 15, .mlk (some .i64) true (.x .nils) (.t 13) (.t 14), none⟩, ⟨some 9, .mv (.t 15), none⟩, ⟨some 16, .ext (.t 9) 0, none⟩, ⟨some 17, .ext (.t 9) 1, none⟩, ⟨some 5, .mv (.t 16), none⟩, ⟨some 6, .mv (.t 17), none⟩])
  (.seq (.reg [⟨some 18, .mv (.t 0), none⟩, ⟨some 19, .nck (.t 18), none⟩, ⟨some 20, .fad 0 (.t 19), none⟩, ⟨some 21, .ld 1 false (.t 20), none⟩, ⟨some 22, .mv (.t 1), none⟩, ⟨none, .mdl (some .i64) (.t 21) (.t 22), none⟩])
  (.seq (.reg [⟨some 23, .mv (.t 6), none⟩, ⟨some 4, .mv (.t 23), none⟩])
  .ret)))))⟩
theorem c18 : compFn Try.prog Try.f18 = some i18 := by kernel_rfl
/-- (*bothy/pages.Pager).Len -/
def i20 : IFn := ⟨10, [.tmp 2], (.seq (.reg [⟨some 2, .mv (.c (.x (.int .i64 (0)))), none⟩])
  (.seq (.seq (.reg [⟨some 3, .mv (.t 0), none⟩, ⟨some 4, .eq .ptr false (.t 3) (.c (.x .nilp)), none⟩])
  (.cond (.t 4)
    (.seq (.reg [⟨some 2, .mv (.c (.x (.int .i64 (0)))), none⟩])
    .ret)
    .skip))
  (.seq (.reg [⟨some 5, .mv (.t 0), none⟩, ⟨some 6, .nck (.t 5), none⟩, ⟨some 7, .fad 0 (.t 6), none⟩, ⟨some 8, .ld 1 false (.t 7), none⟩, ⟨some 9, .mln (.t 8), none⟩, ⟨some 2, .mv (.t 9), none⟩])
  .ret)))⟩
theorem c20 : compFn Try.prog Try.f20 = some i20 := by kernel_rfl
/-- (*bothy/pages.Pager).Next -/
def i21 : IFn := ⟨59, [.tmp 6, .tmp 7, .tmp 8], (.seq (.reg [⟨some 6, .mv (.c (.x .nils)), none⟩, ⟨some 7, .mv (.c (.x (.int .i64 (0)))), none⟩, ⟨some 8, .mv (.c (.x (.int .i64 (0)))), none⟩])
  (.seq (.block 0
    (.seq (.reg [⟨some 12, .mv (.t 0), none⟩, ⟨some 13, .eq .ptr false (.t 12) (.c (.x .nilp)), none⟩, ⟨some 11, .mv (.t 13), none⟩])
    (.cond (.t 11)
      (.seq (.reg [⟨some 6, .mv (.c (.x .nils)), none⟩, ⟨some 7, .mv (.c (.x (.int .i64 (0)))), none⟩, ⟨some 8, .mv (.c (.x (.int .i64 (12)))), none⟩])
      .ret)
      (.seq (.reg [⟨some 15, .mv (.t 2), none⟩, ⟨some 16, .bin .lss (.t 15) (.c (.x (.int .i64 (1)))), none⟩, ⟨some 17, .mv (.t 16), none⟩, ⟨some 18, .mv (.t 2), (some (17, false))⟩, ⟨some 19, .bin .gtr (.t 18) (.c (.x (.int .i64 (1024)))), (some (17, false))⟩, ⟨some 20, .pick (.t 17) (.c (.x (.bool true))) (.t 19), none⟩, ⟨some 14, .mv (.t 20), none⟩])
      (.cond (.t 14)
        (.seq (.reg [⟨some 6, .mv (.c (.x .nils)), none⟩, ⟨some 7, .mv (.c (.x (.int .i64 (0)))), none⟩, ⟨some 8, .mv (.c (.x (.int .i64 (2)))), none⟩])
        .ret)
        .skip)))))
  (.seq (.reg [⟨some 22, .mv (.t 0), none⟩, ⟨some 23, .nck (.t 22), none⟩, ⟨some 24, .fad 0 (.t 23), none⟩, ⟨some 25, .ld 1 false (.t 24), none⟩, ⟨some 26, .mv (.t 1), none⟩, ⟨some 27, .mlk (some .i64) true (.x .nils) (.t 25) (.t 26), none⟩, ⟨some 21, .mv (.t 27), none⟩, ⟨some 28, .ext (.t 21) 0, none⟩, ⟨some 29, .ext (.t 21) 1, none⟩, ⟨some 9, .mv (.t 28), none⟩, ⟨some 10, .mv (.t 29), none⟩])
  (.seq (.seq (.reg [⟨some 30, .mv (.t 10), none⟩, ⟨some 31, .un .not (.t 30), none⟩])
  (.cond (.t 31)
    (.seq (.reg [⟨some 6, .mv (.c (.x .nils)), none⟩, ⟨some 7, .mv (.c (.x (.int .i64 (0)))), none⟩, ⟨some 8, .mv (.c (.x (.int .i64 (8)))), none⟩])
    .ret)
    .skip))
  (.seq (.reg [⟨some 32, .mv (.t 2), none⟩, ⟨some 33, .mv (.t 9), none⟩, ⟨some 34, .len false (.t 33), none⟩, ⟨some 35, .mnx false (.t 32) (.t 34), none⟩, ⟨some 2, .mv (.t 35), none⟩])
  (.seq (.seq (.reg [⟨some 36, .mv (.t 2), none⟩, ⟨some 37, .mv (.t 9), none⟩, ⟨some 38, .len false (.t 37), none⟩, ⟨some 39, .bin .eql (.t 36) (.t 38), none⟩])
  (.cond (.t 39)
    (.seq (.reg [⟨some 40, .mv (.t 0), none⟩, ⟨some 41, .nck (.t 40), none⟩, ⟨some 42, .fad 0 (.t 41), none⟩, ⟨some 43, .ld 1 false (.t 42), none⟩, ⟨some 44, .mv (.t 1), none⟩, ⟨none, .mdl (some .i64) (.t 43) (.t 44), none⟩])
    (.seq (.reg [⟨some 45, .mv (.t 9), none⟩, ⟨some 6, .mv (.t 45), none⟩, ⟨some 7, .mv (.c (.x (.int .i64 (0)))), none⟩, ⟨some 8, .mv (.c (.x (.int .i64 (0)))), none⟩])
    .ret))
    .skip))
  (.seq (.dreg 8 [] [⟨some 46, .mv (.t 0), none⟩, ⟨some 47, .nck (.t 46), none⟩, ⟨some 48, .fad 0 (.t 47), none⟩, ⟨some 49, .ld 1 false (.t 48), none⟩, ⟨some 50, .mv (.t 1), none⟩, ⟨some 51, .mv (.t 9), none⟩, ⟨some 52, .mv (.t 2), none⟩, ⟨some 53, .slc 2 (.t 51) (some (.t 52)) none none, none⟩, ⟨none, .mup (some .i64) (.t 49) (.t 50) (.t 53), none⟩])
  (.seq (.reg [⟨some 54, .mv (.t 9), none⟩, ⟨some 55, .mv (.t 2), none⟩, ⟨some 56, .slc 2 (.t 54) none (some (.t 55)) none, none⟩, ⟨some 57, .call (.c (.fn 32 [])) [(.t 56)], none⟩, ⟨some 58, .mv (.t 1), none⟩, ⟨some 6, .mv (.t 57), none⟩, ⟨some 7, .mv (.t 58), none⟩, ⟨some 8, .mv (.c (.x (.int .i64 (0)))), none⟩])
  .ret))))))))⟩
theorem c21 : compFn Try.prog Try.f21 = some i21 := by kernel_rfl
/-- slices.Clone[[]bothy/api.Entry,bothy/api.Entry] -/
def i32 : IFn := ⟨8, [.tmp 2], (.seq (.reg [⟨some 2, .mv (.c (.x .nils)), none⟩])
  (.seq (.seq (.reg [⟨some 3, .mv (.t 0), none⟩, ⟨some 4, .eq .sl false (.t 3) (.c (.x .nils)), none⟩])
  (.cond (.t 4)
    (.seq (.reg [⟨some 2, .mv (.c (.x .nils)), none⟩])
    .ret)
    .skip))
  (.seq (.reg [⟨some 5, .bsl 38 2 0 [], none⟩, ⟨some 6, .mv (.t 0), none⟩, ⟨some 7, .app 38 2 40 (.t 5) (.t 6), none⟩, ⟨some 2, .mv (.t 7), none⟩])
  .ret)))⟩
theorem c32 : compFn Try.prog Try.f32 = some i32 := by kernel_rfl
def G : FuncId → Option IFn
  | 4 => some i4
  | 5 => some i5
  | 12 => some i12
  | 13 => some i13
  | 14 => some i14
  | 15 => some i15
  | 18 => some i18
  | 20 => some i20
  | 21 => some i21
  | 32 => some i32
  | _ => none
theorem G_ok : GOk Try.prog G := by
  intro f p h
  unfold G at h
  split at h
  · cases h; exact ⟨Try.f4, Try.func4, by decide, c4⟩
  · cases h; exact ⟨Try.f5, Try.func5, by decide, c5⟩
  · cases h; exact ⟨Try.f12, Try.func12, by decide, c12⟩
  · cases h; exact ⟨Try.f13, Try.func13, by decide, c13⟩
  · cases h; exact ⟨Try.f14, Try.func14, by decide, c14⟩
  · cases h; exact ⟨Try.f15, Try.func15, by decide, c15⟩
  · cases h; exact ⟨Try.f18, Try.func18, by decide, c18⟩
  · cases h; exact ⟨Try.f20, Try.func20, by decide, c20⟩
  · cases h; exact ⟨Try.f21, Try.func21, by decide, c21⟩
  · cases h; exact ⟨Try.f32, Try.func32, by decide, c32⟩
  · cases h
end Go.Proofs.Ytogplpcamiicgaa
