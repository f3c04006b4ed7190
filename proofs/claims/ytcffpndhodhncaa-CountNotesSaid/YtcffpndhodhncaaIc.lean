/- The code of functions, as the abstract evaluator reads it. Printed by gen_ic.py. -/
import Derived.Test.YtcffpndhodhncaaProg
import Derived.Test.YtcffpndhodhncaaLA4
namespace Go.Proofs.Ytcffpndhodhncaa
open Go.RowKit Go.Bo Go.Ab
/-- bothy/bothylaw51.CountNotes -/
def i5 : IFn := ⟨148, [.tmp 2], (.seq (.reg [⟨some 2, .mv (.c (.x (.bool false))), none⟩])
  (.seq (.seq (.reg [⟨some 14, .mv (.t 0), none⟩, ⟨some 15, .len false (.t 14), none⟩, ⟨some 16, .bin .gtr (.t 15) (.c (.x (.int .i64 (100)))), none⟩])
  (.cond (.t 16)
    (.seq (.reg [⟨some 17, .call (.c (.fn 16 [])) [], none⟩, ⟨some 2, .mv (.t 17), none⟩])
    .ret)
    .skip))
  (.seq (.reg [⟨some 18, .call (.c (.fn 17 [])) [], none⟩, ⟨some 3, .mv (.t 18), none⟩])
  (.seq (.seq (.reg [⟨some 19, .mv (.t 3), none⟩, ⟨some 20, .eq .ptr false (.t 19) (.c (.x .nilp)), none⟩])
  (.cond (.t 20)
    (.seq (.reg [⟨some 2, .mv (.c (.x (.bool false))), none⟩])
    .ret)
    .skip))
  (.seq (.seq (.reg [⟨some 4, .mv (.c (.x (.int .i64 (0)))), none⟩])
  (.block 0
    (.loop
      (.seq (.seq (.reg [⟨some 21, .mv (.t 4), none⟩, ⟨some 22, .mv (.t 0), none⟩, ⟨some 23, .len false (.t 22), none⟩, ⟨some 24, .bin .lss (.t 21) (.t 23), none⟩])
      (.cond (.t 24)
        .skip
        (.exit 0)))
      (.seq (.block 1
        (.dreg 11 [] [⟨some 27, .mv (.t 3), none⟩, ⟨some 28, .mv (.t 0), none⟩, ⟨some 29, .mv (.t 4), none⟩, ⟨some 30, .iad 2 (.t 28) (.t 29), none⟩, ⟨some 31, .iada 1 2 (.t 30) (.c (.x (.int .i64 (0)))), none⟩, ⟨some 32, .ld 1 false (.t 31), none⟩, ⟨some 33, .mv (.t 0), none⟩, ⟨some 34, .mv (.t 4), none⟩, ⟨some 35, .iad 2 (.t 33) (.t 34), none⟩, ⟨some 36, .iada 1 2 (.t 35) (.c (.x (.int .i64 (1)))), none⟩, ⟨some 37, .ld 1 false (.t 36), none⟩, ⟨some 38, .build [.x (.int .i64 (0)), .x (.str []), .x (.str [])] [(0, 1, (.t 37))], none⟩, ⟨some 39, .build [.x (.int .i64 (0)), .x (.int .i64 (0)), .x (.str []), .x (.str []), .x (.int .i64 (0)), .x (.int .i64 (0)), .x (.bool false), .x (.int .i64 (0)), .x (.str []), .x (.str []), .x (.str []), .x .nils, .x (.str []), .x .nils, .x .nils, .x (.str []), .x .nils, .x .nils, .x (.str []), .x (.bool false), .x (.str []), .x (.bool false), .x (.str []), .x (.str []), .x (.int .i64 (0)), .x (.int .i64 (0)), .x (.str []), .x (.str []), .x .nils] [(1, 1, (.t 32)), (25, 3, (.t 38))], none⟩, ⟨some 40, .call (.c (.fn 18 [])) [(.t 27), (.t 39)], none⟩]))
      (.reg [⟨some 25, .mv (.t 4), none⟩, ⟨some 26, .bin .add (.t 25) (.c (.x (.int .i64 (1)))), none⟩, ⟨some 4, .mv (.t 26), none⟩]))))))
  (.seq (.reg [⟨some 5, .mv (.c (.x .nils)), none⟩])
  (.seq (.seq (.reg [⟨some 6, .mv (.c (.x (.int .i64 (0)))), none⟩])
  (.block 2
    (.loop
      (.seq (.seq (.reg [⟨some 41, .mv (.t 6), none⟩, ⟨some 42, .bin .lss (.t 41) (.c (.x (.int .i64 (32)))), none⟩])
      (.cond (.t 42)
        .skip
        (.exit 2)))
      (.seq (.block 3
        (.seq (.reg [⟨some 7, .mv (.c (.x (.int .i64 (0)))), none⟩])
        (.seq (.seq (.reg [⟨some 8, .mv (.c (.x (.int .i64 (0)))), none⟩])
        (.block 4
          (.loop
            (.seq (.seq (.reg [⟨some 45, .mv (.t 8), none⟩, ⟨some 46, .mv (.t 0), none⟩, ⟨some 47, .len false (.t 46), none⟩, ⟨some 48, .bin .lss (.t 45) (.t 47), none⟩])
            (.cond (.t 48)
              .skip
              (.exit 4)))
            (.seq (.block 5
              (.seq (.reg [⟨some 51, .mv (.t 0), none⟩, ⟨some 52, .mv (.t 8), none⟩, ⟨some 53, .iad 2 (.t 51) (.t 52), none⟩, ⟨some 54, .iada 1 2 (.t 53) (.c (.x (.int .i64 (0)))), none⟩, ⟨some 55, .ld 1 false (.t 54), none⟩, ⟨some 56, .mv (.t 6), none⟩, ⟨some 57, .bin .eql (.t 55) (.t 56), none⟩])
              (.cond (.t 57)
                (.reg [⟨some 58, .mv (.t 7), none⟩, ⟨some 59, .bin .add (.t 58) (.c (.x (.int .i64 (1)))), none⟩, ⟨some 7, .mv (.t 59), none⟩])
                .skip)))
            (.reg [⟨some 49, .mv (.t 8), none⟩, ⟨some 50, .bin .add (.t 49) (.c (.x (.int .i64 (1)))), none⟩, ⟨some 8, .mv (.t 50), none⟩]))))))
        (.seq (.seq (.reg [⟨some 60, .mv (.t 3), none⟩, ⟨some 61, .mv (.t 6), none⟩, ⟨some 62, .call (.c (.fn 19 [])) [(.t 60), (.t 61)], none⟩, ⟨some 63, .mv (.t 7), none⟩, ⟨some 64, .bin .neq (.t 62) (.t 63), none⟩])
        (.cond (.t 64)
          (.seq (.reg [⟨some 2, .mv (.c (.x (.bool false))), none⟩])
          .ret)
          .skip))
        (.seq (.reg [⟨some 65, .mv (.t 7), none⟩, ⟨some 66, .bin .gtr (.t 65) (.c (.x (.int .i64 (0)))), none⟩])
        (.cond (.t 66)
          (.reg [⟨some 67, .mv (.t 5), none⟩, ⟨some 68, .mv (.t 6), none⟩, ⟨some 69, .call (.c (.fn 20 [])) [(.t 68)], none⟩, ⟨some 70, .bin .add (.c (.x (.str [107]))) (.t 69), none⟩, ⟨some 71, .bin .add (.t 70) (.c (.x (.str [32]))), none⟩, ⟨some 72, .mv (.t 7), none⟩, ⟨some 73, .call (.c (.fn 20 [])) [(.t 72)], none⟩, ⟨some 74, .bin .add (.t 71) (.t 73), none⟩, ⟨some 75, .bsl 9 1 1 [(.t 74)], none⟩, ⟨some 76, .app 9 1 16 (.t 67) (.t 75), none⟩, ⟨some 5, .mv (.t 76), none⟩])
          .skip))))))
      (.reg [⟨some 43, .mv (.t 6), none⟩, ⟨some 44, .bin .add (.t 43) (.c (.x (.int .i64 (1)))), none⟩, ⟨some 6, .mv (.t 44), none⟩]))))))
  (.seq (.seq (.reg [⟨some 9, .mv (.c (.x (.int .i64 (0)))), none⟩])
  (.block 6
    (.loop
      (.seq (.seq (.reg [⟨some 77, .mv (.t 9), none⟩, ⟨some 78, .bin .lss (.t 77) (.c (.x (.int .i64 (128)))), none⟩])
      (.cond (.t 78)
        .skip
        (.exit 6)))
      (.seq (.block 7
        (.seq (.reg [⟨some 10, .mv (.c (.x (.int .i64 (0)))), none⟩])
        (.seq (.seq (.reg [⟨some 11, .mv (.c (.x (.int .i64 (0)))), none⟩])
        (.block 8
          (.loop
            (.seq (.seq (.reg [⟨some 81, .mv (.t 11), none⟩, ⟨some 82, .mv (.t 0), none⟩, ⟨some 83, .len false (.t 82), none⟩, ⟨some 84, .bin .lss (.t 81) (.t 83), none⟩])
            (.cond (.t 84)
              .skip
              (.exit 8)))
            (.seq (.block 9
              (.seq (.reg [⟨some 87, .mv (.t 0), none⟩, ⟨some 88, .mv (.t 11), none⟩, ⟨some 89, .iad 2 (.t 87) (.t 88), none⟩, ⟨some 90, .iada 1 2 (.t 89) (.c (.x (.int .i64 (1)))), none⟩, ⟨some 91, .ld 1 false (.t 90), none⟩, ⟨some 92, .mv (.t 9), none⟩, ⟨some 93, .bin .eql (.t 91) (.t 92), none⟩, ⟨some 94, .mv (.t 93), none⟩, ⟨some 95, .mv (.t 0), (some (94, true))⟩, ⟨some 96, .mv (.t 11), (some (94, true))⟩, ⟨some 97, .iad 2 (.t 95) (.t 96), (some (94, true))⟩, ⟨some 98, .iada 1 2 (.t 97) (.c (.x (.int .i64 (0)))), (some (94, true))⟩, ⟨some 99, .ld 1 false (.t 98), (some (94, true))⟩, ⟨some 100, .call (.c (.fn 21 [])) [(.t 99)], (some (94, true))⟩, ⟨some 101, .pick (.t 94) (.t 100) (.c (.x (.bool false))), none⟩])
              (.cond (.t 101)
                (.reg [⟨some 102, .mv (.t 10), none⟩, ⟨some 103, .bin .add (.t 102) (.c (.x (.int .i64 (1)))), none⟩, ⟨some 10, .mv (.t 103), none⟩])
                .skip)))
            (.reg [⟨some 85, .mv (.t 11), none⟩, ⟨some 86, .bin .add (.t 85) (.c (.x (.int .i64 (1)))), none⟩, ⟨some 11, .mv (.t 86), none⟩]))))))
        (.seq (.seq (.reg [⟨some 104, .mv (.t 3), none⟩, ⟨some 105, .mv (.t 9), none⟩, ⟨some 106, .call (.c (.fn 22 [])) [(.t 104), (.t 105)], none⟩, ⟨some 107, .mv (.t 10), none⟩, ⟨some 108, .bin .neq (.t 106) (.t 107), none⟩])
        (.cond (.t 108)
          (.seq (.reg [⟨some 2, .mv (.c (.x (.bool false))), none⟩])
          .ret)
          .skip))
        (.seq (.reg [⟨some 109, .mv (.t 10), none⟩, ⟨some 110, .bin .gtr (.t 109) (.c (.x (.int .i64 (0)))), none⟩])
        (.cond (.t 110)
          (.reg [⟨some 111, .mv (.t 5), none⟩, ⟨some 112, .mv (.t 9), none⟩, ⟨some 113, .call (.c (.fn 20 [])) [(.t 112)], none⟩, ⟨some 114, .bin .add (.c (.x (.str [99]))) (.t 113), none⟩, ⟨some 115, .bin .add (.t 114) (.c (.x (.str [32]))), none⟩, ⟨some 116, .mv (.t 10), none⟩, ⟨some 117, .call (.c (.fn 20 [])) [(.t 116)], none⟩, ⟨some 118, .bin .add (.t 115) (.t 117), none⟩, ⟨some 119, .bsl 9 1 1 [(.t 118)], none⟩, ⟨some 120, .app 9 1 16 (.t 111) (.t 119), none⟩, ⟨some 5, .mv (.t 120), none⟩])
          .skip))))))
      (.reg [⟨some 79, .mv (.t 9), none⟩, ⟨some 80, .bin .add (.t 79) (.c (.x (.int .i64 (1)))), none⟩, ⟨some 9, .mv (.t 80), none⟩]))))))
  (.seq (.reg [⟨some 121, .build [.x (.str []), .x .nils] [(0, 1, (.c (.x (.str [99, 110, 61, 109, 111, 110, 105, 116, 111, 114]))))], none⟩, ⟨some 122, .mv (.t 5), none⟩, ⟨some 123, .call (.c (.fn 23 [])) [(.t 121), (.c (.x (.str [100, 101, 115, 99, 114, 105, 112, 116, 105, 111, 110]))), (.t 122)], none⟩, ⟨some 12, .box (.c (.agg [.x (.str []), .x .nils])), none⟩, ⟨none, .sto 2 (.t 12) (.t 123), none⟩])
  (.seq (.reg [⟨some 13, .mv (.c (.x .nilp)), none⟩])
  (.seq (.reg [⟨some 124, .mv (.t 13), none⟩, ⟨some 125, .build [.x (.int .i64 (0)), .x (.int .i64 (0)), .x (.str []), .x (.str []), .x (.int .i64 (0)), .x (.int .i64 (0)), .x (.bool false), .x (.int .i64 (0)), .x (.str []), .x (.str []), .x (.str []), .x .nils, .x (.str []), .x .nils, .x .nils, .x (.str []), .x .nils, .x .nils, .x (.str []), .x (.bool false), .x (.str []), .x (.bool false), .x (.str []), .x (.str []), .x (.int .i64 (0)), .x (.int .i64 (0)), .x (.str []), .x (.str []), .x .nils] [], none⟩, ⟨some 126, .call (.c (.fn 18 [])) [(.t 124), (.t 125)], none⟩])
  (.seq (.dreg 3 [] [⟨some 127, .mv (.t 3), none⟩, ⟨some 128, .call (.c (.fn 25 [])) [(.t 127)], none⟩, ⟨some 129, .ld 2 true (.t 12), none⟩, ⟨some 130, .call (.c (.fn 24 [])) [(.t 128), (.t 129)], none⟩, ⟨some 131, .mv (.t 130), none⟩, ⟨some 132, .mv (.t 13), (some (131, true))⟩, ⟨some 133, .call (.c (.fn 19 [])) [(.t 132), (.c (.x (.int .i64 (0))))], (some (131, true))⟩, ⟨some 134, .mv (.t 13), (some (131, true))⟩, ⟨some 135, .call (.c (.fn 22 [])) [(.t 134), (.c (.x (.int .i64 (0))))], (some (131, true))⟩, ⟨some 136, .bin .add (.t 133) (.t 135), (some (131, true))⟩, ⟨some 137, .bin .eql (.t 136) (.c (.x (.int .i64 (0)))), (some (131, true))⟩, ⟨some 138, .pick (.t 131) (.t 137) (.c (.x (.bool false))), none⟩, ⟨some 139, .mv (.t 138), none⟩, ⟨some 140, .mv (.t 13), (some (139, true))⟩, ⟨some 141, .call (.c (.fn 25 [])) [(.t 140)], (some (139, true))⟩, ⟨some 142, .build [.x (.str []), .x .nils] [], (some (139, true))⟩, ⟨some 143, .call (.c (.fn 24 [])) [(.t 141), (.t 142)], (some (139, true))⟩, ⟨some 144, .pick (.t 139) (.t 143) (.c (.x (.bool false))), none⟩, ⟨some 145, .mv (.t 144), none⟩, ⟨some 146, .call (.c (.fn 16 [])) [], (some (145, true))⟩, ⟨some 147, .pick (.t 145) (.t 146) (.c (.x (.bool false))), none⟩, ⟨some 2, .mv (.t 147), none⟩])
  .ret))))))))))))⟩
theorem c5 : compFn Try.prog Try.f5 = some i5 := by kernel_rfl
/-- bothy/bothylaw51.awake -/
def i16 : IFn := ⟨71, [.tmp 0], (.seq (.reg [⟨some 0, .mv (.c (.x (.bool false))), none⟩])
  (.seq (.reg [⟨some 5, .call (.c (.fn 17 [])) [], none⟩, ⟨some 1, .mv (.t 5), none⟩])
  (.seq (.seq (.reg [⟨some 6, .mv (.t 1), none⟩, ⟨some 7, .eq .ptr false (.t 6) (.c (.x .nilp)), none⟩])
  (.cond (.t 7)
    (.seq (.reg [⟨some 0, .mv (.c (.x (.bool false))), none⟩])
    .ret)
    .skip))
  (.seq (.reg [⟨some 8, .mv (.t 1), none⟩, ⟨some 9, .build [.x (.int .i64 (0)), .x (.int .i64 (0)), .x (.str []), .x (.str []), .x (.int .i64 (0)), .x (.int .i64 (0)), .x (.bool false), .x (.int .i64 (0)), .x (.str []), .x (.str []), .x (.str []), .x .nils, .x (.str []), .x .nils, .x .nils, .x (.str []), .x .nils, .x .nils, .x (.str []), .x (.bool false), .x (.str []), .x (.bool false), .x (.str []), .x (.str []), .x (.int .i64 (0)), .x (.int .i64 (0)), .x (.str []), .x (.str []), .x .nils] [(1, 1, (.c (.x (.int .i64 (0)))))], none⟩, ⟨some 10, .call (.c (.fn 18 [])) [(.t 8), (.t 9)], none⟩])
  (.seq (.reg [⟨some 11, .mv (.t 1), none⟩, ⟨some 12, .call (.c (.fn 25 [])) [(.t 11)], none⟩, ⟨some 2, .box (.c (.agg [.x (.str []), .x .nils])), none⟩, ⟨none, .sto 2 (.t 2) (.t 12), none⟩])
  (.seq (.reg [⟨some 13, .mv (.t 1), none⟩, ⟨some 14, .build [.x (.int .i64 (0)), .x (.str []), .x (.str [])] [(0, 1, (.c (.x (.int .i64 (32)))))], none⟩, ⟨some 15, .build [.x (.int .i64 (0)), .x (.int .i64 (0)), .x (.str []), .x (.str []), .x (.int .i64 (0)), .x (.int .i64 (0)), .x (.bool false), .x (.int .i64 (0)), .x (.str []), .x (.str []), .x (.str []), .x .nils, .x (.str []), .x .nils, .x .nils, .x (.str []), .x .nils, .x .nils, .x (.str []), .x (.bool false), .x (.str []), .x (.bool false), .x (.str []), .x (.str []), .x (.int .i64 (0)), .x (.int .i64 (0)), .x (.str []), .x (.str []), .x .nils] [(1, 1, (.c (.x (.int .i64 (5))))), (25, 3, (.t 14))], none⟩, ⟨some 16, .call (.c (.fn 18 [])) [(.t 13), (.t 15)], none⟩])
  (.seq (.reg [⟨some 17, .mv (.t 1), none⟩, ⟨some 18, .call (.c (.fn 25 [])) [(.t 17)], none⟩, ⟨some 19, .call (.c (.fn 51 [])) [(.t 18), (.c (.x (.str [100, 101, 115, 99, 114, 105, 112, 116, 105, 111, 110])))], none⟩, ⟨some 3, .mv (.t 19), none⟩])
  (.seq (.reg [⟨some 20, .ld 2 true (.t 2), none⟩, ⟨some 21, .call (.c (.fn 51 [])) [(.t 20), (.c (.x (.str [100, 101, 115, 99, 114, 105, 112, 116, 105, 111, 110])))], none⟩, ⟨some 4, .mv (.t 21), none⟩])
  (.seq (.seq (.reg [⟨some 22, .mv (.t 4), none⟩, ⟨some 23, .len false (.t 22), none⟩, ⟨some 24, .bin .neq (.t 23) (.c (.x (.int .i64 (1)))), none⟩, ⟨some 25, .mv (.t 24), none⟩, ⟨some 26, .mv (.t 3), (some (25, false))⟩, ⟨some 27, .len false (.t 26), (some (25, false))⟩, ⟨some 28, .bin .neq (.t 27) (.c (.x (.int .i64 (3)))), (some (25, false))⟩, ⟨some 29, .pick (.t 25) (.c (.x (.bool true))) (.t 28), none⟩])
  (.cond (.t 29)
    (.seq (.reg [⟨some 0, .mv (.c (.x (.bool false))), none⟩])
    .ret)
    .skip))
  (.seq (.reg [⟨some 30, .fad 0 (.t 2), none⟩, ⟨some 31, .ld 1 false (.t 30), none⟩, ⟨some 32, .bin .eql (.t 31) (.c (.x (.str [99, 110, 61, 109, 111, 110, 105, 116, 111, 114]))), none⟩, ⟨some 33, .mv (.t 32), none⟩, ⟨some 34, .mv (.t 4), (some (33, true))⟩, ⟨some 35, .iad 1 (.t 34) (.c (.x (.int .i64 (0)))), (some (33, true))⟩, ⟨some 36, .ld 1 false (.t 35), (some (33, true))⟩, ⟨some 37, .bin .eql (.t 36) (.c (.x (.str [107, 48, 32, 49]))), (some (33, true))⟩, ⟨some 38, .pick (.t 33) (.t 37) (.c (.x (.bool false))), none⟩, ⟨some 39, .mv (.t 38), none⟩, ⟨some 40, .mv (.t 3), (some (39, true))⟩, ⟨some 41, .iad 1 (.t 40) (.c (.x (.int .i64 (1)))), (some (39, true))⟩, ⟨some 42, .ld 1 false (.t 41), (some (39, true))⟩, ⟨some 43, .bin .eql (.t 42) (.c (.x (.str [107, 53, 32, 49]))), (some (39, true))⟩, ⟨some 44, .pick (.t 39) (.t 43) (.c (.x (.bool false))), none⟩, ⟨some 45, .mv (.t 44), none⟩, ⟨some 46, .mv (.t 3), (some (45, true))⟩, ⟨some 47, .iad 1 (.t 46) (.c (.x (.int .i64 (2)))), (some (45, true))⟩, ⟨some 48, .ld 1 false (.t 47), (some (45, true))⟩, ⟨some 49, .bin .eql (.t 48) (.c (.x (.str [99, 51, 50, 32, 49]))), (some (45, true))⟩, ⟨some 50, .pick (.t 45) (.t 49) (.c (.x (.bool false))), none⟩, ⟨some 51, .mv (.t 50), none⟩, ⟨some 52, .mv (.t 1), (some (51, true))⟩, ⟨some 53, .call (.c (.fn 19 [])) [(.t 52), (.c (.x (.int .i64 (0))))], (some (51, true))⟩, ⟨some 54, .bin .eql (.t 53) (.c (.x (.int .i64 (1)))), (some (51, true))⟩, ⟨some 55, .pick (.t 51) (.t 54) (.c (.x (.bool false))), none⟩, ⟨some 56, .mv (.t 55), none⟩, ⟨some 57, .mv (.t 1), (some (56, true))⟩, ⟨some 58, .call (.c (.fn 19 [])) [(.t 57), (.c (.x (.int .i64 (-1))))], (some (56, true))⟩, ⟨some 59, .bin .eql (.t 58) (.c (.x (.int .i64 (0)))), (some (56, true))⟩, ⟨some 60, .pick (.t 56) (.t 59) (.c (.x (.bool false))), none⟩, ⟨some 61, .mv (.t 60), none⟩, ⟨some 62, .mv (.t 1), (some (61, true))⟩, ⟨some 63, .call (.c (.fn 22 [])) [(.t 62), (.c (.x (.int .i64 (32))))], (some (61, true))⟩, ⟨some 64, .bin .eql (.t 63) (.c (.x (.int .i64 (1)))), (some (61, true))⟩, ⟨some 65, .pick (.t 61) (.t 64) (.c (.x (.bool false))), none⟩, ⟨some 66, .mv (.t 65), none⟩, ⟨some 67, .mv (.t 1), (some (66, true))⟩, ⟨some 68, .call (.c (.fn 22 [])) [(.t 67), (.c (.x (.int .i64 (128))))], (some (66, true))⟩, ⟨some 69, .bin .eql (.t 68) (.c (.x (.int .i64 (0)))), (some (66, true))⟩, ⟨some 70, .pick (.t 66) (.t 69) (.c (.x (.bool false))), none⟩, ⟨some 0, .mv (.t 70), none⟩])
  .ret))))))))))⟩
theorem c16 : compFn Try.prog Try.f16 = some i16 := by kernel_rfl
/-- bothy/count.New -/
def i17 : IFn := ⟨3, [.tmp 0], (.seq (.reg [⟨some 0, .mv (.c (.x .nilp)), none⟩])
  (.seq (.reg [⟨some 1, .build [.x (.int .i64 (0)), .x (.int .i64 (0)), .x (.int .i64 (0)), .x (.int .i64 (0)), .x (.int .i64 (0)), .x (.int .i64 (0)), .x (.int .i64 (0)), .x (.int .i64 (0)), .x (.int .i64 (0)), .x (.int .i64 (0)), .x (.int .i64 (0)), .x (.int .i64 (0)), .x (.int .i64 (0)), .x (.int .i64 (0)), .x (.int .i64 (0)), .x (.int .i64 (0)), .x (.int .i64 (0)), .x (.int .i64 (0)), .x (.int .i64 (0)), .x (.int .i64 (0)), .x (.int .i64 (0)), .x (.int .i64 (0)), .x (.int .i64 (0)), .x (.int .i64 (0)), .x (.int .i64 (0)), .x (.int .i64 (0)), .x (.int .i64 (0)), .x (.int .i64 (0)), .x (.int .i64 (0)), .x (.int .i64 (0)), .x (.int .i64 (0)), .x (.int .i64 (0)), .x (.int .i64 (0)), .x (.int .i64 (0)), .x (.int .i64 (0)), .x (.int .i64 (0)), .x (.int .i64 (0)), .x (.int .i64 (0)), .x (.int .i64 (0)), .x (.int .i64 (0)), .x (.int .i64 (0)), .x (.int .i64 (0)), .x (.int .i64 (0)), .x (.int .i64 (0)), .x (.int .i64 (0)), .x (.int .i64 (0)), .x (.int .i64 (0)), .x (.int .i64 (0)), .x (.int .i64 (0)), .x (.int .i64 (0)), .x (.int .i64 (0)), .x (.int .i64 (0)), .x (.int .i64 (0)), .x (.int .i64 (0)), .x (.int .i64 (0)), .x (.int .i64 (0)), .x (.int .i64 (0)), .x (.int .i64 (0)), .x (.int .i64 (0)), .x (.int .i64 (0)), .x (.int .i64 (0)), .x (.int .i64 (0)), .x (.int .i64 (0)), .x (.int .i64 (0)), .x (.int .i64 (0)), .x (.int .i64 (0)), .x (.int .i64 (0)), .x (.int .i64 (0)), .x (.int .i64 (0)), .x (.int .i64 (0)), .x (.int .i64 (0)), .x (.int .i64 (0)), .x (.int .i64 (0)), .x (.int .i64 (0)), .x (.int .i64 (0)), .x (.int .i64 (0)), .x (.int .i64 (0)), .x (.int .i64 (0)), .x (.int .i64 (0)), .x (.int .i64 (0)), .x (.int .i64 (0)), .x (.int .i64 (0)), .x (.int .i64 (0)), .x (.int .i64 (0)), .x (.int .i64 (0)), .x (.int .i64 (0)), .x (.int .i64 (0)), .x (.int .i64 (0)), .x (.int .i64 (0)), .x (.int .i64 (0)), .x (.int .i64 (0)), .x (.int .i64 (0)), .x (.int .i64 (0)), .x (.int .i64 (0)), .x (.int .i64 (0)), .x (.int .i64 (0)), .x (.int .i64 (0)), .x (.int .i64 (0)), .x (.int .i64 (0)), .x (.int .i64 (0)), .x (.int .i64 (0)), .x (.int .i64 (0)), .x (.int .i64 (0)), .x (.int .i64 (0)), .x (.int .i64 (0)), .x (.int .i64 (0)), .x (.int .i64 (0)), .x (.int .i64 (0)), .x (.int .i64 (0)), .x (.int .i64 (0)), .x (.int .i64 (0)), .x (.int .i64 (0)), .x (.int .i64 (0)), .x (.int .i64 (0)), .x (.int .i64 (0)), .x (.int .i64 (0)), .x (.int .i64 (0)), .x (.int .i64 (0)), .x (.int .i64 (0)), .x (.int .i64 (0)), .x (.int .i64 (0)), .x (.int .i64 (0)), .x (.int .i64 (0)), .x (.int .i64 (0)), .x (.int .i64 (0)), .x (.int .i64 (0)), .x (.int .i64 (0)), .x (.int .i64 (0)), .x (.int .i64 (0)), .x (.int .i64 (0)), .x (.int .i64 (0)), .x (.int .i64 (0)), .x (.int .i64 (0)), .x (.int .i64 (0)), .x (.int .i64 (0)), .x (.int .i64 (0)), .x (.int .i64 (0)), .x (.int .i64 (0)), .x (.int .i64 (0)), .x (.int .i64 (0)), .x (.int .i64 (0)), .x (.int .i64 (0)), .x (.int .i64 (0)), .x (.int .i64 (0)), .x (.int .i64 (0)), .x (.int .i64 (0)), .x (.int .i64 (0)), .x (.int .i64 (0)), .x (.int .i64 (0)), .x (.int .i64 (0)), .x (.int .i64 (0)), .x (.int .i64 (0)), .x (.int .i64 (0)), .x (.int .i64 (0)), .x (.int .i64 (0)), .x (.int .i64 (0)), .x (.int .i64 (0)), .x (.int .i64 (0)), .x (.int .i64 (0)), .x (.int .i64 (0))] [], none⟩, ⟨some 2, .box (.t 1), none⟩, ⟨some 0, .mv (.t 2), none⟩])
  .ret))⟩
theorem c17 : compFn Try.prog Try.f17 = some i17 := by kernel_rfl
/-- (*bothy/count.Counts).Note -/
def i18 : IFn := ⟨52, [], (.seq (.reg [⟨some 3, .box (.t 1), none⟩])
  (.seq (.seq (.reg [⟨some 5, .mv (.t 0), none⟩, ⟨some 6, .eq .ptr false (.t 5) (.c (.x .nilp)), none⟩, ⟨some 7, .mv (.t 6), none⟩, ⟨some 8, .fad 1 (.t 3), (some (7, false))⟩, ⟨some 9, .ld 1 false (.t 8), (some (7, false))⟩, ⟨some 10, .bin .lss (.t 9) (.c (.x (.int .i64 (0)))), (some (7, false))⟩, ⟨some 11, .pick (.t 7) (.c (.x (.bool true))) (.t 10), none⟩, ⟨some 12, .mv (.t 11), none⟩, ⟨some 13, .fad 1 (.t 3), (some (12, false))⟩, ⟨some 14, .ld 1 false (.t 13), (some (12, false))⟩, ⟨some 15, .bin .geq (.t 14) (.c (.x (.int .i64 (32)))), (some (12, false))⟩, ⟨some 16, .pick (.t 12) (.c (.x (.bool true))) (.t 15), none⟩])
  (.cond (.t 16)
    .ret
    .skip))
  (.seq (.dreg 0 [] [⟨some 17, .mv (.t 0), none⟩, ⟨some 18, .fad 1 (.t 3), none⟩, ⟨some 19, .ld 1 false (.t 18), none⟩, ⟨some 20, .nck (.t 17), none⟩, ⟨some 21, .fad 0 (.t 20), none⟩, ⟨some 22, .iada 1 32 (.t 21) (.t 19), none⟩, ⟨some 23, .ld 1 false (.t 22), none⟩, ⟨some 24, .bin .add (.t 23) (.c (.x (.int .i64 (1)))), none⟩, ⟨some 25, .nck (.t 17), none⟩, ⟨some 26, .fad 0 (.t 25), none⟩, ⟨some 27, .iada 1 32 (.t 26) (.t 19), none⟩, ⟨none, .sto 1 (.t 27) (.t 24), none⟩])
  (.seq (.reg [⟨some 28, .fad 25 (.t 3), none⟩, ⟨some 29, .fad 0 (.t 28), none⟩, ⟨some 30, .ld 1 false (.t 29), none⟩, ⟨some 4, .mv (.t 30), none⟩])
  (.seq (.reg [⟨some 31, .fad 1 (.t 3), none⟩, ⟨some 32, .ld 1 false (.t 31), none⟩, ⟨some 33, .call (.c (.fn 52 [])) [(.t 32)], none⟩, ⟨some 34, .mv (.t 33), none⟩, ⟨some 35, .mv (.t 4), (some (34, true))⟩, ⟨some 36, .bin .geq (.t 35) (.c (.x (.int .i64 (0)))), (some (34, true))⟩, ⟨some 37, .pick (.t 34) (.t 36) (.c (.x (.bool false))), none⟩, ⟨some 38, .mv (.t 37), none⟩, ⟨some 39, .mv (.t 4), (some (38, true))⟩, ⟨some 40, .bin .lss (.t 39) (.c (.x (.int .i64 (128)))), (some (38, true))⟩, ⟨some 41, .pick (.t 38) (.t 40) (.c (.x (.bool false))), none⟩])
  (.cond (.t 41)
    (.dreg 0 [] [⟨some 42, .mv (.t 0), none⟩, ⟨some 43, .mv (.t 4), none⟩, ⟨some 44, .nck (.t 42), none⟩, ⟨some 45, .fad 32 (.t 44), none⟩, ⟨some 46, .iada 1 128 (.t 45) (.t 43), none⟩, ⟨some 47, .ld 1 false (.t 46), none⟩, ⟨some 48, .bin .add (.t 47) (.c (.x (.int .i64 (1)))), none⟩, ⟨some 49, .nck (.t 42), none⟩, ⟨some 50, .fad 32 (.t 49), none⟩, ⟨some 51, .iada 1 128 (.t 50) (.t 43), none⟩, ⟨none, .sto 1 (.t 51) (.t 48), none⟩])
    .skip))))))⟩
theorem c18 : compFn Try.prog Try.f18 = some i18 := by kernel_rfl
/-- (*bothy/count.Counts).Of -/
def i19 : IFn := ⟨21, [.tmp 4], (.seq (.reg [⟨some 4, .mv (.c (.x (.int .i64 (0)))), none⟩])
  (.seq (.seq (.reg [⟨some 5, .mv (.t 0), none⟩, ⟨some 6, .eq .ptr false (.t 5) (.c (.x .nilp)), none⟩, ⟨some 7, .mv (.t 6), none⟩, ⟨some 8, .mv (.t 1), (some (7, false))⟩, ⟨some 9, .bin .lss (.t 8) (.c (.x (.int .i64 (0)))), (some (7, false))⟩, ⟨some 10, .pick (.t 7) (.c (.x (.bool true))) (.t 9), none⟩, ⟨some 11, .mv (.t 10), none⟩, ⟨some 12, .mv (.t 1), (some (11, false))⟩, ⟨some 13, .bin .geq (.t 12) (.c (.x (.int .i64 (32)))), (some (11, false))⟩, ⟨some 14, .pick (.t 11) (.c (.x (.bool true))) (.t 13), none⟩])
  (.cond (.t 14)
    (.seq (.reg [⟨some 4, .mv (.c (.x (.int .i64 (0)))), none⟩])
    .ret)
    .skip))
  (.seq (.reg [⟨some 15, .mv (.t 0), none⟩, ⟨some 16, .mv (.t 1), none⟩, ⟨some 17, .nck (.t 15), none⟩, ⟨some 18, .fad 0 (.t 17), none⟩, ⟨some 19, .iada 1 32 (.t 18) (.t 16), none⟩, ⟨some 20, .ld 1 false (.t 19), none⟩, ⟨some 4, .mv (.t 20), none⟩])
  .ret)))⟩
theorem c19 : compFn Try.prog Try.f19 = some i19 := by kernel_rfl
/-- bothy/bothylaw51.digits -/
def i20 : IFn := ⟨17, [.tmp 2], (.seq (.reg [⟨some 2, .mv (.c (.x (.str []))), none⟩])
  (.seq (.seq (.reg [⟨some 3, .mv (.t 0), none⟩, ⟨some 4, .bin .lss (.t 3) (.c (.x (.int .i64 (10)))), none⟩])
  (.cond (.t 4)
    (.seq (.reg [⟨some 5, .mv (.t 0), none⟩, ⟨some 6, .bin .add (.t 5) (.c (.x (.int .i64 (48)))), none⟩, ⟨some 7, .cvi .u8 (.t 6), none⟩, ⟨some 8, .bsl 5 1 1 [(.t 7)], none⟩, ⟨some 9, .b2s (.t 8), none⟩, ⟨some 2, .mv (.t 9), none⟩])
    .ret)
    .skip))
  (.seq (.reg [⟨some 10, .mv (.t 0), none⟩, ⟨some 11, .bin .quo (.t 10) (.c (.x (.int .i64 (10)))), none⟩, ⟨some 12, .call (.c (.fn 20 [])) [(.t 11)], none⟩, ⟨some 13, .mv (.t 0), none⟩, ⟨some 14, .bin .rem (.t 13) (.c (.x (.int .i64 (10)))), none⟩, ⟨some 15, .call (.c (.fn 20 [])) [(.t 14)], none⟩, ⟨some 16, .bin .add (.t 12) (.t 15), none⟩, ⟨some 2, .mv (.t 16), none⟩])
  .ret)))⟩
theorem c20 : compFn Try.prog Try.f20 = some i20 := by kernel_rfl
/-- bothy/bothylaw51.done -/
def i21 : IFn := ⟨33, [.tmp 2], (.seq (.reg [⟨some 2, .mv (.c (.x (.bool false))), none⟩])
  (.seq (.reg [⟨some 3, .mv (.t 0), none⟩, ⟨some 4, .bin .eql (.t 3) (.c (.x (.int .i64 (1)))), none⟩, ⟨some 5, .mv (.t 4), none⟩, ⟨some 6, .mv (.t 0), (some (5, false))⟩, ⟨some 7, .bin .eql (.t 6) (.c (.x (.int .i64 (5)))), (some (5, false))⟩, ⟨some 8, .pick (.t 5) (.c (.x (.bool true))) (.t 7), none⟩, ⟨some 9, .mv (.t 8), none⟩, ⟨some 10, .mv (.t 0), (some (9, false))⟩, ⟨some 11, .bin .eql (.t 10) (.c (.x (.int .i64 (7)))), (some (9, false))⟩, ⟨some 12, .pick (.t 9) (.c (.x (.bool true))) (.t 11), none⟩, ⟨some 13, .mv (.t 12), none⟩, ⟨some 14, .mv (.t 0), (some (13, false))⟩, ⟨some 15, .bin .eql (.t 14) (.c (.x (.int .i64 (9)))), (some (13, false))⟩, ⟨some 16, .pick (.t 13) (.c (.x (.bool true))) (.t 15), none⟩, ⟨some 17, .mv (.t 16), none⟩, ⟨some 18, .mv (.t 0), (some (17, false))⟩, ⟨some 19, .bin .eql (.t 18) (.c (.x (.int .i64 (11)))), (some (17, false))⟩, ⟨some 20, .pick (.t 17) (.c (.x (.bool true))) (.t 19), none⟩, ⟨some 21, .mv (.t 20), none⟩, ⟨some 22, .mv (.t 0), (some (21, false))⟩, ⟨some 23, .bin .eql (.t 22) (.c (.x (.int .i64 (13)))), (some (21, false))⟩, ⟨some 24, .pick (.t 21) (.c (.x (.bool true))) (.t 23), none⟩, ⟨some 25, .mv (.t 24), none⟩, ⟨some 26, .mv (.t 0), (some (25, false))⟩, ⟨some 27, .bin .eql (.t 26) (.c (.x (.int .i64 (15)))), (some (25, false))⟩, ⟨some 28, .pick (.t 25) (.c (.x (.bool true))) (.t 27), none⟩, ⟨some 29, .mv (.t 28), none⟩, ⟨some 30, .mv (.t 0), (some (29, false))⟩, ⟨some 31, .bin .eql (.t 30) (.c (.x (.int .i64 (24)))), (some (29, false))⟩, ⟨some 32, .pick (.t 29) (.c (.x (.bool true))) (.t 31), none⟩, ⟨some 2, .mv (.t 32), none⟩])
  .ret))⟩
theorem c21 : compFn Try.prog Try.f21 = some i21 := by kernel_rfl
/-- (*bothy/count.Counts).Codes -/
def i22 : IFn := ⟨21, [.tmp 4], (.seq (.reg [⟨some 4, .mv (.c (.x (.int .i64 (0)))), none⟩])
  (.seq (.seq (.reg [⟨some 5, .mv (.t 0), none⟩, ⟨some 6, .eq .ptr false (.t 5) (.c (.x .nilp)), none⟩, ⟨some 7, .mv (.t 6), none⟩, ⟨some 8, .mv (.t 1), (some (7, false))⟩, ⟨some 9, .bin .lss (.t 8) (.c (.x (.int .i64 (0)))), (some (7, false))⟩, ⟨some 10, .pick (.t 7) (.c (.x (.bool true))) (.t 9), none⟩, ⟨some 11, .mv (.t 10), none⟩, ⟨some 12, .mv (.t 1), (some (11, false))⟩, ⟨some 13, .bin .geq (.t 12) (.c (.x (.int .i64 (128)))), (some (11, false))⟩, ⟨some 14, .pick (.t 11) (.c (.x (.bool true))) (.t 13), none⟩])
  (.cond (.t 14)
    (.seq (.reg [⟨some 4, .mv (.c (.x (.int .i64 (0)))), none⟩])
    .ret)
    .skip))
  (.seq (.reg [⟨some 15, .mv (.t 0), none⟩, ⟨some 16, .mv (.t 1), none⟩, ⟨some 17, .nck (.t 15), none⟩, ⟨some 18, .fad 32 (.t 17), none⟩, ⟨some 19, .iada 1 128 (.t 18) (.t 16), none⟩, ⟨some 20, .ld 1 false (.t 19), none⟩, ⟨some 4, .mv (.t 20), none⟩])
  .ret)))⟩
theorem c22 : compFn Try.prog Try.f22 = some i22 := by kernel_rfl
/-- bothy/bothyref10.With -/
def i23 : IFn := ⟨20, [.cell 6 2 true], (.seq (.reg [⟨some 3, .box (.t 0), none⟩, ⟨some 6, .box (.c (.agg [.x (.str []), .x .nils])), none⟩])
  (.seq (.reg [⟨some 8, .ld 2 true (.t 3), none⟩, ⟨some 9, .call (.c (.fn 53 [])) [(.t 8)], none⟩, ⟨some 7, .box (.c (.agg [.x (.str []), .x .nils])), none⟩, ⟨none, .sto 2 (.t 7) (.t 9), none⟩])
  (.seq (.dreg 9 [] [⟨some 10, .fad 0 (.t 7), none⟩, ⟨some 11, .ld 1 false (.t 10), none⟩, ⟨some 12, .fad 1 (.t 7), none⟩, ⟨some 13, .ld 1 false (.t 12), none⟩, ⟨some 14, .mv (.t 1), none⟩, ⟨some 15, .call (.c (.fn 55 [])) [(.t 14)], none⟩, ⟨some 16, .mv (.t 2), none⟩, ⟨some 17, .build [.x (.str []), .x .nils] [(0, 1, (.t 15)), (1, 1, (.t 16))], none⟩, ⟨some 18, .call (.c (.fn 54 [])) [(.t 13), (.t 17)], none⟩, ⟨some 19, .build [.x (.str []), .x .nils] [(0, 1, (.t 11)), (1, 1, (.t 18))], none⟩, ⟨none, .sto 2 (.t 6) (.t 19), none⟩])
  .ret)))⟩
theorem c23 : compFn Try.prog Try.f23 = some i23 := by kernel_rfl
/-- bothy/bothyref10.Equal -/
def i24 : IFn := ⟨56, [.tmp 4], (.seq (.reg [⟨some 2, .box (.t 0), none⟩, ⟨some 3, .box (.t 1), none⟩, ⟨some 4, .mv (.c (.x (.bool false))), none⟩])
  (.seq (.seq (.reg [⟨some 6, .fad 0 (.t 2), none⟩, ⟨some 7, .ld 1 false (.t 6), none⟩, ⟨some 8, .fad 0 (.t 3), none⟩, ⟨some 9, .ld 1 false (.t 8), none⟩, ⟨some 10, .bin .neq (.t 7) (.t 9), none⟩, ⟨some 11, .mv (.t 10), none⟩, ⟨some 12, .fad 1 (.t 2), (some (11, false))⟩, ⟨some 13, .ld 1 false (.t 12), (some (11, false))⟩, ⟨some 14, .len false (.t 13), (some (11, false))⟩, ⟨some 15, .fad 1 (.t 3), (some (11, false))⟩, ⟨some 16, .ld 1 false (.t 15), (some (11, false))⟩, ⟨some 17, .len false (.t 16), (some (11, false))⟩, ⟨some 18, .bin .neq (.t 14) (.t 17), (some (11, false))⟩, ⟨some 19, .pick (.t 11) (.c (.x (.bool true))) (.t 18), none⟩])
  (.cond (.t 19)
    (.seq (.reg [⟨some 4, .mv (.c (.x (.bool false))), none⟩])
    .ret)
    .skip))
  (.seq (.seq (.reg [⟨some 5, .mv (.c (.x (.int .i64 (0)))), none⟩])
  (.block 0
    (.loop
      (.seq (.seq (.reg [⟨some 20, .mv (.t 5), none⟩, ⟨some 21, .fad 1 (.t 2), none⟩, ⟨some 22, .ld 1 false (.t 21), none⟩, ⟨some 23, .len false (.t 22), none⟩, ⟨some 24, .bin .lss (.t 20) (.t 23), none⟩])
      (.cond (.t 24)
        .skip
        (.exit 0)))
      (.seq (.block 1
        (.seq (.dreg 26 [] [⟨some 27, .fad 1 (.t 2), none⟩, ⟨some 28, .ld 1 false (.t 27), none⟩, ⟨some 29, .mv (.t 5), none⟩, ⟨some 30, .iad 2 (.t 28) (.t 29), none⟩, ⟨some 31, .fad 0 (.t 30), none⟩, ⟨some 32, .ld 1 false (.t 31), none⟩, ⟨some 33, .fad 1 (.t 3), none⟩, ⟨some 34, .ld 1 false (.t 33), none⟩, ⟨some 35, .mv (.t 5), none⟩, ⟨some 36, .iad 2 (.t 34) (.t 35), none⟩, ⟨some 37, .fad 0 (.t 36), none⟩, ⟨some 38, .ld 1 false (.t 37), none⟩, ⟨some 39, .bin .neq (.t 32) (.t 38), none⟩, ⟨some 40, .mv (.t 39), none⟩, ⟨some 41, .fad 1 (.t 2), (some (40, false))⟩, ⟨some 42, .ld 1 false (.t 41), (some (40, false))⟩, ⟨some 43, .mv (.t 5), (some (40, false))⟩, ⟨some 44, .iad 2 (.t 42) (.t 43), (some (40, false))⟩, ⟨some 45, .fad 1 (.t 44), (some (40, false))⟩, ⟨some 46, .ld 1 false (.t 45), (some (40, false))⟩, ⟨some 47, .fad 1 (.t 3), (some (40, false))⟩, ⟨some 48, .ld 1 false (.t 47), (some (40, false))⟩, ⟨some 49, .mv (.t 5), (some (40, false))⟩, ⟨some 50, .iad 2 (.t 48) (.t 49), (some (40, false))⟩, ⟨some 51, .fad 1 (.t 50), (some (40, false))⟩, ⟨some 52, .ld 1 false (.t 51), (some (40, false))⟩, ⟨some 53, .call (.c (.fn 56 [])) [(.t 46), (.t 52)], (some (40, false))⟩, ⟨some 54, .un .not (.t 53), (some (40, false))⟩, ⟨some 55, .pick (.t 40) (.c (.x (.bool true))) (.t 54), none⟩])
        (.cond (.t 55)
          (.seq (.reg [⟨some 4, .mv (.c (.x (.bool false))), none⟩])
          .ret)
          .skip)))
      (.reg [⟨some 25, .mv (.t 5), none⟩, ⟨some 26, .bin .add (.t 25) (.c (.x (.int .i64 (1)))), none⟩, ⟨some 5, .mv (.t 26), none⟩]))))))
  (.seq (.reg [⟨some 4, .mv (.c (.x (.bool true))), none⟩])
  .ret))))⟩
theorem c24 : compFn Try.prog Try.f24 = some i24 := by kernel_rfl
/-- (*bothy/count.Counts).Entry -/
def i25 : IFn := ⟨21, [.cell 2 2 true], (.seq (.reg [⟨some 2, .box (.c (.agg [.x (.str []), .x .nils])), none⟩])
  (.seq (.seq (.reg [⟨some 4, .mv (.t 0), none⟩, ⟨some 5, .eq .ptr false (.t 4) (.c (.x .nilp)), none⟩])
  (.cond (.t 5)
    (.seq (.reg [⟨some 6, .build [.x (.str []), .x .nils] [], none⟩, ⟨none, .sto 2 (.t 2) (.t 6), none⟩])
    .ret)
    .skip))
  (.seq (.dreg 9 [] [⟨some 7, .mv (.t 0), none⟩, ⟨some 8, .nck (.t 7), none⟩, ⟨some 9, .fad 0 (.t 8), none⟩, ⟨some 10, .asl 32 (.t 9) none, none⟩, ⟨some 11, .call (.c (.fn 57 [])) [(.c (.x (.str [107]))), (.t 10)], none⟩, ⟨some 12, .mv (.t 0), none⟩, ⟨some 13, .nck (.t 12), none⟩, ⟨some 14, .fad 32 (.t 13), none⟩, ⟨some 15, .asl 128 (.t 14) none, none⟩, ⟨some 16, .call (.c (.fn 57 [])) [(.c (.x (.str [99]))), (.t 15)], none⟩, ⟨some 17, .app 9 1 16 (.t 11) (.t 16), none⟩, ⟨some 3, .mv (.t 17), none⟩])
  (.seq (.reg [⟨some 18, .build [.x (.str []), .x .nils] [(0, 1, (.c (.x (.str [99, 110, 61, 109, 111, 110, 105, 116, 111, 114]))))], none⟩, ⟨some 19, .mv (.t 3), none⟩, ⟨some 20, .call (.c (.fn 58 [])) [(.t 18), (.c (.x (.str [100, 101, 115, 99, 114, 105, 112, 116, 105, 111, 110]))), (.t 19)], none⟩, ⟨none, .sto 2 (.t 2) (.t 20), none⟩])
  .ret))))⟩
theorem c25 : compFn Try.prog Try.f25 = some i25 := by kernel_rfl
/-- bothy/bothyref10.Get -/
def i51 : IFn := ⟨29, [.tmp 4], (.seq (.reg [⟨some 2, .box (.t 0), none⟩, ⟨some 4, .mv (.c (.x .nils)), none⟩])
  (.seq (.reg [⟨some 7, .ld 2 true (.t 2), none⟩, ⟨some 8, .call (.c (.fn 53 [])) [(.t 7)], none⟩, ⟨some 9, .fld 1 1 false (.t 8), none⟩, ⟨some 5, .mv (.t 9), none⟩])
  (.seq (.seq (.reg [⟨some 6, .mv (.c (.x (.int .i64 (0)))), none⟩])
  (.block 0
    (.loop
      (.seq (.seq (.reg [⟨some 10, .mv (.t 6), none⟩, ⟨some 11, .mv (.t 5), none⟩, ⟨some 12, .len false (.t 11), none⟩, ⟨some 13, .bin .lss (.t 10) (.t 12), none⟩])
      (.cond (.t 13)
        .skip
        (.exit 0)))
      (.seq (.block 1
        (.seq (.dreg 7 [] [⟨some 16, .mv (.t 5), none⟩, ⟨some 17, .mv (.t 6), none⟩, ⟨some 18, .iad 2 (.t 16) (.t 17), none⟩, ⟨some 19, .fad 0 (.t 18), none⟩, ⟨some 20, .ld 1 false (.t 19), none⟩, ⟨some 21, .mv (.t 1), none⟩, ⟨some 22, .call (.c (.fn 55 [])) [(.t 21)], none⟩, ⟨some 23, .bin .eql (.t 20) (.t 22), none⟩])
        (.cond (.t 23)
          (.seq (.reg [⟨some 24, .mv (.t 5), none⟩, ⟨some 25, .mv (.t 6), none⟩, ⟨some 26, .iad 2 (.t 24) (.t 25), none⟩, ⟨some 27, .fad 1 (.t 26), none⟩, ⟨some 28, .ld 1 false (.t 27), none⟩, ⟨some 4, .mv (.t 28), none⟩])
          .ret)
          .skip)))
      (.reg [⟨some 14, .mv (.t 6), none⟩, ⟨some 15, .bin .add (.t 14) (.c (.x (.int .i64 (1)))), none⟩, ⟨some 6, .mv (.t 15), none⟩]))))))
  (.seq (.reg [⟨some 4, .mv (.c (.x .nils)), none⟩])
  .ret))))⟩
theorem c51 : compFn Try.prog Try.f51 = some i51 := by kernel_rfl
/-- bothy/count.told -/
def i52 : IFn := ⟨13, [.tmp 2], (.seq (.reg [⟨some 2, .mv (.c (.x (.bool false))), none⟩])
  (.seq (.seq (.reg [⟨some 3, .mv (.t 0), none⟩])
  (.block 0
    (.seq (.seq (.reg [⟨some 5, .bin .eql (.t 3) (.c (.x (.int .i64 (1)))), none⟩, ⟨some 4, .mv (.t 5), none⟩])
    (.cond (.t 4)
      .skip
      (.seq (.reg [⟨some 6, .bin .eql (.t 3) (.c (.x (.int .i64 (5)))), none⟩, ⟨some 4, .mv (.t 6), none⟩])
      (.cond (.t 4)
        .skip
        (.seq (.reg [⟨some 7, .bin .eql (.t 3) (.c (.x (.int .i64 (7)))), none⟩, ⟨some 4, .mv (.t 7), none⟩])
        (.cond (.t 4)
          .skip
          (.seq (.reg [⟨some 8, .bin .eql (.t 3) (.c (.x (.int .i64 (9)))), none⟩, ⟨some 4, .mv (.t 8), none⟩])
          (.cond (.t 4)
            .skip
            (.seq (.reg [⟨some 9, .bin .eql (.t 3) (.c (.x (.int .i64 (11)))), none⟩, ⟨some 4, .mv (.t 9), none⟩])
            (.cond (.t 4)
              .skip
              (.seq (.reg [⟨some 10, .bin .eql (.t 3) (.c (.x (.int .i64 (13)))), none⟩, ⟨some 4, .mv (.t 10), none⟩])
              (.cond (.t 4)
                .skip
                (.seq (.reg [⟨some 11, .bin .eql (.t 3) (.c (.x (.int .i64 (15)))), none⟩, ⟨some 4, .mv (.t 11), none⟩])
                (.cond (.t 4)
                  .skip
                  (.reg [⟨some 12, .bin .eql (.t 3) (.c (.x (.int .i64 (24)))), none⟩, ⟨some 4, .mv (.t 12), none⟩])))))))))))))))
    (.cond (.t 4)
      (.seq (.reg [⟨some 2, .mv (.c (.x (.bool true))), none⟩])
      .ret)
      .skip))))
  (.seq (.reg [⟨some 2, .mv (.c (.x (.bool false))), none⟩])
  .ret)))⟩
theorem c52 : compFn Try.prog Try.f52 = some i52 := by kernel_rfl
/-- bothy/bothyref10.Clean -/
def i53 : IFn := ⟨32, [.cell 2 2 true], (.seq (.reg [⟨some 1, .box (.t 0), none⟩, ⟨some 2, .box (.c (.agg [.x (.str []), .x .nils])), none⟩])
  (.seq (.reg [⟨some 3, .mv (.c (.x .nils)), none⟩])
  (.seq (.seq (.reg [⟨some 4, .mv (.c (.x (.int .i64 (0)))), none⟩])
  (.block 0
    (.loop
      (.seq (.seq (.reg [⟨some 5, .mv (.t 4), none⟩, ⟨some 6, .fad 1 (.t 1), none⟩, ⟨some 7, .ld 1 false (.t 6), none⟩, ⟨some 8, .len false (.t 7), none⟩, ⟨some 9, .bin .lss (.t 5) (.t 8), none⟩])
      (.cond (.t 9)
        .skip
        (.exit 0)))
      (.seq (.block 1
        (.dreg 14 [] [⟨some 12, .mv (.t 3), none⟩, ⟨some 13, .fad 1 (.t 1), none⟩, ⟨some 14, .ld 1 false (.t 13), none⟩, ⟨some 15, .mv (.t 4), none⟩, ⟨some 16, .iad 2 (.t 14) (.t 15), none⟩, ⟨some 17, .fad 0 (.t 16), none⟩, ⟨some 18, .ld 1 false (.t 17), none⟩, ⟨some 19, .call (.c (.fn 55 [])) [(.t 18)], none⟩, ⟨some 20, .fad 1 (.t 1), none⟩, ⟨some 21, .ld 1 false (.t 20), none⟩, ⟨some 22, .mv (.t 4), none⟩, ⟨some 23, .iad 2 (.t 21) (.t 22), none⟩, ⟨some 24, .fad 1 (.t 23), none⟩, ⟨some 25, .ld 1 false (.t 24), none⟩, ⟨some 26, .build [.x (.str []), .x .nils] [(0, 1, (.t 19)), (1, 1, (.t 25))], none⟩, ⟨some 27, .call (.c (.fn 54 [])) [(.t 12), (.t 26)], none⟩, ⟨some 3, .mv (.t 27), none⟩]))
      (.reg [⟨some 10, .mv (.t 4), none⟩, ⟨some 11, .bin .add (.t 10) (.c (.x (.int .i64 (1)))), none⟩, ⟨some 4, .mv (.t 11), none⟩]))))))
  (.seq (.reg [⟨some 28, .fad 0 (.t 1), none⟩, ⟨some 29, .ld 1 false (.t 28), none⟩, ⟨some 30, .mv (.t 3), none⟩, ⟨some 31, .build [.x (.str []), .x .nils] [(0, 1, (.t 29)), (1, 1, (.t 30))], none⟩, ⟨none, .sto 2 (.t 2) (.t 31), none⟩])
  .ret))))⟩
theorem c53 : compFn Try.prog Try.f53 = some i53 := by kernel_rfl
/-- bothy/bothyref10.put -/
def i54 : IFn := ⟨114, [.tmp 4], (.seq (.reg [⟨some 3, .box (.t 1), none⟩, ⟨some 4, .mv (.c (.x .nils)), none⟩])
  (.seq (.reg [⟨some 5, .mv (.c (.x (.int .i64 (0)))), none⟩])
  (.seq (.block 0
    (.loop
      (.seq (.seq (.dreg 12 [] [⟨some 13, .mv (.t 5), none⟩, ⟨some 14, .mv (.t 0), none⟩, ⟨some 15, .len false (.t 14), none⟩, ⟨some 16, .bin .lss (.t 13) (.t 15), none⟩, ⟨some 17, .mv (.t 16), none⟩, ⟨some 18, .mv (.t 0), (some (17, true))⟩, ⟨some 19, .mv (.t 5), (some (17, true))⟩, ⟨some 20, .iad 2 (.t 18) (.t 19), (some (17, true))⟩, ⟨some 21, .fad 0 (.t 20), (some (17, true))⟩, ⟨some 22, .ld 1 false (.t 21), (some (17, true))⟩, ⟨some 23, .fad 0 (.t 3), (some (17, true))⟩, ⟨some 24, .ld 1 false (.t 23), (some (17, true))⟩, ⟨some 25, .bin .lss (.t 22) (.t 24), (some (17, true))⟩, ⟨some 26, .pick (.t 17) (.t 25) (.c (.x (.bool false))), none⟩])
      (.cond (.t 26)
        .skip
        (.exit 0)))
      (.block 1
        (.reg [⟨some 27, .mv (.t 5), none⟩, ⟨some 28, .bin .add (.t 27) (.c (.x (.int .i64 (1)))), none⟩, ⟨some 5, .mv (.t 28), none⟩])))))
  (.seq (.reg [⟨some 29, .fad 0 (.t 3), none⟩, ⟨some 30, .ld 1 false (.t 29), none⟩, ⟨some 31, .build [.x (.str []), .x .nils] [(0, 1, (.t 30))], none⟩, ⟨some 6, .box (.c (.agg [.x (.str []), .x .nils])), none⟩, ⟨none, .sto 2 (.t 6) (.t 31), none⟩])
  (.seq (.reg [⟨some 32, .mv (.t 0), none⟩, ⟨some 33, .mv (.t 5), none⟩, ⟨some 34, .slc 2 (.t 32) (some (.t 33)) none none, none⟩, ⟨some 7, .mv (.t 34), none⟩])
  (.seq (.seq (.dreg 12 [] [⟨some 35, .mv (.t 5), none⟩, ⟨some 36, .mv (.t 0), none⟩, ⟨some 37, .len false (.t 36), none⟩, ⟨some 38, .bin .lss (.t 35) (.t 37), none⟩, ⟨some 39, .mv (.t 38), none⟩, ⟨some 40, .mv (.t 0), (some (39, true))⟩, ⟨some 41, .mv (.t 5), (some (39, true))⟩, ⟨some 42, .iad 2 (.t 40) (.t 41), (some (39, true))⟩, ⟨some 43, .fad 0 (.t 42), (some (39, true))⟩, ⟨some 44, .ld 1 false (.t 43), (some (39, true))⟩, ⟨some 45, .fad 0 (.t 3), (some (39, true))⟩, ⟨some 46, .ld 1 false (.t 45), (some (39, true))⟩, ⟨some 47, .bin .eql (.t 44) (.t 46), (some (39, true))⟩, ⟨some 48, .pick (.t 39) (.t 47) (.c (.x (.bool false))), none⟩])
  (.cond (.t 48)
    (.seq (.reg [⟨some 49, .mv (.t 0), none⟩, ⟨some 50, .mv (.t 5), none⟩, ⟨some 51, .iad 2 (.t 49) (.t 50), none⟩, ⟨some 52, .ld 2 true (.t 51), none⟩, ⟨none, .sto 2 (.t 6) (.t 52), none⟩])
    (.reg [⟨some 53, .mv (.t 0), none⟩, ⟨some 54, .mv (.t 5), none⟩, ⟨some 55, .bin .add (.t 54) (.c (.x (.int .i64 (1)))), none⟩, ⟨some 56, .slc 2 (.t 53) (some (.t 55)) none none, none⟩, ⟨some 7, .mv (.t 56), none⟩]))
    .skip))
  (.seq (.reg [⟨some 8, .mv (.c (.x .nils)), none⟩])
  (.seq (.reg [⟨some 57, .mv (.t 8), none⟩, ⟨some 58, .fad 1 (.t 6), none⟩, ⟨some 59, .ld 1 false (.t 58), none⟩, ⟨some 60, .app 9 1 16 (.t 57) (.t 59), none⟩, ⟨some 8, .mv (.t 60), none⟩])
  (.seq (.seq (.reg [⟨some 9, .mv (.c (.x (.int .i64 (0)))), none⟩])
  (.block 2
    (.loop
      (.seq (.seq (.reg [⟨some 61, .mv (.t 9), none⟩, ⟨some 62, .fad 1 (.t 3), none⟩, ⟨some 63, .ld 1 false (.t 62), none⟩, ⟨some 64, .len false (.t 63), none⟩, ⟨some 65, .bin .lss (.t 61) (.t 64), none⟩])
      (.cond (.t 65)
        .skip
        (.exit 2)))
      (.seq (.block 3
        (.seq (.reg [⟨some 10, .mv (.c (.x (.bool false))), none⟩])
        (.seq (.seq (.reg [⟨some 11, .mv (.c (.x (.int .i64 (0)))), none⟩])
        (.block 4
          (.loop
            (.seq (.seq (.reg [⟨some 68, .mv (.t 11), none⟩, ⟨some 69, .mv (.t 8), none⟩, ⟨some 70, .len false (.t 69), none⟩, ⟨some 71, .bin .lss (.t 68) (.t 70), none⟩])
            (.cond (.t 71)
              .skip
              (.exit 4)))
            (.seq (.block 5
              (.dreg 11 [] [⟨some 74, .mv (.t 10), none⟩, ⟨some 75, .mv (.t 74), none⟩, ⟨some 76, .mv (.t 8), (some (75, false))⟩, ⟨some 77, .mv (.t 11), (some (75, false))⟩, ⟨some 78, .iad 1 (.t 76) (.t 77), (some (75, false))⟩, ⟨some 79, .ld 1 false (.t 78), (some (75, false))⟩, ⟨some 80, .fad 1 (.t 3), (some (75, false))⟩, ⟨some 81, .ld 1 false (.t 80), (some (75, false))⟩, ⟨some 82, .mv (.t 9), (some (75, false))⟩, ⟨some 83, .iad 1 (.t 81) (.t 82), (some (75, false))⟩, ⟨some 84, .ld 1 false (.t 83), (some (75, false))⟩, ⟨some 85, .bin .eql (.t 79) (.t 84), (some (75, false))⟩, ⟨some 86, .pick (.t 75) (.c (.x (.bool true))) (.t 85), none⟩, ⟨some 10, .mv (.t 86), none⟩]))
            (.reg [⟨some 72, .mv (.t 11), none⟩, ⟨some 73, .bin .add (.t 72) (.c (.x (.int .i64 (1)))), none⟩, ⟨some 11, .mv (.t 73), none⟩]))))))
        (.seq (.reg [⟨some 87, .mv (.t 10), none⟩, ⟨some 88, .un .not (.t 87), none⟩])
        (.cond (.t 88)
          (.reg [⟨some 89, .mv (.t 8), none⟩, ⟨some 90, .fad 1 (.t 3), none⟩, ⟨some 91, .ld 1 false (.t 90), none⟩, ⟨some 92, .mv (.t 9), none⟩, ⟨some 93, .iad 1 (.t 91) (.t 92), none⟩, ⟨some 94, .ld 1 false (.t 93), none⟩, ⟨some 95, .bsl 9 1 1 [(.t 94)], none⟩, ⟨some 96, .app 9 1 16 (.t 89) (.t 95), none⟩, ⟨some 8, .mv (.t 96), none⟩])
          .skip)))))
      (.reg [⟨some 66, .mv (.t 9), none⟩, ⟨some 67, .bin .add (.t 66) (.c (.x (.int .i64 (1)))), none⟩, ⟨some 9, .mv (.t 67), none⟩]))))))
  (.seq (.reg [⟨some 97, .mv (.t 8), none⟩, ⟨some 98, .fad 1 (.t 6), none⟩, ⟨none, .sto 1 (.t 98) (.t 97), none⟩])
  (.seq (.reg [⟨some 12, .mv (.c (.x .nils)), none⟩])
  (.seq (.reg [⟨some 99, .mv (.t 12), none⟩, ⟨some 100, .mv (.t 0), none⟩, ⟨some 101, .mv (.t 5), none⟩, ⟨some 102, .slc 2 (.t 100) none (some (.t 101)) none, none⟩, ⟨some 103, .app 120 2 40 (.t 99) (.t 102), none⟩, ⟨some 12, .mv (.t 103), none⟩])
  (.seq (.seq (.reg [⟨some 104, .mv (.t 8), none⟩, ⟨some 105, .len false (.t 104), none⟩, ⟨some 106, .bin .gtr (.t 105) (.c (.x (.int .i64 (0)))), none⟩])
  (.cond (.t 106)
    (.reg [⟨some 107, .mv (.t 12), none⟩, ⟨some 108, .ld 2 true (.t 6), none⟩, ⟨some 109, .bsl 120 2 1 [(.t 108)], none⟩, ⟨some 110, .app 120 2 40 (.t 107) (.t 109), none⟩, ⟨some 12, .mv (.t 110), none⟩])
    .skip))
  (.seq (.reg [⟨some 111, .mv (.t 12), none⟩, ⟨some 112, .mv (.t 7), none⟩, ⟨some 113, .app 120 2 40 (.t 111) (.t 112), none⟩, ⟨some 4, .mv (.t 113), none⟩])
  .ret))))))))))))))⟩
theorem c54 : compFn Try.prog Try.f54 = some i54 := by kernel_rfl
/-- bothy/bothyref05.Lower -/
def i55 : IFn := ⟨29, [.tmp 2], (.seq (.reg [⟨some 2, .mv (.c (.x (.str []))), none⟩])
  (.seq (.reg [⟨some 3, .mv (.c (.x .nils)), none⟩])
  (.seq (.seq (.reg [⟨some 4, .mv (.c (.x (.int .i64 (0)))), none⟩])
  (.block 0
    (.loop
      (.seq (.seq (.reg [⟨some 6, .mv (.t 4), none⟩, ⟨some 7, .mv (.t 0), none⟩, ⟨some 8, .len true (.t 7), none⟩, ⟨some 9, .bin .lss (.t 6) (.t 8), none⟩])
      (.cond (.t 9)
        .skip
        (.exit 0)))
      (.seq (.block 1
        (.seq (.reg [⟨some 12, .mv (.t 0), none⟩, ⟨some 13, .mv (.t 4), none⟩, ⟨some 14, .idx (.t 12) (.t 13), none⟩, ⟨some 5, .mv (.t 14), none⟩])
        (.seq (.seq (.reg [⟨some 15, .mv (.t 5), none⟩, ⟨some 16, .bin .geq (.t 15) (.c (.x (.int .u8 (65)))), none⟩, ⟨some 17, .mv (.t 16), none⟩, ⟨some 18, .mv (.t 5), (some (17, true))⟩, ⟨some 19, .bin .leq (.t 18) (.c (.x (.int .u8 (90)))), (some (17, true))⟩, ⟨some 20, .pick (.t 17) (.t 19) (.c (.x (.bool false))), none⟩])
        (.cond (.t 20)
          (.reg [⟨some 21, .mv (.t 5), none⟩, ⟨some 22, .bin .add (.t 21) (.c (.x (.int .u8 (32)))), none⟩, ⟨some 5, .mv (.t 22), none⟩])
          .skip))
        (.reg [⟨some 23, .mv (.t 3), none⟩, ⟨some 24, .mv (.t 5), none⟩, ⟨some 25, .bsl 5 1 1 [(.t 24)], none⟩, ⟨some 26, .app 5 1 1 (.t 23) (.t 25), none⟩, ⟨some 3, .mv (.t 26), none⟩]))))
      (.reg [⟨some 10, .mv (.t 4), none⟩, ⟨some 11, .bin .add (.t 10) (.c (.x (.int .i64 (1)))), none⟩, ⟨some 4, .mv (.t 11), none⟩]))))))
  (.seq (.reg [⟨some 27, .mv (.t 3), none⟩, ⟨some 28, .b2s (.t 27), none⟩, ⟨some 2, .mv (.t 28), none⟩])
  .ret))))⟩
theorem c55 : compFn Try.prog Try.f55 = some i55 := by kernel_rfl
/-- bothy/bothyref01.Texts -/
def i56 : IFn := ⟨26, [.tmp 4], (.seq (.reg [⟨some 4, .mv (.c (.x (.bool false))), none⟩])
  (.seq (.seq (.reg [⟨some 6, .mv (.t 0), none⟩, ⟨some 7, .len false (.t 6), none⟩, ⟨some 8, .mv (.t 1), none⟩, ⟨some 9, .len false (.t 8), none⟩, ⟨some 10, .bin .neq (.t 7) (.t 9), none⟩])
  (.cond (.t 10)
    (.seq (.reg [⟨some 4, .mv (.c (.x (.bool false))), none⟩])
    .ret)
    .skip))
  (.seq (.seq (.reg [⟨some 5, .mv (.c (.x (.int .i64 (0)))), none⟩])
  (.block 0
    (.loop
      (.seq (.seq (.reg [⟨some 11, .mv (.t 5), none⟩, ⟨some 12, .mv (.t 0), none⟩, ⟨some 13, .len false (.t 12), none⟩, ⟨some 14, .bin .lss (.t 11) (.t 13), none⟩])
      (.cond (.t 14)
        .skip
        (.exit 0)))
      (.seq (.block 1
        (.seq (.dreg 8 [] [⟨some 17, .mv (.t 0), none⟩, ⟨some 18, .mv (.t 5), none⟩, ⟨some 19, .iad 1 (.t 17) (.t 18), none⟩, ⟨some 20, .ld 1 false (.t 19), none⟩, ⟨some 21, .mv (.t 1), none⟩, ⟨some 22, .mv (.t 5), none⟩, ⟨some 23, .iad 1 (.t 21) (.t 22), none⟩, ⟨some 24, .ld 1 false (.t 23), none⟩, ⟨some 25, .bin .neq (.t 20) (.t 24), none⟩])
        (.cond (.t 25)
          (.seq (.reg [⟨some 4, .mv (.c (.x (.bool false))), none⟩])
          .ret)
          .skip)))
      (.reg [⟨some 15, .mv (.t 5), none⟩, ⟨some 16, .bin .add (.t 15) (.c (.x (.int .i64 (1)))), none⟩, ⟨some 5, .mv (.t 16), none⟩]))))))
  (.seq (.reg [⟨some 4, .mv (.c (.x (.bool true))), none⟩])
  .ret))))⟩
theorem c56 : compFn Try.prog Try.f56 = some i56 := by kernel_rfl
/-- bothy/count.lines -/
def i57 : IFn := ⟨30, [.tmp 4], (.seq (.reg [⟨some 4, .mv (.c (.x .nils)), none⟩])
  (.seq (.reg [⟨some 5, .mv (.c (.x .nils)), none⟩])
  (.seq (.seq (.reg [⟨some 8, .mv (.t 1), none⟩, ⟨some 9, .len false (.t 8), none⟩, ⟨some 10, .mv (.c (.x (.int .i64 (0)))), none⟩])
  (.block 0
    (.loop
      (.seq (.reg [⟨some 11, .bin .lss (.t 10) (.t 9), none⟩])
      (.seq (.cond (.t 11)
        .skip
        (.exit 0))
      (.seq (.block 1
        (.seq (.reg [⟨some 12, .mv (.t 10), none⟩, ⟨some 13, .iad 1 (.t 8) (.t 10), none⟩, ⟨some 14, .ld 1 false (.t 13), none⟩, ⟨some 6, .mv (.t 12), none⟩, ⟨some 7, .mv (.t 14), none⟩])
        (.seq (.reg [⟨some 15, .mv (.t 7), none⟩, ⟨some 16, .bin .gtr (.t 15) (.c (.x (.int .i64 (0)))), none⟩])
        (.cond (.t 16)
          (.reg [⟨some 17, .mv (.t 5), none⟩, ⟨some 18, .mv (.t 0), none⟩, ⟨some 19, .mv (.t 6), none⟩, ⟨some 20, .call (.c (.fn 78 [])) [(.t 19)], none⟩, ⟨some 21, .bin .add (.t 18) (.t 20), none⟩, ⟨some 22, .bin .add (.t 21) (.c (.x (.str [32]))), none⟩, ⟨some 23, .mv (.t 7), none⟩, ⟨some 24, .call (.c (.fn 78 [])) [(.t 23)], none⟩, ⟨some 25, .bin .add (.t 22) (.t 24), none⟩, ⟨some 26, .bsl 9 1 1 [(.t 25)], none⟩, ⟨some 27, .app 9 1 16 (.t 17) (.t 26), none⟩, ⟨some 5, .mv (.t 27), none⟩])
          .skip))))
      (.reg [⟨some 28, .bin .add (.t 10) (.c (.x (.int .i64 (1)))), none⟩, ⟨some 10, .mv (.t 28), none⟩])))))))
  (.seq (.reg [⟨some 29, .mv (.t 5), none⟩, ⟨some 4, .mv (.t 29), none⟩])
  .ret))))⟩
theorem c57 : compFn Try.prog Try.f57 = some i57 := by kernel_rfl
/-- bothy/entry.With -/
def i58 : IFn := ⟨17, [.cell 6 2 true], (.seq (.reg [⟨some 3, .box (.t 0), none⟩, ⟨some 6, .box (.c (.agg [.x (.str []), .x .nils])), none⟩])
  (.seq (.reg [⟨some 8, .ld 2 true (.t 3), none⟩, ⟨some 9, .call (.c (.fn 79 [])) [(.t 8)], none⟩, ⟨some 7, .box (.c (.agg [.x (.str []), .x .nils])), none⟩, ⟨none, .sto 2 (.t 7) (.t 9), none⟩])
  (.seq (.reg [⟨some 10, .fad 1 (.t 7), none⟩, ⟨some 11, .ld 1 false (.t 10), none⟩, ⟨some 12, .mv (.t 1), none⟩, ⟨some 13, .mv (.t 2), none⟩, ⟨some 14, .call (.c (.fn 80 [])) [(.t 11), (.t 12), (.t 13)], none⟩, ⟨some 15, .fad 1 (.t 7), none⟩, ⟨none, .sto 1 (.t 15) (.t 14), none⟩])
  (.seq (.reg [⟨some 16, .ld 2 true (.t 7), none⟩, ⟨none, .sto 2 (.t 6) (.t 16), none⟩])
  .ret))))⟩
theorem c58 : compFn Try.prog Try.f58 = some i58 := by kernel_rfl
/-- bothy/control.known -/
def i64 : IFn := ⟨17, [.tmp 2], (.seq (.reg [⟨some 2, .mv (.c (.x (.bool false))), none⟩])
  (.seq (.reg [⟨some 3, .mv (.t 0), none⟩, ⟨some 4, .bin .eql (.t 3) (.c (.x (.int .i64 (1)))), none⟩, ⟨some 5, .mv (.t 4), none⟩, ⟨some 6, .mv (.t 0), (some (5, false))⟩, ⟨some 7, .bin .eql (.t 6) (.c (.x (.int .i64 (2)))), (some (5, false))⟩, ⟨some 8, .pick (.t 5) (.c (.x (.bool true))) (.t 7), none⟩, ⟨some 9, .mv (.t 8), none⟩, ⟨some 10, .mv (.t 0), (some (9, false))⟩, ⟨some 11, .bin .eql (.t 10) (.c (.x (.int .i64 (4)))), (some (9, false))⟩, ⟨some 12, .pick (.t 9) (.c (.x (.bool true))) (.t 11), none⟩, ⟨some 13, .mv (.t 12), none⟩, ⟨some 14, .mv (.t 0), (some (13, false))⟩, ⟨some 15, .bin .eql (.t 14) (.c (.x (.int .i64 (8)))), (some (13, false))⟩, ⟨some 16, .pick (.t 13) (.c (.x (.bool true))) (.t 15), none⟩, ⟨some 2, .mv (.t 16), none⟩])
  .ret))⟩
theorem c64 : compFn Try.prog Try.f64 = some i64 := by kernel_rfl
/-- bothy/count.digits -/
def i78 : IFn := ⟨17, [.tmp 2], (.seq (.reg [⟨some 2, .mv (.c (.x (.str []))), none⟩])
  (.seq (.seq (.reg [⟨some 3, .mv (.t 0), none⟩, ⟨some 4, .bin .lss (.t 3) (.c (.x (.int .i64 (10)))), none⟩])
  (.cond (.t 4)
    (.seq (.reg [⟨some 5, .mv (.t 0), none⟩, ⟨some 6, .bin .add (.c (.x (.int .i64 (48)))) (.t 5), none⟩, ⟨some 7, .cvi .u8 (.t 6), none⟩, ⟨some 8, .bsl 5 1 1 [(.t 7)], none⟩, ⟨some 9, .b2s (.t 8), none⟩, ⟨some 2, .mv (.t 9), none⟩])
    .ret)
    .skip))
  (.seq (.reg [⟨some 10, .mv (.t 0), none⟩, ⟨some 11, .bin .quo (.t 10) (.c (.x (.int .i64 (10)))), none⟩, ⟨some 12, .call (.c (.fn 78 [])) [(.t 11)], none⟩, ⟨some 13, .mv (.t 0), none⟩, ⟨some 14, .bin .rem (.t 13) (.c (.x (.int .i64 (10)))), none⟩, ⟨some 15, .call (.c (.fn 78 [])) [(.t 14)], none⟩, ⟨some 16, .bin .add (.t 12) (.t 15), none⟩, ⟨some 2, .mv (.t 16), none⟩])
  .ret)))⟩
theorem c78 : compFn Try.prog Try.f78 = some i78 := by kernel_rfl
/-- bothy/entry.Clean -/
def i79 : IFn := ⟨26, [.cell 2 2 true], (.seq (.reg [⟨some 1, .box (.t 0), none⟩, ⟨some 2, .box (.c (.agg [.x (.str []), .x .nils])), none⟩])
  (.seq (.reg [⟨some 6, .fad 0 (.t 1), none⟩, ⟨some 7, .ld 1 false (.t 6), none⟩, ⟨some 8, .build [.x (.str []), .x .nils] [(0, 1, (.t 7))], none⟩, ⟨some 3, .box (.c (.agg [.x (.str []), .x .nils])), none⟩, ⟨none, .sto 2 (.t 3) (.t 8), none⟩])
  (.seq (.seq (.reg [⟨some 9, .fad 1 (.t 1), none⟩, ⟨some 10, .ld 1 false (.t 9), none⟩, ⟨some 11, .len false (.t 10), none⟩, ⟨some 12, .mv (.c (.x (.int .i64 (0)))), none⟩])
  (.block 0
    (.loop
      (.seq (.reg [⟨some 13, .bin .lss (.t 12) (.t 11), none⟩])
      (.seq (.cond (.t 13)
        .skip
        (.exit 0))
      (.seq (.block 1
        (.seq (.reg [⟨some 14, .iad 2 (.t 10) (.t 12), none⟩, ⟨some 15, .ld 2 true (.t 14), none⟩, ⟨some 5, .box (.c (.agg [.x (.str []), .x .nils])), none⟩, ⟨none, .sto 2 (.t 5) (.t 15), none⟩])
        (.reg [⟨some 16, .fad 1 (.t 3), none⟩, ⟨some 17, .ld 1 false (.t 16), none⟩, ⟨some 18, .fad 0 (.t 5), none⟩, ⟨some 19, .ld 1 false (.t 18), none⟩, ⟨some 20, .fad 1 (.t 5), none⟩, ⟨some 21, .ld 1 false (.t 20), none⟩, ⟨some 22, .call (.c (.fn 80 [])) [(.t 17), (.t 19), (.t 21)], none⟩, ⟨some 23, .fad 1 (.t 3), none⟩, ⟨none, .sto 1 (.t 23) (.t 22), none⟩])))
      (.reg [⟨some 24, .bin .add (.t 12) (.c (.x (.int .i64 (1)))), none⟩, ⟨some 12, .mv (.t 24), none⟩])))))))
  (.seq (.reg [⟨some 25, .ld 2 true (.t 3), none⟩, ⟨none, .sto 2 (.t 2) (.t 25), none⟩])
  .ret))))⟩
theorem c79 : compFn Try.prog Try.f79 = some i79 := by kernel_rfl
/-- bothy/entry.put -/
def i80 : IFn := ⟨61, [.tmp 6], (.seq (.reg [⟨some 6, .mv (.c (.x .nils)), none⟩])
  (.seq (.reg [⟨some 13, .mv (.t 1), none⟩, ⟨some 14, .call (.c (.fn 89 [])) [(.t 13)], none⟩, ⟨some 7, .mv (.t 14), none⟩])
  (.seq (.seq (.reg [⟨some 15, .mv (.t 2), none⟩, ⟨some 16, .len false (.t 15), none⟩, ⟨some 17, .bin .eql (.t 16) (.c (.x (.int .i64 (0)))), none⟩])
  (.cond (.t 17)
    (.seq (.reg [⟨some 18, .mv (.t 0), none⟩, ⟨some 6, .mv (.t 18), none⟩])
    .ret)
    .skip))
  (.seq (.reg [⟨some 20, .mv (.t 0), none⟩, ⟨some 21, .mv (.t 7), none⟩, ⟨some 22, .call (.c (.fn 90 [])) [(.t 20), (.t 21), (.c (.fn 91 []))], none⟩, ⟨some 19, .mv (.t 22), none⟩, ⟨some 23, .ext (.t 19) 0, none⟩, ⟨some 24, .ext (.t 19) 1, none⟩, ⟨some 8, .mv (.t 23), none⟩, ⟨some 9, .mv (.t 24), none⟩])
  (.seq (.seq (.reg [⟨some 25, .mv (.t 9), none⟩, ⟨some 26, .un .not (.t 25), none⟩])
  (.cond (.t 26)
    (.reg [⟨some 27, .mv (.t 0), none⟩, ⟨some 28, .mv (.t 8), none⟩, ⟨some 29, .mv (.t 7), none⟩, ⟨some 30, .build [.x (.str []), .x .nils] [(0, 1, (.t 29))], none⟩, ⟨some 31, .bsl 120 2 1 [(.t 30)], none⟩, ⟨some 32, .call (.c (.fn 92 [])) [(.t 27), (.t 28), (.t 31)], none⟩, ⟨some 0, .mv (.t 32), none⟩])
    .skip))
  (.seq (.reg [⟨some 10, .mv (.c (.x .nils)), none⟩])
  (.seq (.seq (.reg [⟨some 33, .mv (.t 0), none⟩, ⟨some 34, .mv (.t 8), none⟩, ⟨some 35, .iad 2 (.t 33) (.t 34), none⟩, ⟨some 36, .fad 1 (.t 35), none⟩, ⟨some 37, .ld 1 false (.t 36), none⟩, ⟨some 38, .mv (.t 2), none⟩, ⟨some 39, .bsl 43 1 2 [(.t 37), (.t 38)], none⟩, ⟨some 40, .call (.c (.fn 93 [])) [(.t 39)], none⟩, ⟨some 41, .len false (.t 40), none⟩, ⟨some 42, .mv (.c (.x (.int .i64 (0)))), none⟩])
  (.block 0
    (.loop
      (.seq (.reg [⟨some 43, .bin .lss (.t 42) (.t 41), none⟩])
      (.seq (.cond (.t 43)
        .skip
        (.exit 0))
      (.seq (.block 1
        (.seq (.reg [⟨some 44, .iad 1 (.t 40) (.t 42), none⟩, ⟨some 45, .ld 1 false (.t 44), none⟩, ⟨some 12, .mv (.t 45), none⟩])
        (.seq (.reg [⟨some 46, .mv (.t 10), none⟩, ⟨some 47, .mv (.t 12), none⟩, ⟨some 48, .call (.c (.fn 94 [])) [(.t 46), (.t 47)], none⟩, ⟨some 49, .un .not (.t 48), none⟩])
        (.cond (.t 49)
          (.reg [⟨some 50, .mv (.t 10), none⟩, ⟨some 51, .mv (.t 12), none⟩, ⟨some 52, .bsl 9 1 1 [(.t 51)], none⟩, ⟨some 53, .app 9 1 16 (.t 50) (.t 52), none⟩, ⟨some 10, .mv (.t 53), none⟩])
          .skip))))
      (.reg [⟨some 54, .bin .add (.t 42) (.c (.x (.int .i64 (1)))), none⟩, ⟨some 42, .mv (.t 54), none⟩])))))))
  (.seq (.reg [⟨some 55, .mv (.t 0), none⟩, ⟨some 56, .mv (.t 8), none⟩, ⟨some 57, .mv (.t 10), none⟩, ⟨some 58, .iad 2 (.t 55) (.t 56), none⟩, ⟨some 59, .fad 1 (.t 58), none⟩, ⟨none, .sto 1 (.t 59) (.t 57), none⟩])
  (.seq (.reg [⟨some 60, .mv (.t 0), none⟩, ⟨some 6, .mv (.t 60), none⟩])
  .ret)))))))))⟩
theorem c80 : compFn Try.prog Try.f80 = some i80 := by kernel_rfl
/-- bothy/fold.Lower -/
def i89 : IFn := ⟨30, [.tmp 2], (.seq (.reg [⟨some 2, .mv (.c (.x (.str []))), none⟩])
  (.seq (.reg [⟨some 6, .mv (.t 0), none⟩, ⟨some 7, .s2b 5 (.t 6), none⟩, ⟨some 3, .mv (.t 7), none⟩])
  (.seq (.seq (.reg [⟨some 8, .mv (.t 3), none⟩, ⟨some 9, .len false (.t 8), none⟩, ⟨some 10, .mv (.c (.x (.int .i64 (0)))), none⟩])
  (.block 0
    (.loop
      (.seq (.reg [⟨some 11, .bin .lss (.t 10) (.t 9), none⟩])
      (.seq (.cond (.t 11)
        .skip
        (.exit 0))
      (.seq (.block 1
        (.seq (.reg [⟨some 12, .mv (.t 10), none⟩, ⟨some 13, .iad 1 (.t 8) (.t 10), none⟩, ⟨some 14, .ld 1 false (.t 13), none⟩, ⟨some 4, .mv (.t 12), none⟩, ⟨some 5, .mv (.t 14), none⟩])
        (.seq (.reg [⟨some 15, .mv (.t 5), none⟩, ⟨some 16, .bin .geq (.t 15) (.c (.x (.int .u8 (65)))), none⟩, ⟨some 17, .mv (.t 16), none⟩, ⟨some 18, .mv (.t 5), (some (17, true))⟩, ⟨some 19, .bin .leq (.t 18) (.c (.x (.int .u8 (90)))), (some (17, true))⟩, ⟨some 20, .pick (.t 17) (.t 19) (.c (.x (.bool false))), none⟩])
        (.cond (.t 20)
          (.reg [⟨some 21, .mv (.t 3), none⟩, ⟨some 22, .mv (.t 4), none⟩, ⟨some 23, .mv (.t 5), none⟩, ⟨some 24, .bin .sub (.t 23) (.c (.x (.int .u8 (65)))), none⟩, ⟨some 25, .bin .add (.t 24) (.c (.x (.int .u8 (97)))), none⟩, ⟨some 26, .iad 1 (.t 21) (.t 22), none⟩, ⟨none, .sto 1 (.t 26) (.t 25), none⟩])
          .skip))))
      (.reg [⟨some 27, .bin .add (.t 10) (.c (.x (.int .i64 (1)))), none⟩, ⟨some 10, .mv (.t 27), none⟩])))))))
  (.seq (.reg [⟨some 28, .mv (.t 3), none⟩, ⟨some 29, .b2s (.t 28), none⟩, ⟨some 2, .mv (.t 29), none⟩])
  .ret))))⟩
theorem c89 : compFn Try.prog Try.f89 = some i89 := by kernel_rfl
/-- slices.BinarySearchFunc[[]bothy/api.Attr,bothy/api.Attr,string] -/
def i90 : IFn := ⟨49, [.tmp 6, .tmp 7], (.seq (.reg [⟨some 6, .mv (.c (.x (.int .i64 (0)))), none⟩, ⟨some 7, .mv (.c (.x (.bool false))), none⟩])
  (.seq (.reg [⟨some 12, .mv (.t 0), none⟩, ⟨some 13, .len false (.t 12), none⟩, ⟨some 8, .mv (.t 13), none⟩])
  (.seq (.reg [⟨some 14, .mv (.t 8), none⟩, ⟨some 9, .mv (.c (.x (.int .i64 (0)))), none⟩, ⟨some 10, .mv (.t 14), none⟩])
  (.seq (.block 0
    (.loop
      (.seq (.seq (.reg [⟨some 15, .mv (.t 9), none⟩, ⟨some 16, .mv (.t 10), none⟩, ⟨some 17, .bin .lss (.t 15) (.t 16), none⟩])
      (.cond (.t 17)
        .skip
        (.exit 0)))
      (.block 1
        (.seq (.reg [⟨some 18, .mv (.t 9), none⟩, ⟨some 19, .mv (.t 10), none⟩, ⟨some 20, .bin .add (.t 18) (.t 19), none⟩, ⟨some 21, .cvi .u64 (.t 20), none⟩, ⟨some 22, .bin .shr (.t 21) (.c (.x (.int .u64 (1)))), none⟩, ⟨some 23, .cvi .i64 (.t 22), none⟩, ⟨some 11, .mv (.t 23), none⟩])
        (.seq (.reg [⟨some 24, .mv (.t 2), none⟩, ⟨some 25, .mv (.t 0), none⟩, ⟨some 26, .mv (.t 11), none⟩, ⟨some 27, .iad 2 (.t 25) (.t 26), none⟩, ⟨some 28, .ld 2 true (.t 27), none⟩, ⟨some 29, .mv (.t 1), none⟩, ⟨some 30, .call (.t 24) [(.t 28), (.t 29)], none⟩, ⟨some 31, .bin .lss (.t 30) (.c (.x (.int .i64 (0)))), none⟩])
        (.cond (.t 31)
          (.reg [⟨some 32, .mv (.t 11), none⟩, ⟨some 33, .bin .add (.t 32) (.c (.x (.int .i64 (1)))), none⟩, ⟨some 9, .mv (.t 33), none⟩])
          (.reg [⟨some 34, .mv (.t 11), none⟩, ⟨some 10, .mv (.t 34), none⟩]))))))))
  (.seq (.reg [⟨some 35, .mv (.t 9), none⟩, ⟨some 36, .mv (.t 9), none⟩, ⟨some 37, .mv (.t 8), none⟩, ⟨some 38, .bin .lss (.t 36) (.t 37), none⟩, ⟨some 39, .mv (.t 38), none⟩, ⟨some 40, .mv (.t 2), (some (39, true))⟩, ⟨some 41, .mv (.t 0), (some (39, true))⟩, ⟨some 42, .mv (.t 9), (some (39, true))⟩, ⟨some 43, .iad 2 (.t 41) (.t 42), (some (39, true))⟩, ⟨some 44, .ld 2 true (.t 43), (some (39, true))⟩, ⟨some 45, .mv (.t 1), (some (39, true))⟩, ⟨some 46, .call (.t 40) [(.t 44), (.t 45)], (some (39, true))⟩, ⟨some 47, .bin .eql (.t 46) (.c (.x (.int .i64 (0)))), (some (39, true))⟩, ⟨some 48, .pick (.t 39) (.t 47) (.c (.x (.bool false))), none⟩, ⟨some 6, .mv (.t 35), none⟩, ⟨some 7, .mv (.t 48), none⟩])
  .ret)))))⟩
theorem c90 : compFn Try.prog Try.f90 = some i90 := by kernel_rfl
/-- bothy/entry.order -/
def i91 : IFn := ⟨9, [.tmp 4], (.seq (.reg [⟨some 2, .box (.t 0), none⟩, ⟨some 4, .mv (.c (.x (.int .i64 (0)))), none⟩])
  (.seq (.reg [⟨some 5, .fad 0 (.t 2), none⟩, ⟨some 6, .ld 1 false (.t 5), none⟩, ⟨some 7, .mv (.t 1), none⟩, ⟨some 8, .call (.c (.fn 97 [])) [(.t 6), (.t 7)], none⟩, ⟨some 4, .mv (.t 8), none⟩])
  .ret))⟩
theorem c91 : compFn Try.prog Try.f91 = some i91 := by kernel_rfl
/-- slices.Insert[[]bothy/api.Attr,bothy/api.Attr] -/
def i92 : IFn := ⟨95, [.tmp 6], (.seq (.reg [⟨some 6, .mv (.c (.x .nils)), none⟩])
  (.seq (.reg [⟨some 10, .mv (.t 0), none⟩, ⟨some 11, .mv (.t 1), none⟩, ⟨some 12, .slc 2 (.t 10) (some (.t 11)) none none, none⟩])
  (.seq (.reg [⟨some 13, .mv (.t 2), none⟩, ⟨some 14, .len false (.t 13), none⟩, ⟨some 7, .mv (.t 14), none⟩])
  (.seq (.seq (.reg [⟨some 15, .mv (.t 7), none⟩, ⟨some 16, .bin .eql (.t 15) (.c (.x (.int .i64 (0)))), none⟩])
  (.cond (.t 16)
    (.seq (.reg [⟨some 17, .mv (.t 0), none⟩, ⟨some 6, .mv (.t 17), none⟩])
    .ret)
    .skip))
  (.seq (.reg [⟨some 18, .mv (.t 0), none⟩, ⟨some 19, .len false (.t 18), none⟩, ⟨some 8, .mv (.t 19), none⟩])
  (.seq (.seq (.reg [⟨some 20, .mv (.t 1), none⟩, ⟨some 21, .mv (.t 8), none⟩, ⟨some 22, .bin .eql (.t 20) (.t 21), none⟩])
  (.cond (.t 22)
    (.seq (.reg [⟨some 23, .mv (.t 0), none⟩, ⟨some 24, .mv (.t 2), none⟩, ⟨some 25, .app 120 2 40 (.t 23) (.t 24), none⟩, ⟨some 6, .mv (.t 25), none⟩])
    .ret)
    .skip))
  (.seq (.seq .dead
  (.cond (.t 31)
    (.seq (.reg [⟨some 32, .mv (.t 0), none⟩, ⟨some 33, .mv (.t 1), none⟩, ⟨some 34, .slc 2 (.t 32) none (some (.t 33)) none, none⟩, ⟨some 35, .mv (.t 8), none⟩, ⟨some 36, .mv (.t 7), none⟩, ⟨some 37, .bin .add (.t 35) (.t 36), none⟩, ⟨some 38, .mv (.t 1), none⟩, ⟨some 39, .bin .sub (.t 37) (.t 38), none⟩, ⟨some 40, .apz 120 2 40 [(.str []), .nils] (.t 34) (.t 39), none⟩, ⟨some 9, .mv (.t 40), none⟩])
    (.seq (.reg [⟨some 41, .mv (.t 9), none⟩, ⟨some 42, .mv (.t 1), none⟩, ⟨some 43, .slc 2 (.t 41) (some (.t 42)) none none, none⟩, ⟨some 44, .mv (.t 2), none⟩, ⟨some 45, .cpy 2 (.t 43) (.t 44), none⟩])
    (.seq (.dreg 8 [] [⟨some 46, .mv (.t 9), none⟩, ⟨some 47, .mv (.t 1), none⟩, ⟨some 48, .mv (.t 7), none⟩, ⟨some 49, .bin .add (.t 47) (.t 48), none⟩, ⟨some 50, .slc 2 (.t 46) (some (.t 49)) none none, none⟩, ⟨some 51, .mv (.t 0), none⟩, ⟨some 52, .mv (.t 1), none⟩, ⟨some 53, .slc 2 (.t 51) (some (.t 52)) none none, none⟩, ⟨some 54, .cpy 2 (.t 50) (.t 53), none⟩])
    (.seq (.reg [⟨some 55, .mv (.t 9), none⟩, ⟨some 6, .mv (.t 55), none⟩])
    .ret))))
    .skip))
  (.seq (.reg [⟨some 56, .mv (.t 0), none⟩, ⟨some 57, .mv (.t 8), none⟩, ⟨some 58, .mv (.t 7), none⟩, ⟨some 59, .bin .add (.t 57) (.t 58), none⟩, ⟨some 60, .slc 2 (.t 56) none (some (.t 59)) none, none⟩, ⟨some 0, .mv (.t 60), none⟩])
  (.seq (.seq (.reg [⟨some 61, .mv (.t 2), none⟩, ⟨some 62, .mv (.t 0), none⟩, ⟨some 63, .mv (.t 1), none⟩, ⟨some 64, .mv (.t 7), none⟩, ⟨some 65, .bin .add (.t 63) (.t 64), none⟩, ⟨some 66, .slc 2 (.t 62) (some (.t 65)) none none, none⟩, ⟨some 67, .call (.c (.fn 98 [])) [(.t 61), (.t 66)], none⟩, ⟨some 68, .un .not (.t 67), none⟩])
  (.cond (.t 68)
    (.seq (.dreg 8 [] [⟨some 69, .mv (.t 0), none⟩, ⟨some 70, .mv (.t 1), none⟩, ⟨some 71, .mv (.t 7), none⟩, ⟨some 72, .bin .add (.t 70) (.t 71), none⟩, ⟨some 73, .slc 2 (.t 69) (some (.t 72)) none none, none⟩, ⟨some 74, .mv (.t 0), none⟩, ⟨some 75, .mv (.t 1), none⟩, ⟨some 76, .slc 2 (.t 74) (some (.t 75)) none none, none⟩, ⟨some 77, .cpy 2 (.t 73) (.t 76), none⟩])
    (.seq (.reg [⟨some 78, .mv (.t 0), none⟩, ⟨some 79, .mv (.t 1), none⟩, ⟨some 80, .slc 2 (.t 78) (some (.t 79)) none none, none⟩, ⟨some 81, .mv (.t 2), none⟩, ⟨some 82, .cpy 2 (.t 80) (.t 81), none⟩])
    (.seq (.reg [⟨some 83, .mv (.t 0), none⟩, ⟨some 6, .mv (.t 83), none⟩])
    .ret)))
    .skip))
  (.seq (.reg [⟨some 84, .mv (.t 0), none⟩, ⟨some 85, .mv (.t 8), none⟩, ⟨some 86, .slc 2 (.t 84) (some (.t 85)) none none, none⟩, ⟨some 87, .mv (.t 2), none⟩, ⟨some 88, .cpy 2 (.t 86) (.t 87), none⟩])
  (.seq (.reg [⟨some 89, .mv (.t 0), none⟩, ⟨some 90, .mv (.t 1), none⟩, ⟨some 91, .slc 2 (.t 89) (some (.t 90)) none none, none⟩, ⟨some 92, .mv (.t 7), none⟩, ⟨some 93, .call (.c (.fn 99 [])) [(.t 91), (.t 92)], none⟩])
  (.seq (.reg [⟨some 94, .mv (.t 0), none⟩, ⟨some 6, .mv (.t 94), none⟩])
  .ret))))))))))))⟩
theorem c92 : compFn Try.prog Try.f92 = some i92 := by kernel_rfl
/-- slices.Concat[[]string,string] -/
def i93 : IFn := ⟨36, [.tmp 2], (.seq (.reg [⟨some 2, .mv (.c (.x .nils)), none⟩])
  (.seq (.reg [⟨some 3, .mv (.c (.x (.int .i64 (0)))), none⟩])
  (.seq (.seq (.reg [⟨some 9, .mv (.t 0), none⟩, ⟨some 10, .len false (.t 9), none⟩, ⟨some 11, .mv (.c (.x (.int .i64 (0)))), none⟩])
  (.block 0
    (.loop
      (.seq (.reg [⟨some 12, .bin .lss (.t 11) (.t 10), none⟩])
      (.seq (.cond (.t 12)
        .skip
        (.exit 0))
      (.seq (.block 1
        (.seq (.reg [⟨some 13, .iad 1 (.t 9) (.t 11), none⟩, ⟨some 14, .ld 1 false (.t 13), none⟩, ⟨some 5, .mv (.t 14), none⟩])
        (.seq (.reg [⟨some 15, .mv (.t 3), none⟩, ⟨some 16, .mv (.t 5), none⟩, ⟨some 17, .len false (.t 16), none⟩, ⟨some 18, .bin .add (.t 15) (.t 17), none⟩, ⟨some 3, .mv (.t 18), none⟩])
        (.seq (.reg [⟨some 19, .mv (.t 3), none⟩, ⟨some 20, .bin .lss (.t 19) (.c (.x (.int .i64 (0)))), none⟩])
        (.cond (.t 20)
          .dead
          .skip)))))
      (.reg [⟨some 22, .bin .add (.t 11) (.c (.x (.int .i64 (1)))), none⟩, ⟨some 11, .mv (.t 22), none⟩])))))))
  (.seq (.reg [⟨some 23, .mv (.t 3), none⟩, ⟨some 24, .call (.c (.fn 100 [])) [(.c (.x .nils)), (.t 23)], none⟩, ⟨some 6, .mv (.t 24), none⟩])
  (.seq (.seq (.reg [⟨some 25, .mv (.t 0), none⟩, ⟨some 26, .len false (.t 25), none⟩, ⟨some 27, .mv (.c (.x (.int .i64 (0)))), none⟩])
  (.block 2
    (.loop
      (.seq (.reg [⟨some 28, .bin .lss (.t 27) (.t 26), none⟩])
      (.seq (.cond (.t 28)
        .skip
        (.exit 2))
      (.seq (.block 3
        (.seq (.reg [⟨some 29, .iad 1 (.t 25) (.t 27), none⟩, ⟨some 30, .ld 1 false (.t 29), none⟩, ⟨some 8, .mv (.t 30), none⟩])
        (.reg [⟨some 31, .mv (.t 6), none⟩, ⟨some 32, .mv (.t 8), none⟩, ⟨some 33, .app 9 1 16 (.t 31) (.t 32), none⟩, ⟨some 6, .mv (.t 33), none⟩])))
      (.reg [⟨some 34, .bin .add (.t 27) (.c (.x (.int .i64 (1)))), none⟩, ⟨some 27, .mv (.t 34), none⟩])))))))
  (.seq (.reg [⟨some 35, .mv (.t 6), none⟩, ⟨some 2, .mv (.t 35), none⟩])
  .ret))))))⟩
theorem c93 : compFn Try.prog Try.f93 = some i93 := by kernel_rfl
/-- slices.Contains[[]string,string] -/
def i94 : IFn := ⟨9, [.tmp 4], (.seq (.reg [⟨some 4, .mv (.c (.x (.bool false))), none⟩])
  (.seq (.reg [⟨some 5, .mv (.t 0), none⟩, ⟨some 6, .mv (.t 1), none⟩, ⟨some 7, .call (.c (.fn 101 [])) [(.t 5), (.t 6)], none⟩, ⟨some 8, .bin .geq (.t 7) (.c (.x (.int .i64 (0)))), none⟩, ⟨some 4, .mv (.t 8), none⟩])
  .ret))⟩
theorem c94 : compFn Try.prog Try.f94 = some i94 := by kernel_rfl
/-- cmp.Compare[string] -/
def i97 : IFn := ⟨20, [.tmp 4], (.seq (.reg [⟨some 4, .mv (.c (.x (.int .i64 (0)))), none⟩])
  (.seq (.reg [⟨some 7, .mv (.t 0), none⟩, ⟨some 8, .call (.c (.fn 104 [])) [(.t 7)], none⟩, ⟨some 5, .mv (.t 8), none⟩])
  (.seq (.reg [⟨some 9, .mv (.t 1), none⟩, ⟨some 10, .call (.c (.fn 104 [])) [(.t 9)], none⟩, ⟨some 6, .mv (.t 10), none⟩])
  (.seq (.seq (.reg [⟨some 11, .mv (.t 5), none⟩])
  (.cond (.t 11)
    (.seq (.seq (.reg [⟨some 12, .mv (.t 6), none⟩])
    (.cond (.t 12)
      (.seq (.reg [⟨some 4, .mv (.c (.x (.int .i64 (0)))), none⟩])
      .ret)
      .skip))
    (.seq (.reg [⟨some 4, .mv (.c (.x (.int .i64 (-1)))), none⟩])
    .ret))
    .skip))
  (.seq (.seq (.reg [⟨some 13, .mv (.t 6), none⟩])
  (.cond (.t 13)
    (.seq (.reg [⟨some 4, .mv (.c (.x (.int .i64 (1)))), none⟩])
    .ret)
    .skip))
  (.seq (.seq (.reg [⟨some 14, .mv (.t 0), none⟩, ⟨some 15, .mv (.t 1), none⟩, ⟨some 16, .bin .lss (.t 14) (.t 15), none⟩])
  (.cond (.t 16)
    (.seq (.reg [⟨some 4, .mv (.c (.x (.int .i64 (-1)))), none⟩])
    .ret)
    .skip))
  (.seq (.seq (.reg [⟨some 17, .mv (.t 0), none⟩, ⟨some 18, .mv (.t 1), none⟩, ⟨some 19, .bin .gtr (.t 17) (.t 18), none⟩])
  (.cond (.t 19)
    (.seq (.reg [⟨some 4, .mv (.c (.x (.int .i64 (1)))), none⟩])
    .ret)
    .skip))
  (.seq (.reg [⟨some 4, .mv (.c (.x (.int .i64 (0)))), none⟩])
  .ret))))))))⟩
theorem c97 : compFn Try.prog Try.f97 = some i97 := by kernel_rfl
/-- slices.rotateRight[bothy/api.Attr] -/
def i99 : IFn := ⟨10, [], (.reg [⟨some 4, .mv (.t 0), none⟩, ⟨some 5, .mv (.t 0), none⟩, ⟨some 6, .len false (.t 5), none⟩, ⟨some 7, .mv (.t 1), none⟩, ⟨some 8, .bin .sub (.t 6) (.t 7), none⟩, ⟨some 9, .call (.c (.fn 105 [])) [(.t 4), (.t 8)], none⟩])⟩
theorem c99 : compFn Try.prog Try.f99 = some i99 := by kernel_rfl
/-- slices.Grow[[]string,string] -/
def i100 : IFn := ⟨27, [.tmp 4], (.seq (.reg [⟨some 4, .mv (.c (.x .nils)), none⟩])
  (.seq (.seq (.reg [⟨some 5, .mv (.t 1), none⟩, ⟨some 6, .bin .lss (.t 5) (.c (.x (.int .i64 (0)))), none⟩])
  (.cond (.t 6)
    .dead
    .skip))
  (.seq (.seq .dead
  (.seq (.reg [⟨some 15, .mv (.t 1), none⟩, ⟨some 16, .bin .gtr (.t 15) (.c (.x (.int .i64 (0)))), none⟩])
  (.cond (.t 16)
    .dead
    .skip)))
  (.seq (.reg [⟨some 26, .mv (.t 0), none⟩, ⟨some 4, .mv (.t 26), none⟩])
  .ret))))⟩
theorem c100 : compFn Try.prog Try.f100 = some i100 := by kernel_rfl
/-- slices.Index[[]string,string] -/
def i101 : IFn := ⟨19, [.tmp 4], (.seq (.reg [⟨some 4, .mv (.c (.x (.int .i64 (0)))), none⟩])
  (.seq (.seq (.reg [⟨some 6, .mv (.t 0), none⟩, ⟨some 7, .len false (.t 6), none⟩, ⟨some 8, .mv (.c (.x (.int .i64 (0)))), none⟩])
  (.block 0
    (.loop
      (.seq (.reg [⟨some 9, .bin .lss (.t 8) (.t 7), none⟩])
      (.seq (.cond (.t 9)
        .skip
        (.exit 0))
      (.seq (.block 1
        (.seq (.reg [⟨some 10, .mv (.t 8), none⟩, ⟨some 5, .mv (.t 10), none⟩])
        (.seq (.reg [⟨some 11, .mv (.t 1), none⟩, ⟨some 12, .mv (.t 0), none⟩, ⟨some 13, .mv (.t 5), none⟩, ⟨some 14, .iad 1 (.t 12) (.t 13), none⟩, ⟨some 15, .ld 1 false (.t 14), none⟩, ⟨some 16, .bin .eql (.t 11) (.t 15), none⟩])
        (.cond (.t 16)
          (.seq (.reg [⟨some 17, .mv (.t 5), none⟩, ⟨some 4, .mv (.t 17), none⟩])
          .ret)
          .skip))))
      (.reg [⟨some 18, .bin .add (.t 8) (.c (.x (.int .i64 (1)))), none⟩, ⟨some 8, .mv (.t 18), none⟩])))))))
  (.seq (.reg [⟨some 4, .mv (.c (.x (.int .i64 (-1)))), none⟩])
  .ret)))⟩
theorem c101 : compFn Try.prog Try.f101 = some i101 := by kernel_rfl
/-- cmp.isNaN[string] -/
def i104 : IFn := ⟨6, [.tmp 2], (.seq (.reg [⟨some 2, .mv (.c (.x (.bool false))), none⟩])
  (.seq (.reg [⟨some 3, .mv (.t 0), none⟩, ⟨some 4, .mv (.t 0), none⟩, ⟨some 5, .bin .neq (.t 3) (.t 4), none⟩, ⟨some 2, .mv (.t 5), none⟩])
  .ret))⟩
theorem c104 : compFn Try.prog Try.f104 = some i104 := by kernel_rfl
/-- slices.rotateLeft[bothy/api.Attr] -/
def i105 : IFn := ⟨14, [], (.seq (.reg [⟨some 4, .mv (.t 0), none⟩, ⟨some 5, .mv (.t 1), none⟩, ⟨some 6, .slc 2 (.t 4) none (some (.t 5)) none, none⟩, ⟨some 7, .call (.c (.fn 106 [])) [(.t 6)], none⟩])
  (.seq (.reg [⟨some 8, .mv (.t 0), none⟩, ⟨some 9, .mv (.t 1), none⟩, ⟨some 10, .slc 2 (.t 8) (some (.t 9)) none none, none⟩, ⟨some 11, .call (.c (.fn 106 [])) [(.t 10)], none⟩])
  (.reg [⟨some 12, .mv (.t 0), none⟩, ⟨some 13, .call (.c (.fn 106 [])) [(.t 12)], none⟩])))⟩
theorem c105 : compFn Try.prog Try.f105 = some i105 := by kernel_rfl
/-- slices.Reverse[[]bothy/api.Attr,bothy/api.Attr] -/
def i106 : IFn := ⟨28, [], (.seq (.reg [⟨some 4, .mv (.t 0), none⟩, ⟨some 5, .len false (.t 4), none⟩, ⟨some 6, .bin .sub (.t 5) (.c (.x (.int .i64 (1)))), none⟩, ⟨some 2, .mv (.c (.x (.int .i64 (0)))), none⟩, ⟨some 3, .mv (.t 6), none⟩])
  (.block 0
    (.loop
      (.seq (.seq (.reg [⟨some 7, .mv (.t 2), none⟩, ⟨some 8, .mv (.t 3), none⟩, ⟨some 9, .bin .lss (.t 7) (.t 8), none⟩])
      (.cond (.t 9)
        .skip
        (.exit 0)))
      (.seq (.block 1
        (.dreg 12 [] [⟨some 14, .mv (.t 0), none⟩, ⟨some 15, .mv (.t 2), none⟩, ⟨some 16, .mv (.t 0), none⟩, ⟨some 17, .mv (.t 3), none⟩, ⟨some 18, .mv (.t 0), none⟩, ⟨some 19, .mv (.t 3), none⟩, ⟨some 20, .iad 2 (.t 18) (.t 19), none⟩, ⟨some 21, .ld 2 true (.t 20), none⟩, ⟨some 22, .mv (.t 0), none⟩, ⟨some 23, .mv (.t 2), none⟩, ⟨some 24, .iad 2 (.t 22) (.t 23), none⟩, ⟨some 25, .ld 2 true (.t 24), none⟩, ⟨some 26, .iad 2 (.t 14) (.t 15), none⟩, ⟨none, .sto 2 (.t 26) (.t 21), none⟩, ⟨some 27, .iad 2 (.t 16) (.t 17), none⟩, ⟨none, .sto 2 (.t 27) (.t 25), none⟩]))
      (.reg [⟨some 10, .mv (.t 2), none⟩, ⟨some 11, .bin .add (.t 10) (.c (.x (.int .i64 (1)))), none⟩, ⟨some 12, .mv (.t 3), none⟩, ⟨some 13, .bin .sub (.t 12) (.c (.x (.int .i64 (1)))), none⟩, ⟨some 2, .mv (.t 11), none⟩, ⟨some 3, .mv (.t 13), none⟩]))))))⟩
theorem c106 : compFn Try.prog Try.f106 = some i106 := by kernel_rfl
def G : FuncId → Option IFn
  | 5 => some i5
  | 16 => some i16
  | 17 => some i17
  | 18 => some i18
  | 19 => some i19
  | 20 => some i20
  | 21 => some i21
  | 22 => some i22
  | 23 => some i23
  | 24 => some i24
  | 25 => some i25
  | 51 => some i51
  | 52 => some i52
  | 53 => some i53
  | 54 => some i54
  | 55 => some i55
  | 56 => some i56
  | 57 => some i57
  | 58 => some i58
  | 64 => some i64
  | 78 => some i78
  | 79 => some i79
  | 80 => some i80
  | 89 => some i89
  | 90 => some i90
  | 91 => some i91
  | 92 => some i92
  | 93 => some i93
  | 94 => some i94
  | 97 => some i97
  | 99 => some i99
  | 100 => some i100
  | 101 => some i101
  | 104 => some i104
  | 105 => some i105
  | 106 => some i106
  | _ => none
theorem G_ok : GOk Try.prog G := by
  intro f p h
  unfold G at h
  split at h
  · cases h; exact ⟨Try.f5, Try.func5, by decide, c5⟩
  · cases h; exact ⟨Try.f16, Try.func16, by decide, c16⟩
  · cases h; exact ⟨Try.f17, Try.func17, by decide, c17⟩
  · cases h; exact ⟨Try.f18, Try.func18, by decide, c18⟩
  · cases h; exact ⟨Try.f19, Try.func19, by decide, c19⟩
  · cases h; exact ⟨Try.f20, Try.func20, by decide, c20⟩
  · cases h; exact ⟨Try.f21, Try.func21, by decide, c21⟩
  · cases h; exact ⟨Try.f22, Try.func22, by decide, c22⟩
  · cases h; exact ⟨Try.f23, Try.func23, by decide, c23⟩
  · cases h; exact ⟨Try.f24, Try.func24, by decide, c24⟩
  · cases h; exact ⟨Try.f25, Try.func25, by decide, c25⟩
  · cases h; exact ⟨Try.f51, Try.func51, by decide, c51⟩
  · cases h; exact ⟨Try.f52, Try.func52, by decide, c52⟩
  · cases h; exact ⟨Try.f53, Try.func53, by decide, c53⟩
  · cases h; exact ⟨Try.f54, Try.func54, by decide, c54⟩
  · cases h; exact ⟨Try.f55, Try.func55, by decide, c55⟩
  · cases h; exact ⟨Try.f56, Try.func56, by decide, c56⟩
  · cases h; exact ⟨Try.f57, Try.func57, by decide, c57⟩
  · cases h; exact ⟨Try.f58, Try.func58, by decide, c58⟩
  · cases h; exact ⟨Try.f64, Try.func64, by decide, c64⟩
  · cases h; exact ⟨Try.f78, Try.func78, by decide, c78⟩
  · cases h; exact ⟨Try.f79, Try.func79, by decide, c79⟩
  · cases h; exact ⟨Try.f80, Try.func80, by decide, c80⟩
  · cases h; exact ⟨Try.f89, Try.func89, by decide, c89⟩
  · cases h; exact ⟨Try.f90, Try.func90, by decide, c90⟩
  · cases h; exact ⟨Try.f91, Try.func91, by decide, c91⟩
  · cases h; exact ⟨Try.f92, Try.func92, by decide, c92⟩
  · cases h; exact ⟨Try.f93, Try.func93, by decide, c93⟩
  · cases h; exact ⟨Try.f94, Try.func94, by decide, c94⟩
  · cases h; exact ⟨Try.f97, Try.func97, by decide, c97⟩
  · cases h; exact ⟨Try.f99, Try.func99, by decide, c99⟩
  · cases h; exact ⟨Try.f100, Try.func100, by decide, c100⟩
  · cases h; exact ⟨Try.f101, Try.func101, by decide, c101⟩
  · cases h; exact ⟨Try.f104, Try.func104, by decide, c104⟩
  · cases h; exact ⟨Try.f105, Try.func105, by decide, c105⟩
  · cases h; exact ⟨Try.f106, Try.func106, by decide, c106⟩
  · cases h
end Go.Proofs.Ytcffpndhodhncaa
