/- The code of functions, as the abstract evaluator reads it. Printed by gen_ic.py. -/
import Derived.Test.YtobflnngfochiaaDoorProg
import Derived.Test.YtobflnngfochiaaDoorLA4
namespace Go.Proofs.YtobflnngfochiaaDoor
open Go.RowKit Go.Bo Go.Ab
/-- bothy/bothylaw05.FoldOnce -/
def i3 : IFn := ⟨50, [.tmp 2], (.seq (.reg [⟨some 2, .mv (.c (.x (.bool false))), none⟩])
  (.seq (.seq (.reg [⟨some 8, .mv (.t 0), none⟩, ⟨some 9, .len true (.t 8), none⟩, ⟨some 10, .bin .gtr (.t 9) (.c (.x (.int .i64 (300)))), none⟩])
  (.cond (.t 10)
    (.seq (.reg [⟨some 11, .call (.c (.fn 7 [])) [], none⟩, ⟨some 2, .mv (.t 11), none⟩])
    .ret)
    .skip))
  (.seq (.reg [⟨some 12, .mv (.t 0), none⟩, ⟨some 13, .call (.c (.fn 8 [])) [(.t 12)], none⟩, ⟨some 3, .mv (.t 13), none⟩])
  (.seq (.reg [⟨some 15, .mv (.t 0), none⟩, ⟨some 16, .call (.c (.fn 9 [])) [(.t 15)], none⟩, ⟨some 14, .mv (.t 16), none⟩, ⟨some 17, .ext (.t 14) 0, none⟩, ⟨some 18, .ext (.t 14) 1, none⟩, ⟨some 4, .mv (.t 17), none⟩, ⟨some 5, .mv (.t 18), none⟩])
  (.seq (.reg [⟨some 20, .mv (.t 4), none⟩, ⟨some 21, .call (.c (.fn 9 [])) [(.t 20)], none⟩, ⟨some 19, .mv (.t 21), none⟩, ⟨some 22, .ext (.t 19) 0, none⟩, ⟨some 23, .ext (.t 19) 1, none⟩, ⟨some 6, .mv (.t 22), none⟩, ⟨some 7, .mv (.t 23), none⟩])
  (.seq (.reg [⟨some 24, .mv (.t 3), none⟩, ⟨some 25, .call (.c (.fn 8 [])) [(.t 24)], none⟩, ⟨some 26, .mv (.t 3), none⟩, ⟨some 27, .bin .eql (.t 25) (.t 26), none⟩, ⟨some 28, .mv (.t 27), none⟩, ⟨some 29, .mv (.t 3), (some (28, true))⟩, ⟨some 30, .len true (.t 29), (some (28, true))⟩, ⟨some 31, .mv (.t 0), (some (28, true))⟩, ⟨some 32, .len true (.t 31), (some (28, true))⟩, ⟨some 33, .bin .leq (.t 30) (.t 32), (some (28, true))⟩, ⟨some 34, .pick (.t 28) (.t 33) (.c (.x (.bool false))), none⟩, ⟨some 35, .mv (.t 34), none⟩, ⟨some 36, .mv (.t 5), (some (35, true))⟩, ⟨some 37, .un .not (.t 36), (some (35, true))⟩, ⟨some 38, .mv (.t 37), (some (35, true))⟩, ⟨some 39, .mv (.t 7), (some (38, false))⟩, ⟨some 40, .mv (.t 39), (some (38, false))⟩, ⟨some 41, .mv (.t 4), (some (40, true))⟩, ⟨some 42, .mv (.t 6), (some (40, true))⟩, ⟨some 43, .bin .eql (.t 41) (.t 42), (some (40, true))⟩, ⟨some 44, .pick (.t 40) (.t 43) (.c (.x (.bool false))), (some (38, false))⟩, ⟨some 45, .pick (.t 38) (.c (.x (.bool true))) (.t 44), (some (35, true))⟩, ⟨some 46, .pick (.t 35) (.t 45) (.c (.x (.bool false))), none⟩, ⟨some 47, .mv (.t 46), none⟩, ⟨some 48, .call (.c (.fn 7 [])) [], (some (47, true))⟩, ⟨some 49, .pick (.t 47) (.t 48) (.c (.x (.bool false))), none⟩, ⟨some 2, .mv (.t 49), none⟩])
  .ret))))))⟩
theorem c3 : compFn Tryd.prog Tryd.f3 = some i3 := by kernel_rfl
/-- bothy/bothylaw05.FoldOrder -/
def i4 : IFn := ⟨79, [.tmp 6], (.seq (.reg [⟨some 6, .mv (.c (.x (.bool false))), none⟩])
  (.seq (.reg [⟨some 14, .mv (.t 0), none⟩, ⟨some 15, .call (.c (.fn 9 [])) [(.t 14)], none⟩, ⟨some 13, .mv (.t 15), none⟩, ⟨some 16, .ext (.t 13) 0, none⟩, ⟨some 17, .ext (.t 13) 1, none⟩, ⟨some 7, .mv (.t 16), none⟩, ⟨some 8, .mv (.t 17), none⟩])
  (.seq (.reg [⟨some 19, .mv (.t 1), none⟩, ⟨some 20, .call (.c (.fn 9 [])) [(.t 19)], none⟩, ⟨some 18, .mv (.t 20), none⟩, ⟨some 21, .ext (.t 18) 0, none⟩, ⟨some 22, .ext (.t 18) 1, none⟩, ⟨some 9, .mv (.t 21), none⟩, ⟨some 10, .mv (.t 22), none⟩])
  (.seq (.reg [⟨some 24, .mv (.t 2), none⟩, ⟨some 25, .call (.c (.fn 9 [])) [(.t 24)], none⟩, ⟨some 23, .mv (.t 25), none⟩, ⟨some 26, .ext (.t 23) 0, none⟩, ⟨some 27, .ext (.t 23) 1, none⟩, ⟨some 11, .mv (.t 26), none⟩, ⟨some 12, .mv (.t 27), none⟩])
  (.seq (.seq (.reg [⟨some 28, .mv (.t 8), none⟩, ⟨some 29, .un .not (.t 28), none⟩, ⟨some 30, .mv (.t 29), none⟩, ⟨some 31, .mv (.t 10), (some (30, false))⟩, ⟨some 32, .un .not (.t 31), (some (30, false))⟩, ⟨some 33, .pick (.t 30) (.c (.x (.bool true))) (.t 32), none⟩, ⟨some 34, .mv (.t 33), none⟩, ⟨some 35, .mv (.t 12), (some (34, false))⟩, ⟨some 36, .un .not (.t 35), (some (34, false))⟩, ⟨some 37, .pick (.t 34) (.c (.x (.bool true))) (.t 36), none⟩])
  (.cond (.t 37)
    (.seq (.reg [⟨some 38, .call (.c (.fn 7 [])) [], none⟩, ⟨some 6, .mv (.t 38), none⟩])
    .ret)
    .skip))
  (.seq (.seq (.reg [⟨some 39, .mv (.t 7), none⟩, ⟨some 40, .mv (.t 9), none⟩, ⟨some 41, .call (.c (.fn 10 [])) [(.t 39), (.t 40)], none⟩, ⟨some 42, .mv (.t 41), none⟩, ⟨some 43, .mv (.t 9), (some (42, true))⟩, ⟨some 44, .mv (.t 7), (some (42, true))⟩, ⟨some 45, .call (.c (.fn 10 [])) [(.t 43), (.t 44)], (some (42, true))⟩, ⟨some 46, .pick (.t 42) (.t 45) (.c (.x (.bool false))), none⟩, ⟨some 47, .mv (.t 46), none⟩, ⟨some 48, .mv (.t 7), (some (47, false))⟩, ⟨some 49, .mv (.t 9), (some (47, false))⟩, ⟨some 50, .call (.c (.fn 10 [])) [(.t 48), (.t 49)], (some (47, false))⟩, ⟨some 51, .mv (.t 50), (some (47, false))⟩, ⟨some 52, .mv (.t 9), (some (51, false))⟩, ⟨some 53, .mv (.t 7), (some (51, false))⟩, ⟨some 54, .call (.c (.fn 10 [])) [(.t 52), (.t 53)], (some (51, false))⟩, ⟨some 55, .pick (.t 51) (.c (.x (.bool true))) (.t 54), (some (47, false))⟩, ⟨some 56, .mv (.t 7), (some (47, false))⟩, ⟨some 57, .mv (.t 9), (some (47, false))⟩, ⟨some 58, .bin .eql (.t 56) (.t 57), (some (47, false))⟩, ⟨some 59, .eq .bool false (.t 55) (.t 58), (some (47, false))⟩, ⟨some 60, .pick (.t 47) (.c (.x (.bool true))) (.t 59), none⟩])
  (.cond (.t 60)
    (.seq (.reg [⟨some 6, .mv (.c (.x (.bool false))), none⟩])
    .ret)
    .skip))
  (.seq (.reg [⟨some 61, .mv (.t 7), none⟩, ⟨some 62, .mv (.t 9), none⟩, ⟨some 63, .call (.c (.fn 10 [])) [(.t 61), (.t 62)], none⟩, ⟨some 64, .un .not (.t 63), none⟩, ⟨some 65, .mv (.t 64), none⟩, ⟨some 66, .mv (.t 9), (some (65, false))⟩, ⟨some 67, .mv (.t 11), (some (65, false))⟩, ⟨some 68, .call (.c (.fn 10 [])) [(.t 66), (.t 67)], (some (65, false))⟩, ⟨some 69, .un .not (.t 68), (some (65, false))⟩, ⟨some 70, .pick (.t 65) (.c (.x (.bool true))) (.t 69), none⟩, ⟨some 71, .mv (.t 70), none⟩, ⟨some 72, .mv (.t 7), (some (71, false))⟩, ⟨some 73, .mv (.t 11), (some (71, false))⟩, ⟨some 74, .call (.c (.fn 10 [])) [(.t 72), (.t 73)], (some (71, false))⟩, ⟨some 75, .pick (.t 71) (.c (.x (.bool true))) (.t 74), none⟩, ⟨some 76, .mv (.t 75), none⟩, ⟨some 77, .call (.c (.fn 7 [])) [], (some (76, true))⟩, ⟨some 78, .pick (.t 76) (.t 77) (.c (.x (.bool false))), none⟩, ⟨some 6, .mv (.t 78), none⟩])
  .ret)))))))⟩
theorem c4 : compFn Tryd.prog Tryd.f4 = some i4 := by kernel_rfl
/-- bothy/bothylaw05.awake -/
def i7 : IFn := ⟨56, [.tmp 0], (.seq (.reg [⟨some 0, .mv (.c (.x (.bool false))), none⟩])
  (.seq (.reg [⟨some 8, .call (.c (.fn 9 [])) [(.c (.x (.str [45, 48, 48, 55])))], none⟩, ⟨some 7, .mv (.t 8), none⟩, ⟨some 9, .ext (.t 7) 0, none⟩, ⟨some 10, .ext (.t 7) 1, none⟩, ⟨some 1, .mv (.t 9), none⟩, ⟨some 2, .mv (.t 10), none⟩])
  (.seq (.reg [⟨some 12, .call (.c (.fn 9 [])) [(.c (.x (.str [45, 48])))], none⟩, ⟨some 11, .mv (.t 12), none⟩, ⟨some 13, .ext (.t 11) 0, none⟩, ⟨some 14, .ext (.t 11) 1, none⟩, ⟨some 3, .mv (.t 13), none⟩, ⟨some 4, .mv (.t 14), none⟩])
  (.seq (.reg [⟨some 16, .call (.c (.fn 9 [])) [(.c (.x (.str [49, 120])))], none⟩, ⟨some 15, .mv (.t 16), none⟩, ⟨some 17, .ext (.t 15) 0, none⟩, ⟨some 18, .ext (.t 15) 1, none⟩, ⟨some 5, .mv (.t 17), none⟩, ⟨some 6, .mv (.t 18), none⟩])
  (.seq (.reg [⟨some 19, .call (.c (.fn 8 [])) [(.c (.x (.str [32, 32, 65, 32, 32, 98])))], none⟩, ⟨some 20, .bin .eql (.t 19) (.c (.x (.str [97, 32, 98]))), none⟩, ⟨some 21, .mv (.t 20), none⟩, ⟨some 22, .call (.c (.fn 20 [])) [(.c (.x (.str [97, 90])))], (some (21, true))⟩, ⟨some 23, .bin .eql (.t 22) (.c (.x (.str [97, 122]))), (some (21, true))⟩, ⟨some 24, .pick (.t 21) (.t 23) (.c (.x (.bool false))), none⟩, ⟨some 25, .mv (.t 24), none⟩, ⟨some 26, .call (.c (.fn 21 [])) [(.c (.x (.str [32, 97, 32, 32, 98, 32])))], (some (25, true))⟩, ⟨some 27, .bin .eql (.t 26) (.c (.x (.str [97, 32, 98]))), (some (25, true))⟩, ⟨some 28, .pick (.t 25) (.t 27) (.c (.x (.bool false))), none⟩, ⟨some 29, .mv (.t 28), none⟩, ⟨some 30, .mv (.t 1), (some (29, true))⟩, ⟨some 31, .bin .eql (.t 30) (.c (.x (.str [45, 55]))), (some (29, true))⟩, ⟨some 32, .pick (.t 29) (.t 31) (.c (.x (.bool false))), none⟩, ⟨some 33, .mv (.t 32), none⟩, ⟨some 34, .mv (.t 2), (some (33, true))⟩, ⟨some 35, .pick (.t 33) (.t 34) (.c (.x (.bool false))), none⟩, ⟨some 36, .mv (.t 35), none⟩, ⟨some 37, .mv (.t 3), (some (36, true))⟩, ⟨some 38, .bin .eql (.t 37) (.c (.x (.str [48]))), (some (36, true))⟩, ⟨some 39, .pick (.t 36) (.t 38) (.c (.x (.bool false))), none⟩, ⟨some 40, .mv (.t 39), none⟩, ⟨some 41, .mv (.t 6), (some (40, true))⟩, ⟨some 42, .un .not (.t 41), (some (40, true))⟩, ⟨some 43, .pick (.t 40) (.t 42) (.c (.x (.bool false))), none⟩, ⟨some 44, .mv (.t 43), none⟩, ⟨some 45, .call (.c (.fn 10 [])) [(.c (.x (.str [57]))), (.c (.x (.str [49, 48])))], (some (44, true))⟩, ⟨some 46, .pick (.t 44) (.t 45) (.c (.x (.bool false))), none⟩, ⟨some 47, .mv (.t 46), none⟩, ⟨some 48, .call (.c (.fn 10 [])) [(.c (.x (.str [45, 49, 48]))), (.c (.x (.str [45, 57])))], (some (47, true))⟩, ⟨some 49, .pick (.t 47) (.t 48) (.c (.x (.bool false))), none⟩, ⟨some 50, .mv (.t 49), none⟩, ⟨some 51, .call (.c (.fn 10 [])) [(.c (.x (.str [45, 49]))), (.c (.x (.str [48])))], (some (50, true))⟩, ⟨some 52, .pick (.t 50) (.t 51) (.c (.x (.bool false))), none⟩, ⟨some 53, .mv (.t 52), none⟩, ⟨some 54, .call (.c (.fn 10 [])) [(.c (.x (.str [97]))), (.c (.x (.str [98])))], (some (53, true))⟩, ⟨some 55, .pick (.t 53) (.t 54) (.c (.x (.bool false))), none⟩, ⟨some 0, .mv (.t 55), none⟩])
  .ret)))))⟩
theorem c7 : compFn Tryd.prog Tryd.f7 = some i7 := by kernel_rfl
/-- bothy/fold.Fold -/
def i8 : IFn := ⟨6, [.tmp 2], (.seq (.reg [⟨some 2, .mv (.c (.x (.str []))), none⟩])
  (.seq (.reg [⟨some 3, .mv (.t 0), none⟩, ⟨some 4, .call (.c (.fn 21 [])) [(.t 3)], none⟩, ⟨some 5, .call (.c (.fn 20 [])) [(.t 4)], none⟩, ⟨some 2, .mv (.t 5), none⟩])
  .ret))⟩
theorem c8 : compFn Tryd.prog Tryd.f8 = some i8 := by kernel_rfl
/-- bothy/fold.Int -/
def i9 : IFn := ⟨32, [.tmp 2, .tmp 3], (.seq (.reg [⟨some 2, .mv (.c (.x (.str []))), none⟩, ⟨some 3, .mv (.c (.x (.bool false))), none⟩])
  (.seq (.reg [⟨some 7, .mv (.t 0), none⟩, ⟨some 8, .call (.c (.fn 22 [])) [(.t 7), (.c (.x (.str [45])))], none⟩, ⟨some 6, .mv (.t 8), none⟩, ⟨some 9, .ext (.t 6) 0, none⟩, ⟨some 10, .ext (.t 6) 1, none⟩, ⟨some 4, .mv (.t 9), none⟩, ⟨some 5, .mv (.t 10), none⟩])
  (.seq (.seq (.reg [⟨some 11, .mv (.t 4), none⟩, ⟨some 12, .call (.c (.fn 23 [])) [(.t 11)], none⟩, ⟨some 13, .un .not (.t 12), none⟩])
  (.cond (.t 13)
    (.seq (.reg [⟨some 2, .mv (.c (.x (.str []))), none⟩, ⟨some 3, .mv (.c (.x (.bool false))), none⟩])
    .ret)
    .skip))
  (.seq (.block 0
    (.loop
      (.seq (.seq (.reg [⟨some 14, .mv (.t 4), none⟩, ⟨some 15, .len true (.t 14), none⟩, ⟨some 16, .bin .gtr (.t 15) (.c (.x (.int .i64 (1)))), none⟩, ⟨some 17, .mv (.t 16), none⟩, ⟨some 18, .mv (.t 4), (some (17, true))⟩, ⟨some 19, .idx (.t 18) (.c (.x (.int .i64 (0)))), (some (17, true))⟩, ⟨some 20, .bin .eql (.t 19) (.c (.x (.int .u8 (48)))), (some (17, true))⟩, ⟨some 21, .pick (.t 17) (.t 20) (.c (.x (.bool false))), none⟩])
      (.cond (.t 21)
        .skip
        (.exit 0)))
      (.block 1
        (.reg [⟨some 22, .mv (.t 4), none⟩, ⟨some 23, .slc 0 (.t 22) (some (.c (.x (.int .i64 (1))))) none none, none⟩, ⟨some 4, .mv (.t 23), none⟩])))))
  (.seq (.seq (.reg [⟨some 24, .mv (.t 5), none⟩, ⟨some 25, .mv (.t 24), none⟩, ⟨some 26, .mv (.t 4), (some (25, true))⟩, ⟨some 27, .bin .neq (.t 26) (.c (.x (.str [48]))), (some (25, true))⟩, ⟨some 28, .pick (.t 25) (.t 27) (.c (.x (.bool false))), none⟩])
  (.cond (.t 28)
    (.reg [⟨some 29, .mv (.t 4), none⟩, ⟨some 30, .bin .add (.c (.x (.str [45]))) (.t 29), none⟩, ⟨some 4, .mv (.t 30), none⟩])
    .skip))
  (.seq (.reg [⟨some 31, .mv (.t 4), none⟩, ⟨some 2, .mv (.t 31), none⟩, ⟨some 3, .mv (.c (.x (.bool true))), none⟩])
  .ret))))))⟩
theorem c9 : compFn Tryd.prog Tryd.f9 = some i9 := by kernel_rfl
/-- bothy/fold.Less -/
def i10 : IFn := ⟨46, [.tmp 4], (.seq (.reg [⟨some 4, .mv (.c (.x (.bool false))), none⟩])
  (.seq (.seq (.reg [⟨some 9, .mv (.t 0), none⟩, ⟨some 10, .call (.c (.fn 24 [])) [(.t 9)], none⟩, ⟨some 11, .un .not (.t 10), none⟩, ⟨some 12, .mv (.t 11), none⟩, ⟨some 13, .mv (.t 1), (some (12, false))⟩, ⟨some 14, .call (.c (.fn 24 [])) [(.t 13)], (some (12, false))⟩, ⟨some 15, .un .not (.t 14), (some (12, false))⟩, ⟨some 16, .pick (.t 12) (.c (.x (.bool true))) (.t 15), none⟩])
  (.cond (.t 16)
    (.seq (.reg [⟨some 17, .mv (.t 0), none⟩, ⟨some 18, .mv (.t 1), none⟩, ⟨some 19, .bin .lss (.t 17) (.t 18), none⟩, ⟨some 4, .mv (.t 19), none⟩])
    .ret)
    .skip))
  (.seq (.reg [⟨some 21, .mv (.t 0), none⟩, ⟨some 22, .call (.c (.fn 22 [])) [(.t 21), (.c (.x (.str [45])))], none⟩, ⟨some 20, .mv (.t 22), none⟩, ⟨some 23, .ext (.t 20) 0, none⟩, ⟨some 24, .ext (.t 20) 1, none⟩, ⟨some 5, .mv (.t 23), none⟩, ⟨some 6, .mv (.t 24), none⟩])
  (.seq (.reg [⟨some 26, .mv (.t 1), none⟩, ⟨some 27, .call (.c (.fn 22 [])) [(.t 26), (.c (.x (.str [45])))], none⟩, ⟨some 25, .mv (.t 27), none⟩, ⟨some 28, .ext (.t 25) 0, none⟩, ⟨some 29, .ext (.t 25) 1, none⟩, ⟨some 7, .mv (.t 28), none⟩, ⟨some 8, .mv (.t 29), none⟩])
  (.seq (.block 0
    (.seq (.reg [⟨some 31, .mv (.t 6), none⟩, ⟨some 32, .mv (.t 31), none⟩, ⟨some 33, .mv (.t 8), (some (32, true))⟩, ⟨some 34, .pick (.t 32) (.t 33) (.c (.x (.bool false))), none⟩, ⟨some 30, .mv (.t 34), none⟩])
    (.cond (.t 30)
      (.seq (.reg [⟨some 35, .mv (.t 7), none⟩, ⟨some 36, .mv (.t 5), none⟩, ⟨some 37, .call (.c (.fn 25 [])) [(.t 35), (.t 36)], none⟩, ⟨some 4, .mv (.t 37), none⟩])
      .ret)
      (.seq (.reg [⟨some 39, .mv (.t 6), none⟩, ⟨some 40, .mv (.t 8), none⟩, ⟨some 41, .eq .bool true (.t 39) (.t 40), none⟩, ⟨some 38, .mv (.t 41), none⟩])
      (.cond (.t 38)
        (.seq (.reg [⟨some 42, .mv (.t 6), none⟩, ⟨some 4, .mv (.t 42), none⟩])
        .ret)
        .skip)))))
  (.seq (.reg [⟨some 43, .mv (.t 5), none⟩, ⟨some 44, .mv (.t 7), none⟩, ⟨some 45, .call (.c (.fn 25 [])) [(.t 43), (.t 44)], none⟩, ⟨some 4, .mv (.t 45), none⟩])
  .ret))))))⟩
theorem c10 : compFn Tryd.prog Tryd.f10 = some i10 := by kernel_rfl
/-- bothy/fold.Lower -/
def i20 : IFn := ⟨30, [.tmp 2], (.seq (.reg [⟨some 2, .mv (.c (.x (.str []))), none⟩])
  (.seq (.reg [⟨some 6, .mv (.t 0), none⟩, ⟨some 7, .s2b 5 (.t 6), none⟩, ⟨some 3, .mv (.t 7), none⟩])
  (.seq (.seq (.reg [⟨some 8, .mv (.t 3), none⟩, ⟨some 9, .len false (.t 8), none⟩, ⟨some 10, .mv (.c (.x (.int .i64 (0)))), none⟩])
  (.block 0
    (.loop
      (.seq (.reg [⟨some 11, .bin .lss (.t 10) (.t 9), none⟩])
      (.seq (.cond (.t 11)
        .skip
        (.exit 0))
      (.seq (.block 1
        (.seq (.reg [⟨some 12, .mv (.t 10), none⟩, ⟨some 13, .iad 1 (.t 8) (.t 10), none⟩, ⟨some 14, .ld 1 false (.t 13), none⟩, ⟨some 4, .mv (.t 12), none⟩, ⟨some 5, .mv (.t 14), none⟩])
        (.seq (.reg [⟨some 15, .mv (.t 5), none⟩, ⟨some 16, .bin .geq (.t 15) (.c (.x (.int .u8 (65)))), none⟩, ⟨some 17, .mv (.t 16), none⟩, ⟨some 18, .mv (.t 5), (some (17, true))⟩, ⟨some 19, .bin .leq (.t 18) (.c (.x (.int .u8 (90)))), (some (17, true))⟩, ⟨some 20, .pick (.t 17) (.t 19) (.c (.x (.bool false))), none⟩])
        (.cond (.t 20)
          (.reg [⟨some 21, .mv (.t 3), none⟩, ⟨some 22, .mv (.t 4), none⟩, ⟨some 23, .mv (.t 5), none⟩, ⟨some 24, .bin .sub (.t 23) (.c (.x (.int .u8 (65)))), none⟩, ⟨some 25, .bin .add (.t 24) (.c (.x (.int .u8 (97)))), none⟩, ⟨some 26, .iad 1 (.t 21) (.t 22), none⟩, ⟨none, .sto 1 (.t 26) (.t 25), none⟩])
          .skip))))
      (.reg [⟨some 27, .bin .add (.t 10) (.c (.x (.int .i64 (1)))), none⟩, ⟨some 10, .mv (.t 27), none⟩])))))))
  (.seq (.reg [⟨some 28, .mv (.t 3), none⟩, ⟨some 29, .b2s (.t 28), none⟩, ⟨some 2, .mv (.t 29), none⟩])
  .ret))))⟩
theorem c20 : compFn Tryd.prog Tryd.f20 = some i20 := by kernel_rfl
/-- bothy/fold.Blanks -/
def i21 : IFn := ⟨22, [.tmp 2], (.seq (.reg [⟨some 2, .mv (.c (.x (.str []))), none⟩])
  (.seq (.reg [⟨some 3, .mv (.c (.x .nils)), none⟩])
  (.seq (.seq (.reg [⟨some 6, .mv (.t 0), none⟩, ⟨some 7, .call (.c (.fn 36 [])) [(.t 6), (.c (.x (.str [32])))], none⟩, ⟨some 8, .len false (.t 7), none⟩, ⟨some 9, .mv (.c (.x (.int .i64 (0)))), none⟩])
  (.block 0
    (.loop
      (.seq (.reg [⟨some 10, .bin .lss (.t 9) (.t 8), none⟩])
      (.seq (.cond (.t 10)
        .skip
        (.exit 0))
      (.seq (.block 1
        (.seq (.reg [⟨some 11, .iad 1 (.t 7) (.t 9), none⟩, ⟨some 12, .ld 1 false (.t 11), none⟩, ⟨some 5, .mv (.t 12), none⟩])
        (.seq (.reg [⟨some 13, .mv (.t 5), none⟩, ⟨some 14, .bin .neq (.t 13) (.c (.x (.str []))), none⟩])
        (.cond (.t 14)
          (.reg [⟨some 15, .mv (.t 3), none⟩, ⟨some 16, .mv (.t 5), none⟩, ⟨some 17, .bsl 9 1 1 [(.t 16)], none⟩, ⟨some 18, .app 9 1 16 (.t 15) (.t 17), none⟩, ⟨some 3, .mv (.t 18), none⟩])
          .skip))))
      (.reg [⟨some 19, .bin .add (.t 9) (.c (.x (.int .i64 (1)))), none⟩, ⟨some 9, .mv (.t 19), none⟩])))))))
  (.seq (.reg [⟨some 20, .mv (.t 3), none⟩, ⟨some 21, .call (.c (.fn 29 [])) [(.t 20), (.c (.x (.str [32])))], none⟩, ⟨some 2, .mv (.t 21), none⟩])
  .ret))))⟩
theorem c21 : compFn Tryd.prog Tryd.f21 = some i21 := by kernel_rfl
/-- bothy/fold.digits -/
def i23 : IFn := ⟨23, [.tmp 2], (.seq (.reg [⟨some 2, .mv (.c (.x (.bool false))), none⟩])
  (.seq (.seq (.reg [⟨some 5, .mv (.t 0), none⟩, ⟨some 6, .rgs (.t 5), none⟩])
  (.block 0
    (.loop
      (.seq (.reg [⟨some 7, .nxt true (.t 6), none⟩, ⟨some 8, .ext (.t 7) 0, none⟩])
      (.seq (.cond (.t 8)
        .skip
        (.exit 0))
      (.block 1
        (.seq (.reg [⟨some 9, .ext (.t 7) 2, none⟩, ⟨some 4, .mv (.t 9), none⟩])
        (.seq (.reg [⟨some 10, .mv (.t 4), none⟩, ⟨some 11, .bin .lss (.t 10) (.c (.x (.int .i32 (48)))), none⟩, ⟨some 12, .mv (.t 11), none⟩, ⟨some 13, .mv (.t 4), (some (12, false))⟩, ⟨some 14, .bin .gtr (.t 13) (.c (.x (.int .i32 (57)))), (some (12, false))⟩, ⟨some 15, .pick (.t 12) (.c (.x (.bool true))) (.t 14), none⟩])
        (.cond (.t 15)
          (.seq (.reg [⟨some 2, .mv (.c (.x (.bool false))), none⟩])
          .ret)
          .skip)))))))))
  (.seq (.reg [⟨some 16, .mv (.t 0), none⟩, ⟨some 17, .bin .neq (.t 16) (.c (.x (.str []))), none⟩, ⟨some 18, .mv (.t 17), none⟩, ⟨some 19, .mv (.t 0), (some (18, true))⟩, ⟨some 20, .len true (.t 19), (some (18, true))⟩, ⟨some 21, .bin .leq (.t 20) (.c (.x (.int .i64 (32)))), (some (18, true))⟩, ⟨some 22, .pick (.t 18) (.t 21) (.c (.x (.bool false))), none⟩, ⟨some 2, .mv (.t 22), none⟩])
  .ret)))⟩
theorem c23 : compFn Tryd.prog Tryd.f23 = some i23 := by kernel_rfl
/-- bothy/fold.number -/
def i24 : IFn := ⟨16, [.tmp 2], (.seq (.reg [⟨some 2, .mv (.c (.x (.bool false))), none⟩])
  (.seq (.reg [⟨some 6, .mv (.t 0), none⟩, ⟨some 7, .call (.c (.fn 9 [])) [(.t 6)], none⟩, ⟨some 5, .mv (.t 7), none⟩, ⟨some 8, .ext (.t 5) 0, none⟩, ⟨some 9, .ext (.t 5) 1, none⟩, ⟨some 3, .mv (.t 8), none⟩, ⟨some 4, .mv (.t 9), none⟩])
  (.seq (.reg [⟨some 10, .mv (.t 4), none⟩, ⟨some 11, .mv (.t 10), none⟩, ⟨some 12, .mv (.t 0), (some (11, true))⟩, ⟨some 13, .mv (.t 3), (some (11, true))⟩, ⟨some 14, .bin .eql (.t 12) (.t 13), (some (11, true))⟩, ⟨some 15, .pick (.t 11) (.t 14) (.c (.x (.bool false))), none⟩, ⟨some 2, .mv (.t 15), none⟩])
  .ret)))⟩
theorem c24 : compFn Tryd.prog Tryd.f24 = some i24 := by kernel_rfl
/-- bothy/fold.smaller -/
def i25 : IFn := ⟨22, [.tmp 4], (.seq (.reg [⟨some 4, .mv (.c (.x (.bool false))), none⟩])
  (.seq (.reg [⟨some 5, .mv (.t 0), none⟩, ⟨some 6, .len true (.t 5), none⟩, ⟨some 7, .mv (.t 1), none⟩, ⟨some 8, .len true (.t 7), none⟩, ⟨some 9, .bin .lss (.t 6) (.t 8), none⟩, ⟨some 10, .mv (.t 9), none⟩, ⟨some 11, .mv (.t 0), (some (10, false))⟩, ⟨some 12, .len true (.t 11), (some (10, false))⟩, ⟨some 13, .mv (.t 1), (some (10, false))⟩, ⟨some 14, .len true (.t 13), (some (10, false))⟩, ⟨some 15, .bin .eql (.t 12) (.t 14), (some (10, false))⟩, ⟨some 16, .mv (.t 15), (some (10, false))⟩, ⟨some 17, .mv (.t 0), (some (16, true))⟩, ⟨some 18, .mv (.t 1), (some (16, true))⟩, ⟨some 19, .bin .lss (.t 17) (.t 18), (some (16, true))⟩, ⟨some 20, .pick (.t 16) (.t 19) (.c (.x (.bool false))), (some (10, false))⟩, ⟨some 21, .pick (.t 10) (.c (.x (.bool true))) (.t 20), none⟩, ⟨some 4, .mv (.t 21), none⟩])
  .ret))⟩
theorem c25 : compFn Tryd.prog Tryd.f25 = some i25 := by kernel_rfl
def G : FuncId → Option IFn
  | 3 => some i3
  | 4 => some i4
  | 7 => some i7
  | 8 => some i8
  | 9 => some i9
  | 10 => some i10
  | 20 => some i20
  | 21 => some i21
  | 23 => some i23
  | 24 => some i24
  | 25 => some i25
  | _ => none
theorem G_ok : GOk Tryd.prog G := by
  intro f p h
  unfold G at h
  split at h
  · cases h; exact ⟨Tryd.f3, Tryd.func3, by decide, c3⟩
  · cases h; exact ⟨Tryd.f4, Tryd.func4, by decide, c4⟩
  · cases h; exact ⟨Tryd.f7, Tryd.func7, by decide, c7⟩
  · cases h; exact ⟨Tryd.f8, Tryd.func8, by decide, c8⟩
  · cases h; exact ⟨Tryd.f9, Tryd.func9, by decide, c9⟩
  · cases h; exact ⟨Tryd.f10, Tryd.func10, by decide, c10⟩
  · cases h; exact ⟨Tryd.f20, Tryd.func20, by decide, c20⟩
  · cases h; exact ⟨Tryd.f21, Tryd.func21, by decide, c21⟩
  · cases h; exact ⟨Tryd.f23, Tryd.func23, by decide, c23⟩
  · cases h; exact ⟨Tryd.f24, Tryd.func24, by decide, c24⟩
  · cases h; exact ⟨Tryd.f25, Tryd.func25, by decide, c25⟩
  · cases h
end Go.Proofs.YtobflnngfochiaaDoor
