/- The code of functions, as the abstract evaluator reads it. Printed by gen_ic.py. -/
import Derived.Test.YtobflnngfochiaaDoorProg
import Derived.Test.YtobflnngfochiaaDoorLA4
namespace Go.Proofs.YtobflnngfochiaaDoor
open Go.RowKit Go.Bo Go.Ab
/-- bothy/bothylaw05.FoldOnce -/
def i3 : IFn := ⟨50, [.tmp 2], (.seq (.reg [⟨some 2, .mv (.c (.x (.bool false))), none⟩])
  (.seq (.seq (.reg [⟨some 8, .mv (.t 0), none⟩, ⟨some 9, .len true (.t 8), none⟩, ⟨some 10, .bin .gtr (.t 9) (.c (.x (.int .i64 (300)))), none⟩])
  (.cond (.t 10)
    (.seq (.reg [⟨some 11, .call (.c (.fn 7 [])) [], none⟩, ⟨some 2, .mv (.t 11), none⟩])
    .ret)
    .skip))
  (.seq (.reg [⟨some 12, .mv (.t 0), none⟩, ⟨some 13, .call (.c (.fn 8 [])) [(.t 12)], none⟩, ⟨some 3, .mv (.t 13), none⟩])
  (.seq (.reg [⟨some 15, .mv (.t 0), none⟩, ⟨some 16, .call (.c (.fn 9 [])) [(.t 15)], none⟩, ⟨some 14, .mv (.t 16), none⟩, ⟨some 17, .ext (.t 14) 0, none⟩, ⟨some 18, .ext (.t 14) 1, none⟩, ⟨some 4, .mv (.t 17), none⟩, ⟨some 5, .mv (.t 18), none⟩])
  (.seq (.reg [⟨some 20, .mv (.t 4), none⟩, ⟨some 21, .call (.c (.fn 9 [])) [(.t 20)], none⟩, ⟨some 19, .mv (.t 21), none⟩, ⟨some 22, .ext (.t 19) 0, none⟩, ⟨some 23, .ext (.t 19) 1, none⟩, ⟨some 6, .mv (.t 22), none⟩, ⟨some 7, .mv (.t 23), none⟩])
  (.seq (.reg [⟨some 24, .mv (.t 3), none⟩, ⟨some 25, .call (.c (.fn 8 [])) [(.t 24)], none⟩, ⟨some 26, .mv (.t 3), none⟩, ⟨some 27, .bin .eql (.t 25) (.t 26), none⟩, ⟨some 28, .mv (.t 27), none⟩, ⟨some 29, .mv (.t 3), (some (28, true))⟩, ⟨some 30, .len true (.t 29), (some (28, true))⟩, ⟨some 31, .mv (.t 0), (some (28, true))⟩, ⟨some 32, .len true (.t 31), (some (28, true))⟩, ⟨some 33, .bin .leq (.t 30) (.t 32), (some (28, true))⟩, ⟨some 34, .pick (.t 28) (.t 33) (.c (.x (.bool false))), none⟩, ⟨some 35, .mv (.t 34), none⟩, ⟨some 36, .mv (.t 5), (some (35, true))⟩, ⟨some 37, .un .not (.t 36), (some (35, true))⟩, ⟨some 38, .mv (.t 37), (some (35, true))⟩, ⟨some 39, .mv (.t 7), (some (38, false))⟩, ⟨some 40, .mv (.t 39), (some (38, false))⟩, ⟨some 41, .mv (.t 4), (some (40, true))⟩, ⟨some 42, .mv (.t 6), (some (40, true))⟩, ⟨some 43, .bin .eql (.t 41) (.t 42), (some (40, true))⟩, ⟨some 44, .pick (.t 40) (.t 43) (.c (.x (.bool false))), (some (38, false))⟩, ⟨some 45, .pick (.t 38) (.c (.x (.bool true))) (.t 44), (some (35, true))⟩, ⟨some 46, .pick (.t 35) (.t 45) (.c (.x (.bool false))), none⟩, ⟨some 47, .mv (.t 46), none⟩, ⟨some 48, .call (.c (.fn 7 [])) [], (some (47, true))⟩, ⟨some 49, .pick (.t 47) (.t 48) (.c (.x (.bool false))), none⟩, ⟨some 2, .mv (.t 49), none⟩])
  .ret))))))⟩
theorem c3 : compFn Tryd.prog Tryd.f3 = some i3 := by kernel_rfl
/-- bothy/bothylaw05.FoldOrder -/
def i4 : IFn := ⟨79, [.tmp 6], (.seq (.reg [⟨some 6, .mv (.c (.x (.bool false))), none⟩])
  (.seq (.reg [⟨some 14, .mv (.t 0), none⟩, ⟨some 15, .call (.c (.fn 9 [])) [(.t 14)], none⟩, ⟨some 13, .mv (.t 15), none⟩, ⟨some 16, .ext (.t 13) 0, none⟩, ⟨some 17, .ext (.t 13) 1, none⟩, ⟨some 7, .mv (.t 16), none⟩, ⟨some 8, .mv (.t 17), none⟩])
  (.seq (.reg [⟨some 19, .mv (.t 1), none⟩, ⟨some 20, .call (.c (.fn 9 [])) [(.t 19)], none⟩, ⟨some 18, .mv (.t 20), none⟩, ⟨some 21, .ext (.t 18) 0, none⟩, ⟨some 22, .ext (.t 18) 1, none⟩, ⟨some 9, .mv (.t 21), none⟩, ⟨some 10, .mv (.t 22), none⟩])
  (.seq (.reg [⟨some 24, .mv (.t 2), none⟩, ⟨some 25, .call (.c (.fn 9 [])) [(.t 24)], none⟩, ⟨some 23, .mv (.t 25), none⟩, ⟨some 26, .ext (.t 23) 0, none⟩, ⟨some 27, .ext (.t 23) 1, none⟩, ⟨some 11, .mv (.t 26), none⟩, ⟨some 12, .mv (.t 27), none⟩])
  (.seq (.seq (.reg [⟨some 28, .mv (.t 8), none⟩, ⟨some 29, .un .not (.t 28), none⟩, ⟨some 30, .mv (.t 29), none⟩, ⟨some 31, .mv (.t 10), (some (30, false))⟩, ⟨some 32, .un .not (.t 31), (some (30, false))⟩, ⟨some 33, .pick (.t 30) (.c (.x (.bool true))) (.t 32), none⟩, ⟨some 34, .mv (.t 33), none⟩, ⟨some 35, .mv (.t 12), (some (34, false))⟩, ⟨some 36, .un .not (.t 35), (some (34, false))⟩, ⟨some 37, .pick (.t 34) (.c (.x (.bool true))) (.t 36), none⟩])
  (.cond (.t 37)
    (.seq (.reg [⟨some 38, .call (.c (.fn 7 [])) [], none⟩, ⟨some 6, .mv (.t 38), none⟩])
    .ret)
    .skip))
  (.seq (.seq (.reg [⟨some 39, .mv (.t 7), none⟩, ⟨some 40, .mv (.t 9), none⟩, ⟨some 41, .call (.c (.fn 10 [])) [(.t 39), (.t 40)], none⟩, ⟨some 42, .mv (.t 41), none⟩, ⟨some 43, .mv (.t 9), (some (42, true))⟩, ⟨some 44, .mv (.t 7), (some (42, true))⟩, ⟨some 45, .call (.c (.fn 10 [])) [(.t 43), (.t 44)], (some (42, true))⟩, ⟨some 46, .pick (.t 42) (.t 45) (.c (.x (.bool false))), none⟩, ⟨some 47, .mv (.t 46), none⟩, ⟨some 48, .mv (.t 7), (some (47, false))⟩, ⟨some 49, .mv (.t 9), (some (47, false))⟩, ⟨some 50, .call (.c (.fn 10 [])) [(.t 48), (.t 49)], (some (47, false))⟩, ⟨some 51, .mv (.t 50), (some (47, false))⟩, ⟨some 52, .mv (.t 9), (some (51, false))⟩, ⟨some 53, .mv (.t 7), (some (51, false))⟩, ⟨some 54, .call (.c (.fn 10 [])) [(.t 52), (.t 53)], (some (51, false))⟩, ⟨some 55, .pick (.t 51) (.c (.x (.bool true))) (.t 54), (some (47, false))⟩, ⟨some 56, .mv (.t 7), (some (47, false))⟩, ⟨some 57, .mv (.t 9), (some (47, false))⟩, ⟨some 58, .bin .eql (.t 56) (.t 57), (some (47, false))⟩, ⟨some 59, .eq .bool false (.t 55) (.t 58), (some (47, false))⟩, ⟨some 60, .pick (.t 47) (.c (.x (.bool true))) (.t 59), none⟩])
  (.cond (.t 60)
    (.seq (.reg [⟨some 6, .mv (.c (.x (.bool false))), none⟩])
    .ret)
    .skip))
  (.seq (.reg [⟨some 61, .mv (.t 7), none⟩, ⟨some 62, .mv (.t 9), none⟩, ⟨some 63, .call (.c (.fn 10 [])) [(.t 61), (.t 62)], none⟩, ⟨some 64, .un .not (.t 63), none⟩, ⟨some 65, .mv (.t 64), none⟩, ⟨some 66, .mv (.t 9), (some (65, false))⟩, ⟨some 67, .mv (.t 11), (some (65, false))⟩, ⟨some 68, .call (.c (.fn 10 [])) [(.t 66), (.t 67)], (some (65, false))⟩, ⟨some 69, .un .not (.t 68), (some (65, false))⟩, ⟨some 70, .pick (.t 65) (.c (.x (.bool true))) (.t 69), none⟩, ⟨some 71, .mv (.t 70), none⟩, ⟨some 72, .mv (.t 7), (some (71, false))⟩, ⟨some 73, .mv (.t 11), (some (71, false))⟩, ⟨some 74, .call (.c (.fn 10 [])) [(.t 72), (.t 73)], (some (71, false))⟩, ⟨some 75, .pick (.t 71) (.c (.x (.bool true))) (.t 74), none⟩, ⟨some 76, .mv (.t 75), none⟩, ⟨some 77, .call (.c (.fn 7 [])) [], (some (76, true))⟩, ⟨some 78, .pick (.t 76) (.t 77) (.c (.x (.bool false))), none⟩, ⟨some 6, .mv (.t 78), none⟩])
  .ret)))))))⟩
theorem c4 : compFn Tryd.prog Tryd.f4 = some i4 := by kernel_rfl
/-- bothy/bothylaw43.DefsTypes -/
def i5 : IFn := ⟨94, [.tmp 4], (.seq (.reg [⟨some 2, .box (.t 0), none⟩, ⟨some 4, .mv (.c (.x (.bool false))), none⟩])
  (.seq (.seq (.reg [⟨some 15, .fad 0 (.t 2), none⟩, ⟨some 16, .ld 1 false (.t 15), none⟩, ⟨some 17, .len true (.t 16), none⟩, ⟨some 18, .bin .gtr (.t 17) (.c (.x (.int .i64 (80)))), none⟩, ⟨some 19, .mv (.t 18), none⟩, ⟨some 20, .mv (.t 1), (some (19, false))⟩, ⟨some 21, .len true (.t 20), (some (19, false))⟩, ⟨some 22, .bin .gtr (.t 21) (.c (.x (.int .i64 (300)))), (some (19, false))⟩, ⟨some 23, .pick (.t 19) (.c (.x (.bool true))) (.t 22), none⟩])
  (.cond (.t 23)
    (.seq (.reg [⟨some 24, .call (.c (.fn 11 [])) [], none⟩, ⟨some 4, .mv (.t 24), none⟩])
    .ret)
    .skip))
  (.seq (.reg [⟨some 26, .ld 3 true (.t 2), none⟩, ⟨some 27, .call (.c (.fn 12 [])) [(.t 26)], none⟩, ⟨some 25, .mv (.t 27), none⟩, ⟨some 28, .ext (.t 25) 0, none⟩, ⟨some 29, .ext (.t 25) 1, none⟩, ⟨some 5, .mv (.t 28), none⟩, ⟨some 6, .mv (.t 29), none⟩])
  (.seq (.reg [⟨some 31, .ld 3 true (.t 2), none⟩, ⟨some 32, .call (.c (.fn 13 [])) [(.t 31)], none⟩, ⟨some 30, .mv (.t 32), none⟩, ⟨some 33, .ext (.t 30) 0, none⟩, ⟨some 34, .ext (.t 30) 1, none⟩, ⟨some 7, .mv (.t 33), none⟩, ⟨some 8, .mv (.t 34), none⟩])
  (.seq (.reg [⟨some 36, .mv (.t 5), none⟩, ⟨some 37, .call (.c (.fn 14 [])) [(.t 36)], none⟩, ⟨some 35, .mv (.t 37), none⟩, ⟨some 38, .ext (.t 35) 0, none⟩, ⟨some 39, .ext (.t 35) 1, none⟩, ⟨some 9, .box (.c (.agg [.x (.str []), .x (.int .i64 (0)), .x (.bool false)])), none⟩, ⟨none, .sto 3 (.t 9) (.t 38), none⟩, ⟨some 10, .mv (.t 39), none⟩])
  (.seq (.reg [⟨some 41, .mv (.t 1), none⟩, ⟨some 42, .call (.c (.fn 14 [])) [(.t 41)], none⟩, ⟨some 40, .mv (.t 42), none⟩, ⟨some 43, .ext (.t 40) 0, none⟩, ⟨some 44, .ext (.t 40) 1, none⟩, ⟨some 11, .box (.c (.agg [.x (.str []), .x (.int .i64 (0)), .x (.bool false)])), none⟩, ⟨none, .sto 3 (.t 11) (.t 43), none⟩, ⟨some 12, .mv (.t 44), none⟩])
  (.seq (.reg [⟨some 46, .ld 3 true (.t 11), none⟩, ⟨some 47, .call (.c (.fn 13 [])) [(.t 46)], none⟩, ⟨some 45, .mv (.t 47), none⟩, ⟨some 48, .ext (.t 45) 0, none⟩, ⟨some 49, .ext (.t 45) 1, none⟩, ⟨some 13, .mv (.t 48), none⟩, ⟨some 14, .mv (.t 49), none⟩])
  (.seq (.seq (.reg [⟨some 50, .mv (.t 5), none⟩, ⟨some 51, .mv (.t 7), none⟩, ⟨some 52, .bin .neq (.t 50) (.t 51), none⟩, ⟨some 53, .mv (.t 52), none⟩, ⟨some 54, .mv (.t 6), (some (53, false))⟩, ⟨some 55, .mv (.t 8), (some (53, false))⟩, ⟨some 56, .bin .neq (.t 54) (.t 55), (some (53, false))⟩, ⟨some 57, .pick (.t 53) (.c (.x (.bool true))) (.t 56), none⟩, ⟨some 58, .mv (.t 57), none⟩, ⟨some 59, .mv (.t 6), (some (58, false))⟩, ⟨some 60, .bin .eql (.t 59) (.c (.x (.int .i64 (0)))), (some (58, false))⟩, ⟨some 61, .mv (.t 60), (some (58, false))⟩, ⟨some 62, .mv (.t 10), (some (61, true))⟩, ⟨some 63, .bin .neq (.t 62) (.c (.x (.int .i64 (0)))), (some (61, true))⟩, ⟨some 64, .mv (.t 63), (some (61, true))⟩, ⟨some 65, .ld 3 true (.t 9), (some (64, false))⟩, ⟨some 66, .ld 3 true (.t 2), (some (64, false))⟩, ⟨some 67, .eq (.st [(0, .str), (1, .int .i64), (2, .bool)]) true (.t 65) (.t 66), (some (64, false))⟩, ⟨some 68, .pick (.t 64) (.c (.x (.bool true))) (.t 67), (some (61, true))⟩, ⟨some 69, .pick (.t 61) (.t 68) (.c (.x (.bool false))), (some (58, false))⟩, ⟨some 70, .pick (.t 58) (.c (.x (.bool true))) (.t 69), none⟩])
  (.cond (.t 70)
    (.seq (.reg [⟨some 4, .mv (.c (.x (.bool false))), none⟩])
    .ret)
    .skip))
  (.seq (.reg [⟨some 71, .mv (.t 12), none⟩, ⟨some 72, .bin .eql (.t 71) (.c (.x (.int .i64 (0)))), none⟩, ⟨some 73, .mv (.t 72), none⟩, ⟨some 74, .mv (.t 13), (some (73, true))⟩, ⟨some 75, .mv (.t 1), (some (73, true))⟩, ⟨some 76, .bin .eql (.t 74) (.t 75), (some (73, true))⟩, ⟨some 77, .pick (.t 73) (.t 76) (.c (.x (.bool false))), none⟩, ⟨some 78, .mv (.t 77), none⟩, ⟨some 79, .mv (.t 14), (some (78, true))⟩, ⟨some 80, .bin .eql (.t 79) (.c (.x (.int .i64 (0)))), (some (78, true))⟩, ⟨some 81, .pick (.t 78) (.t 80) (.c (.x (.bool false))), none⟩, ⟨some 82, .mv (.t 81), none⟩, ⟨some 83, .mv (.t 12), (some (82, false))⟩, ⟨some 84, .bin .eql (.t 83) (.c (.x (.int .i64 (5)))), (some (82, false))⟩, ⟨some 85, .mv (.t 84), (some (82, false))⟩, ⟨some 86, .ld 3 true (.t 11), (some (85, true))⟩, ⟨some 87, .build [.x (.str []), .x (.int .i64 (0)), .x (.bool false)] [], (some (85, true))⟩, ⟨some 88, .eq (.st [(0, .str), (1, .int .i64), (2, .bool)]) false (.t 86) (.t 87), (some (85, true))⟩, ⟨some 89, .pick (.t 85) (.t 88) (.c (.x (.bool false))), (some (82, false))⟩, ⟨some 90, .pick (.t 82) (.c (.x (.bool true))) (.t 89), none⟩, ⟨some 91, .mv (.t 90), none⟩, ⟨some 92, .call (.c (.fn 11 [])) [], (some (91, true))⟩, ⟨some 93, .pick (.t 91) (.t 92) (.c (.x (.bool false))), none⟩, ⟨some 4, .mv (.t 93), none⟩])
  .ret)))))))))⟩
theorem c5 : compFn Tryd.prog Tryd.f5 = some i5 := by kernel_rfl
/-- bothy/bothylaw43.DefsClasses -/
def i6 : IFn := ⟨94, [.tmp 4], (.seq (.reg [⟨some 2, .box (.t 0), none⟩, ⟨some 4, .mv (.c (.x (.bool false))), none⟩])
  (.seq (.seq (.reg [⟨some 15, .ld 3 true (.t 2), none⟩, ⟨some 16, .call (.c (.fn 15 [])) [(.t 15)], none⟩, ⟨some 17, .un .not (.t 16), none⟩, ⟨some 18, .mv (.t 17), none⟩, ⟨some 19, .mv (.t 1), (some (18, false))⟩, ⟨some 20, .len true (.t 19), (some (18, false))⟩, ⟨some 21, .bin .gtr (.t 20) (.c (.x (.int .i64 (300)))), (some (18, false))⟩, ⟨some 22, .pick (.t 18) (.c (.x (.bool true))) (.t 21), none⟩])
  (.cond (.t 22)
    (.seq (.reg [⟨some 23, .call (.c (.fn 11 [])) [], none⟩, ⟨some 4, .mv (.t 23), none⟩])
    .ret)
    .skip))
  (.seq (.reg [⟨some 25, .ld 3 true (.t 2), none⟩, ⟨some 26, .call (.c (.fn 16 [])) [(.t 25)], none⟩, ⟨some 24, .mv (.t 26), none⟩, ⟨some 27, .ext (.t 24) 0, none⟩, ⟨some 28, .ext (.t 24) 1, none⟩, ⟨some 5, .mv (.t 27), none⟩, ⟨some 6, .mv (.t 28), none⟩])
  (.seq (.reg [⟨some 30, .ld 3 true (.t 2), none⟩, ⟨some 31, .call (.c (.fn 17 [])) [(.t 30)], none⟩, ⟨some 29, .mv (.t 31), none⟩, ⟨some 32, .ext (.t 29) 0, none⟩, ⟨some 33, .ext (.t 29) 1, none⟩, ⟨some 7, .mv (.t 32), none⟩, ⟨some 8, .mv (.t 33), none⟩])
  (.seq (.reg [⟨some 35, .mv (.t 5), none⟩, ⟨some 36, .call (.c (.fn 18 [])) [(.t 35)], none⟩, ⟨some 34, .mv (.t 36), none⟩, ⟨some 37, .ext (.t 34) 0, none⟩, ⟨some 38, .ext (.t 34) 1, none⟩, ⟨some 9, .box (.c (.agg [.x (.str []), .x .nils, .x .nils])), none⟩, ⟨none, .sto 3 (.t 9) (.t 37), none⟩, ⟨some 10, .mv (.t 38), none⟩])
  (.seq (.reg [⟨some 40, .mv (.t 1), none⟩, ⟨some 41, .call (.c (.fn 18 [])) [(.t 40)], none⟩, ⟨some 39, .mv (.t 41), none⟩, ⟨some 42, .ext (.t 39) 0, none⟩, ⟨some 43, .ext (.t 39) 1, none⟩, ⟨some 11, .box (.c (.agg [.x (.str []), .x .nils, .x .nils])), none⟩, ⟨none, .sto 3 (.t 11) (.t 42), none⟩, ⟨some 12, .mv (.t 43), none⟩])
  (.seq (.reg [⟨some 45, .ld 3 true (.t 11), none⟩, ⟨some 46, .call (.c (.fn 17 [])) [(.t 45)], none⟩, ⟨some 44, .mv (.t 46), none⟩, ⟨some 47, .ext (.t 44) 0, none⟩, ⟨some 48, .ext (.t 44) 1, none⟩, ⟨some 13, .mv (.t 47), none⟩, ⟨some 14, .mv (.t 48), none⟩])
  (.seq (.seq (.reg [⟨some 49, .mv (.t 5), none⟩, ⟨some 50, .mv (.t 7), none⟩, ⟨some 51, .bin .neq (.t 49) (.t 50), none⟩, ⟨some 52, .mv (.t 51), none⟩, ⟨some 53, .mv (.t 6), (some (52, false))⟩, ⟨some 54, .mv (.t 8), (some (52, false))⟩, ⟨some 55, .bin .neq (.t 53) (.t 54), (some (52, false))⟩, ⟨some 56, .pick (.t 52) (.c (.x (.bool true))) (.t 55), none⟩, ⟨some 57, .mv (.t 56), none⟩, ⟨some 58, .mv (.t 6), (some (57, false))⟩, ⟨some 59, .bin .eql (.t 58) (.c (.x (.int .i64 (0)))), (some (57, false))⟩, ⟨some 60, .mv (.t 59), (some (57, false))⟩, ⟨some 61, .mv (.t 10), (some (60, true))⟩, ⟨some 62, .bin .neq (.t 61) (.c (.x (.int .i64 (0)))), (some (60, true))⟩, ⟨some 63, .mv (.t 62), (some (60, true))⟩, ⟨some 64, .ld 3 true (.t 9), (some (63, false))⟩, ⟨some 65, .ld 3 true (.t 2), (some (63, false))⟩, ⟨some 66, .call (.c (.fn 19 [])) [(.t 64), (.t 65)], (some (63, false))⟩, ⟨some 67, .un .not (.t 66), (some (63, false))⟩, ⟨some 68, .pick (.t 63) (.c (.x (.bool true))) (.t 67), (some (60, true))⟩, ⟨some 69, .pick (.t 60) (.t 68) (.c (.x (.bool false))), (some (57, false))⟩, ⟨some 70, .pick (.t 57) (.c (.x (.bool true))) (.t 69), none⟩])
  (.cond (.t 70)
    (.seq (.reg [⟨some 4, .mv (.c (.x (.bool false))), none⟩])
    .ret)
    .skip))
  (.seq (.reg [⟨some 71, .mv (.t 12), none⟩, ⟨some 72, .bin .eql (.t 71) (.c (.x (.int .i64 (0)))), none⟩, ⟨some 73, .mv (.t 72), none⟩, ⟨some 74, .mv (.t 13), (some (73, true))⟩, ⟨some 75, .mv (.t 1), (some (73, true))⟩, ⟨some 76, .bin .eql (.t 74) (.t 75), (some (73, true))⟩, ⟨some 77, .pick (.t 73) (.t 76) (.c (.x (.bool false))), none⟩, ⟨some 78, .mv (.t 77), none⟩, ⟨some 79, .mv (.t 14), (some (78, true))⟩, ⟨some 80, .bin .eql (.t 79) (.c (.x (.int .i64 (0)))), (some (78, true))⟩, ⟨some 81, .pick (.t 78) (.t 80) (.c (.x (.bool false))), none⟩, ⟨some 82, .mv (.t 81), none⟩, ⟨some 83, .mv (.t 12), (some (82, false))⟩, ⟨some 84, .bin .eql (.t 83) (.c (.x (.int .i64 (5)))), (some (82, false))⟩, ⟨some 85, .mv (.t 84), (some (82, false))⟩, ⟨some 86, .ld 3 true (.t 11), (some (85, true))⟩, ⟨some 87, .build [.x (.str []), .x .nils, .x .nils] [], (some (85, true))⟩, ⟨some 88, .call (.c (.fn 19 [])) [(.t 86), (.t 87)], (some (85, true))⟩, ⟨some 89, .pick (.t 85) (.t 88) (.c (.x (.bool false))), (some (82, false))⟩, ⟨some 90, .pick (.t 82) (.c (.x (.bool true))) (.t 89), none⟩, ⟨some 91, .mv (.t 90), none⟩, ⟨some 92, .call (.c (.fn 11 [])) [], (some (91, true))⟩, ⟨some 93, .pick (.t 91) (.t 92) (.c (.x (.bool false))), none⟩, ⟨some 4, .mv (.t 93), none⟩])
  .ret)))))))))⟩
theorem c6 : compFn Tryd.prog Tryd.f6 = some i6 := by kernel_rfl
/-- bothy/bothylaw05.awake -/
def i7 : IFn := ⟨56, [.tmp 0], (.seq (.reg [⟨some 0, .mv (.c (.x (.bool false))), none⟩])
  (.seq (.reg [⟨some 8, .call (.c (.fn 9 [])) [(.c (.x (.str [45, 48, 48, 55])))], none⟩, ⟨some 7, .mv (.t 8), none⟩, ⟨some 9, .ext (.t 7) 0, none⟩, ⟨some 10, .ext (.t 7) 1, none⟩, ⟨some 1, .mv (.t 9), none⟩, ⟨some 2, .mv (.t 10), none⟩])
  (.seq (.reg [⟨some 12, .call (.c (.fn 9 [])) [(.c (.x (.str [45, 48])))], none⟩, ⟨some 11, .mv (.t 12), none⟩, ⟨some 13, .ext (.t 11) 0, none⟩, ⟨some 14, .ext (.t 11) 1, none⟩, ⟨some 3, .mv (.t 13), none⟩, ⟨some 4, .mv (.t 14), none⟩])
  (.seq (.reg [⟨some 16, .call (.c (.fn 9 [])) [(.c (.x (.str [49, 120])))], none⟩, ⟨some 15, .mv (.t 16), none⟩, ⟨some 17, .ext (.t 15) 0, none⟩, ⟨some 18, .ext (.t 15) 1, none⟩, ⟨some 5, .mv (.t 17), none⟩, ⟨some 6, .mv (.t 18), none⟩])
  (.seq (.reg [⟨some 19, .call (.c (.fn 8 [])) [(.c (.x (.str [32, 32, 65, 32, 32, 98])))], none⟩, ⟨some 20, .bin .eql (.t 19) (.c (.x (.str [97, 32, 98]))), none⟩, ⟨some 21, .mv (.t 20), none⟩, ⟨some 22, .call (.c (.fn 20 [])) [(.c (.x (.str [97, 90])))], (some (21, true))⟩, ⟨some 23, .bin .eql (.t 22) (.c (.x (.str [97, 122]))), (some (21, true))⟩, ⟨some 24, .pick (.t 21) (.t 23) (.c (.x (.bool false))), none⟩, ⟨some 25, .mv (.t 24), none⟩, ⟨some 26, .call (.c (.fn 21 [])) [(.c (.x (.str [32, 97, 32, 32, 98, 32])))], (some (25, true))⟩, ⟨some 27, .bin .eql (.t 26) (.c (.x (.str [97, 32, 98]))), (some (25, true))⟩, ⟨some 28, .pick (.t 25) (.t 27) (.c (.x (.bool false))), none⟩, ⟨some 29, .mv (.t 28), none⟩, ⟨some 30, .mv (.t 1), (some (29, true))⟩, ⟨some 31, .bin .eql (.t 30) (.c (.x (.str [45, 55]))), (some (29, true))⟩, ⟨some 32, .pick (.t 29) (.t 31) (.c (.x (.bool false))), none⟩, ⟨some 33, .mv (.t 32), none⟩, ⟨some 34, .mv (.t 2), (some (33, true))⟩, ⟨some 35, .pick (.t 33) (.t 34) (.c (.x (.bool false))), none⟩, ⟨some 36, .mv (.t 35), none⟩, ⟨some 37, .mv (.t 3), (some (36, true))⟩, ⟨some 38, .bin .eql (.t 37) (.c (.x (.str [48]))), (some (36, true))⟩, ⟨some 39, .pick (.t 36) (.t 38) (.c (.x (.bool false))), none⟩, ⟨some 40, .mv (.t 39), none⟩, ⟨some 41, .mv (.t 6), (some (40, true))⟩, ⟨some 42, .un .not (.t 41), (some (40, true))⟩, ⟨some 43, .pick (.t 40) (.t 42) (.c (.x (.bool false))), none⟩, ⟨some 44, .mv (.t 43), none⟩, ⟨some 45, .call (.c (.fn 10 [])) [(.c (.x (.str [57]))), (.c (.x (.str [49, 48])))], (some (44, true))⟩, ⟨some 46, .pick (.t 44) (.t 45) (.c (.x (.bool false))), none⟩, ⟨some 47, .mv (.t 46), none⟩, ⟨some 48, .call (.c (.fn 10 [])) [(.c (.x (.str [45, 49, 48]))), (.c (.x (.str [45, 57])))], (some (47, true))⟩, ⟨some 49, .pick (.t 47) (.t 48) (.c (.x (.bool false))), none⟩, ⟨some 50, .mv (.t 49), none⟩, ⟨some 51, .call (.c (.fn 10 [])) [(.c (.x (.str [45, 49]))), (.c (.x (.str [48])))], (some (50, true))⟩, ⟨some 52, .pick (.t 50) (.t 51) (.c (.x (.bool false))), none⟩, ⟨some 53, .mv (.t 52), none⟩, ⟨some 54, .call (.c (.fn 10 [])) [(.c (.x (.str [97]))), (.c (.x (.str [98])))], (some (53, true))⟩, ⟨some 55, .pick (.t 53) (.t 54) (.c (.x (.bool false))), none⟩, ⟨some 0, .mv (.t 55), none⟩])
  .ret)))))⟩
theorem c7 : compFn Tryd.prog Tryd.f7 = some i7 := by kernel_rfl
/-- bothy/fold.Fold -/
def i8 : IFn := ⟨6, [.tmp 2], (.seq (.reg [⟨some 2, .mv (.c (.x (.str []))), none⟩])
  (.seq (.reg [⟨some 3, .mv (.t 0), none⟩, ⟨some 4, .call (.c (.fn 21 [])) [(.t 3)], none⟩, ⟨some 5, .call (.c (.fn 20 [])) [(.t 4)], none⟩, ⟨some 2, .mv (.t 5), none⟩])
  .ret))⟩
theorem c8 : compFn Tryd.prog Tryd.f8 = some i8 := by kernel_rfl
/-- bothy/fold.Int -/
def i9 : IFn := ⟨32, [.tmp 2, .tmp 3], (.seq (.reg [⟨some 2, .mv (.c (.x (.str []))), none⟩, ⟨some 3, .mv (.c (.x (.bool false))), none⟩])
  (.seq (.reg [⟨some 7, .mv (.t 0), none⟩, ⟨some 8, .call (.c (.fn 22 [])) [(.t 7), (.c (.x (.str [45])))], none⟩, ⟨some 6, .mv (.t 8), none⟩, ⟨some 9, .ext (.t 6) 0, none⟩, ⟨some 10, .ext (.t 6) 1, none⟩, ⟨some 4, .mv (.t 9), none⟩, ⟨some 5, .mv (.t 10), none⟩])
  (.seq (.seq (.reg [⟨some 11, .mv (.t 4), none⟩, ⟨some 12, .call (.c (.fn 23 [])) [(.t 11)], none⟩, ⟨some 13, .un .not (.t 12), none⟩])
  (.cond (.t 13)
    (.seq (.reg [⟨some 2, .mv (.c (.x (.str []))), none⟩, ⟨some 3, .mv (.c (.x (.bool false))), none⟩])
    .ret)
    .skip))
  (.seq (.block 0
    (.loop
      (.seq (.seq (.reg [⟨some 14, .mv (.t 4), none⟩, ⟨some 15, .len true (.t 14), none⟩, ⟨some 16, .bin .gtr (.t 15) (.c (.x (.int .i64 (1)))), none⟩, ⟨some 17, .mv (.t 16), none⟩, ⟨some 18, .mv (.t 4), (some (17, true))⟩, ⟨some 19, .idx (.t 18) (.c (.x (.int .i64 (0)))), (some (17, true))⟩, ⟨some 20, .bin .eql (.t 19) (.c (.x (.int .u8 (48)))), (some (17, true))⟩, ⟨some 21, .pick (.t 17) (.t 20) (.c (.x (.bool false))), none⟩])
      (.cond (.t 21)
        .skip
        (.exit 0)))
      (.block 1
        (.reg [⟨some 22, .mv (.t 4), none⟩, ⟨some 23, .slc 0 (.t 22) (some (.c (.x (.int .i64 (1))))) none none, none⟩, ⟨some 4, .mv (.t 23), none⟩])))))
  (.seq (.seq (.reg [⟨some 24, .mv (.t 5), none⟩, ⟨some 25, .mv (.t 24), none⟩, ⟨some 26, .mv (.t 4), (some (25, true))⟩, ⟨some 27, .bin .neq (.t 26) (.c (.x (.str [48]))), (some (25, true))⟩, ⟨some 28, .pick (.t 25) (.t 27) (.c (.x (.bool false))), none⟩])
  (.cond (.t 28)
    (.reg [⟨some 29, .mv (.t 4), none⟩, ⟨some 30, .bin .add (.c (.x (.str [45]))) (.t 29), none⟩, ⟨some 4, .mv (.t 30), none⟩])
    .skip))
  (.seq (.reg [⟨some 31, .mv (.t 4), none⟩, ⟨some 2, .mv (.t 31), none⟩, ⟨some 3, .mv (.c (.x (.bool true))), none⟩])
  .ret))))))⟩
theorem c9 : compFn Tryd.prog Tryd.f9 = some i9 := by kernel_rfl
/-- bothy/fold.Less -/
def i10 : IFn := ⟨46, [.tmp 4], (.seq (.reg [⟨some 4, .mv (.c (.x (.bool false))), none⟩])
  (.seq (.seq (.reg [⟨some 9, .mv (.t 0), none⟩, ⟨some 10, .call (.c (.fn 24 [])) [(.t 9)], none⟩, ⟨some 11, .un .not (.t 10), none⟩, ⟨some 12, .mv (.t 11), none⟩, ⟨some 13, .mv (.t 1), (some (12, false))⟩, ⟨some 14, .call (.c (.fn 24 [])) [(.t 13)], (some (12, false))⟩, ⟨some 15, .un .not (.t 14), (some (12, false))⟩, ⟨some 16, .pick (.t 12) (.c (.x (.bool true))) (.t 15), none⟩])
  (.cond (.t 16)
    (.seq (.reg [⟨some 17, .mv (.t 0), none⟩, ⟨some 18, .mv (.t 1), none⟩, ⟨some 19, .bin .lss (.t 17) (.t 18), none⟩, ⟨some 4, .mv (.t 19), none⟩])
    .ret)
    .skip))
  (.seq (.reg [⟨some 21, .mv (.t 0), none⟩, ⟨some 22, .call (.c (.fn 22 [])) [(.t 21), (.c (.x (.str [45])))], none⟩, ⟨some 20, .mv (.t 22), none⟩, ⟨some 23, .ext (.t 20) 0, none⟩, ⟨some 24, .ext (.t 20) 1, none⟩, ⟨some 5, .mv (.t 23), none⟩, ⟨some 6, .mv (.t 24), none⟩])
  (.seq (.reg [⟨some 26, .mv (.t 1), none⟩, ⟨some 27, .call (.c (.fn 22 [])) [(.t 26), (.c (.x (.str [45])))], none⟩, ⟨some 25, .mv (.t 27), none⟩, ⟨some 28, .ext (.t 25) 0, none⟩, ⟨some 29, .ext (.t 25) 1, none⟩, ⟨some 7, .mv (.t 28), none⟩, ⟨some 8, .mv (.t 29), none⟩])
  (.seq (.block 0
    (.seq (.reg [⟨some 31, .mv (.t 6), none⟩, ⟨some 32, .mv (.t 31), none⟩, ⟨some 33, .mv (.t 8), (some (32, true))⟩, ⟨some 34, .pick (.t 32) (.t 33) (.c (.x (.bool false))), none⟩, ⟨some 30, .mv (.t 34), none⟩])
    (.cond (.t 30)
      (.seq (.reg [⟨some 35, .mv (.t 7), none⟩, ⟨some 36, .mv (.t 5), none⟩, ⟨some 37, .call (.c (.fn 25 [])) [(.t 35), (.t 36)], none⟩, ⟨some 4, .mv (.t 37), none⟩])
      .ret)
      (.seq (.reg [⟨some 39, .mv (.t 6), none⟩, ⟨some 40, .mv (.t 8), none⟩, ⟨some 41, .eq .bool true (.t 39) (.t 40), none⟩, ⟨some 38, .mv (.t 41), none⟩])
      (.cond (.t 38)
        (.seq (.reg [⟨some 42, .mv (.t 6), none⟩, ⟨some 4, .mv (.t 42), none⟩])
        .ret)
        .skip)))))
  (.seq (.reg [⟨some 43, .mv (.t 5), none⟩, ⟨some 44, .mv (.t 7), none⟩, ⟨some 45, .call (.c (.fn 25 [])) [(.t 43), (.t 44)], none⟩, ⟨some 4, .mv (.t 45), none⟩])
  .ret))))))⟩
theorem c10 : compFn Tryd.prog Tryd.f10 = some i10 := by kernel_rfl
/-- bothy/bothylaw43.awake -/
def i11 : IFn := ⟨78, [.tmp 0], (.seq (.reg [⟨some 0, .mv (.c (.x (.bool false))), none⟩])
  (.seq (.reg [⟨some 12, .build [.x (.str []), .x (.int .i64 (0)), .x (.bool false)] [(0, 1, (.c (.x (.str [99, 110])))), (1, 1, (.c (.x (.int .i64 (1)))))], none⟩, ⟨some 13, .call (.c (.fn 12 [])) [(.t 12)], none⟩, ⟨some 11, .mv (.t 13), none⟩, ⟨some 14, .ext (.t 11) 0, none⟩, ⟨some 15, .ext (.t 11) 1, none⟩, ⟨some 1, .mv (.t 14), none⟩, ⟨some 2, .mv (.t 15), none⟩])
  (.seq (.reg [⟨some 17, .call (.c (.fn 14 [])) [(.c (.x (.str [40, 32, 78, 65, 77, 69, 32, 39, 117, 105, 100, 39, 32, 69, 81, 85, 65, 76, 73, 84, 89, 32, 105, 110, 116, 101, 103, 101, 114, 77, 97, 116, 99, 104, 32, 83, 73, 78, 71, 76, 69, 45, 86, 65, 76, 85, 69, 32, 41])))], none⟩, ⟨some 16, .mv (.t 17), none⟩, ⟨some 18, .ext (.t 16) 0, none⟩, ⟨some 19, .ext (.t 16) 1, none⟩, ⟨some 3, .box (.c (.agg [.x (.str []), .x (.int .i64 (0)), .x (.bool false)])), none⟩, ⟨none, .sto 3 (.t 3) (.t 18), none⟩, ⟨some 4, .mv (.t 19), none⟩])
  (.seq (.reg [⟨some 21, .call (.c (.fn 18 [])) [(.c (.x (.str [40, 32, 78, 65, 77, 69, 32, 39, 120, 39, 32, 77, 85, 83, 84, 32, 40, 32, 97, 32, 36, 32, 98, 32, 41, 32, 77, 65, 89, 32, 40, 32, 99, 32, 41, 32, 41])))], none⟩, ⟨some 20, .mv (.t 21), none⟩, ⟨some 22, .ext (.t 20) 0, none⟩, ⟨some 23, .ext (.t 20) 1, none⟩, ⟨some 5, .box (.c (.agg [.x (.str []), .x .nils, .x .nils])), none⟩, ⟨none, .sto 3 (.t 5) (.t 22), none⟩, ⟨some 6, .mv (.t 23), none⟩])
  (.seq (.reg [⟨some 25, .build [.x (.str []), .x .nils, .x .nils] [(0, 1, (.c (.x (.str [116, 111, 112]))))], none⟩, ⟨some 26, .call (.c (.fn 16 [])) [(.t 25)], none⟩, ⟨some 24, .mv (.t 26), none⟩, ⟨some 27, .ext (.t 24) 0, none⟩, ⟨some 28, .ext (.t 24) 1, none⟩, ⟨some 7, .mv (.t 27), none⟩, ⟨some 8, .mv (.t 28), none⟩])
  (.seq (.reg [⟨some 30, .mv (.t 1), none⟩, ⟨some 31, .bin .add (.t 30) (.c (.x (.str [32]))), none⟩, ⟨some 32, .call (.c (.fn 14 [])) [(.t 31)], none⟩, ⟨some 29, .mv (.t 32), none⟩, ⟨some 33, .ext (.t 29) 0, none⟩, ⟨some 34, .ext (.t 29) 1, none⟩, ⟨some 9, .box (.c (.agg [.x (.str []), .x (.int .i64 (0)), .x (.bool false)])), none⟩, ⟨none, .sto 3 (.t 9) (.t 33), none⟩, ⟨some 10, .mv (.t 34), none⟩])
  (.seq (.reg [⟨some 35, .mv (.t 1), none⟩, ⟨some 36, .bin .eql (.t 35) (.c (.x (.str [40, 32, 78, 65, 77, 69, 32, 39, 99, 110, 39, 32, 69, 81, 85, 65, 76, 73, 84, 89, 32, 99, 97, 115, 101, 73, 103, 110, 111, 114, 101, 77, 97, 116, 99, 104, 32, 41]))), none⟩, ⟨some 37, .mv (.t 36), none⟩, ⟨some 38, .mv (.t 2), (some (37, true))⟩, ⟨some 39, .bin .eql (.t 38) (.c (.x (.int .i64 (0)))), (some (37, true))⟩, ⟨some 40, .pick (.t 37) (.t 39) (.c (.x (.bool false))), none⟩, ⟨some 41, .mv (.t 40), none⟩, ⟨some 42, .ld 3 true (.t 3), (some (41, true))⟩, ⟨some 43, .build [.x (.str []), .x (.int .i64 (0)), .x (.bool false)] [(0, 1, (.c (.x (.str [117, 105, 100])))), (1, 1, (.c (.x (.int .i64 (3))))), (2, 1, (.c (.x (.bool true))))], (some (41, true))⟩, ⟨some 44, .eq (.st [(0, .str), (1, .int .i64), (2, .bool)]) false (.t 42) (.t 43), (some (41, true))⟩, ⟨some 45, .pick (.t 41) (.t 44) (.c (.x (.bool false))), none⟩, ⟨some 46, .mv (.t 45), none⟩, ⟨some 47, .mv (.t 4), (some (46, true))⟩, ⟨some 48, .bin .eql (.t 47) (.c (.x (.int .i64 (0)))), (some (46, true))⟩, ⟨some 49, .pick (.t 46) (.t 48) (.c (.x (.bool false))), none⟩, ⟨some 50, .mv (.t 49), none⟩, ⟨some 51, .fad 1 (.t 5), (some (50, true))⟩, ⟨some 52, .ld 1 false (.t 51), (some (50, true))⟩, ⟨some 53, .bsl 9 1 2 [(.c (.x (.str [97]))), (.c (.x (.str [98])))], (some (50, true))⟩, ⟨some 54, .call (.c (.fn 26 [])) [(.t 52), (.t 53)], (some (50, true))⟩, ⟨some 55, .pick (.t 50) (.t 54) (.c (.x (.bool false))), none⟩, ⟨some 56, .mv (.t 55), none⟩, ⟨some 57, .fad 2 (.t 5), (some (56, true))⟩, ⟨some 58, .ld 1 false (.t 57), (some (56, true))⟩, ⟨some 59, .len false (.t 58), (some (56, true))⟩, ⟨some 60, .bin .eql (.t 59) (.c (.x (.int .i64 (1)))), (some (56, true))⟩, ⟨some 61, .pick (.t 56) (.t 60) (.c (.x (.bool false))), none⟩, ⟨some 62, .mv (.t 61), none⟩, ⟨some 63, .mv (.t 6), (some (62, true))⟩, ⟨some 64, .bin .eql (.t 63) (.c (.x (.int .i64 (0)))), (some (62, true))⟩, ⟨some 65, .pick (.t 62) (.t 64) (.c (.x (.bool false))), none⟩, ⟨some 66, .mv (.t 65), none⟩, ⟨some 67, .mv (.t 7), (some (66, true))⟩, ⟨some 68, .bin .eql (.t 67) (.c (.x (.str [40, 32, 78, 65, 77, 69, 32, 39, 116, 111, 112, 39, 32, 41]))), (some (66, true))⟩, ⟨some 69, .pick (.t 66) (.t 68) (.c (.x (.bool false))), none⟩, ⟨some 70, .mv (.t 69), none⟩, ⟨some 71, .mv (.t 8), (some (70, true))⟩, ⟨some 72, .bin .eql (.t 71) (.c (.x (.int .i64 (0)))), (some (70, true))⟩, ⟨some 73, .pick (.t 70) (.t 72) (.c (.x (.bool false))), none⟩, ⟨some 74, .mv (.t 73), none⟩, ⟨some 75, .mv (.t 10), (some (74, true))⟩, ⟨some 76, .bin .eql (.t 75) (.c (.x (.int .i64 (5)))), (some (74, true))⟩, ⟨some 77, .pick (.t 74) (.t 76) (.c (.x (.bool false))), none⟩, ⟨some 0, .mv (.t 77), none⟩])
  .ret)))))))⟩
theorem c11 : compFn Tryd.prog Tryd.f11 = some i11 := by kernel_rfl
/-- bothy/defs.PutType -/
def i12 : IFn := ⟨38, [.tmp 2, .tmp 3], (.seq (.reg [⟨some 1, .box (.t 0), none⟩, ⟨some 2, .mv (.c (.x (.str []))), none⟩, ⟨some 3, .mv (.c (.x (.int .i64 (0)))), none⟩])
  (.seq (.block 0
    (.seq (.reg [⟨some 6, .fad 0 (.t 1), none⟩, ⟨some 7, .ld 1 false (.t 6), none⟩, ⟨some 8, .call (.c (.fn 27 [])) [(.t 7)], none⟩, ⟨some 9, .un .not (.t 8), none⟩, ⟨some 5, .mv (.t 9), none⟩])
    (.cond (.t 5)
      (.seq (.reg [⟨some 2, .mv (.c (.x (.str []))), none⟩, ⟨some 3, .mv (.c (.x (.int .i64 (13)))), none⟩])
      .ret)
      (.seq (.reg [⟨some 11, .fad 1 (.t 1), none⟩, ⟨some 12, .ld 1 false (.t 11), none⟩, ⟨some 13, .bin .lss (.t 12) (.c (.x (.int .i64 (1)))), none⟩, ⟨some 14, .mv (.t 13), none⟩, ⟨some 15, .fad 1 (.t 1), (some (14, false))⟩, ⟨some 16, .ld 1 false (.t 15), (some (14, false))⟩, ⟨some 17, .bin .gtr (.t 16) (.c (.x (.int .i64 (5)))), (some (14, false))⟩, ⟨some 18, .pick (.t 14) (.c (.x (.bool true))) (.t 17), none⟩, ⟨some 10, .mv (.t 18), none⟩])
      (.cond (.t 10)
        (.seq (.reg [⟨some 2, .mv (.c (.x (.str []))), none⟩, ⟨some 3, .mv (.c (.x (.int .i64 (1)))), none⟩])
        .ret)
        .skip)))))
  (.seq (.dreg 7 [] [⟨some 19, .fad 0 (.t 1), none⟩, ⟨some 20, .ld 1 false (.t 19), none⟩, ⟨some 21, .bin .add (.c (.x (.str [39]))) (.t 20), none⟩, ⟨some 22, .bin .add (.t 21) (.c (.x (.str [39]))), none⟩, ⟨some 23, .call (.c (.fn 28 [])) [], none⟩, ⟨some 24, .fad 1 (.t 1), none⟩, ⟨some 25, .ld 1 false (.t 24), none⟩, ⟨some 26, .bin .sub (.t 25) (.c (.x (.int .i64 (1)))), none⟩, ⟨some 27, .idxa 1 5 false (.t 23) (.t 26), none⟩, ⟨some 28, .bsl 9 1 5 [(.c (.x (.str [40]))), (.c (.x (.str [78, 65, 77, 69]))), (.t 22), (.c (.x (.str [69, 81, 85, 65, 76, 73, 84, 89]))), (.t 27)], none⟩, ⟨some 4, .mv (.t 28), none⟩])
  (.seq (.seq (.reg [⟨some 29, .fad 2 (.t 1), none⟩, ⟨some 30, .ld 1 false (.t 29), none⟩])
  (.cond (.t 30)
    (.reg [⟨some 31, .mv (.t 4), none⟩, ⟨some 32, .bsl 9 1 1 [(.c (.x (.str [83, 73, 78, 71, 76, 69, 45, 86, 65, 76, 85, 69])))], none⟩, ⟨some 33, .app 9 1 16 (.t 31) (.t 32), none⟩, ⟨some 4, .mv (.t 33), none⟩])
    .skip))
  (.seq (.reg [⟨some 34, .mv (.t 4), none⟩, ⟨some 35, .bsl 9 1 1 [(.c (.x (.str [41])))], none⟩, ⟨some 36, .app 9 1 16 (.t 34) (.t 35), none⟩, ⟨some 37, .call (.c (.fn 29 [])) [(.t 36), (.c (.x (.str [32])))], none⟩, ⟨some 2, .mv (.t 37), none⟩, ⟨some 3, .mv (.c (.x (.int .i64 (0)))), none⟩])
  .ret)))))⟩
theorem c12 : compFn Tryd.prog Tryd.f12 = some i12 := by kernel_rfl
/-- bothy/bothylaw43.putType -/
def i13 : IFn := ⟨36, [.tmp 2, .tmp 3], (.seq (.reg [⟨some 1, .box (.t 0), none⟩, ⟨some 2, .mv (.c (.x (.str []))), none⟩, ⟨some 3, .mv (.c (.x (.int .i64 (0)))), none⟩])
  (.seq (.seq (.reg [⟨some 6, .fad 0 (.t 1), none⟩, ⟨some 7, .ld 1 false (.t 6), none⟩, ⟨some 8, .call (.c (.fn 30 [])) [(.t 7)], none⟩, ⟨some 9, .un .not (.t 8), none⟩])
  (.cond (.t 9)
    (.seq (.reg [⟨some 2, .mv (.c (.x (.str []))), none⟩, ⟨some 3, .mv (.c (.x (.int .i64 (13)))), none⟩])
    .ret)
    .skip))
  (.seq (.seq (.reg [⟨some 10, .fad 1 (.t 1), none⟩, ⟨some 11, .ld 1 false (.t 10), none⟩, ⟨some 12, .bin .lss (.t 11) (.c (.x (.int .i64 (1)))), none⟩, ⟨some 13, .mv (.t 12), none⟩, ⟨some 14, .fad 1 (.t 1), (some (13, false))⟩, ⟨some 15, .ld 1 false (.t 14), (some (13, false))⟩, ⟨some 16, .bin .gtr (.t 15) (.c (.x (.int .i64 (5)))), (some (13, false))⟩, ⟨some 17, .pick (.t 13) (.c (.x (.bool true))) (.t 16), none⟩])
  (.cond (.t 17)
    (.seq (.reg [⟨some 2, .mv (.c (.x (.str []))), none⟩, ⟨some 3, .mv (.c (.x (.int .i64 (1)))), none⟩])
    .ret)
    .skip))
  (.seq (.reg [⟨some 18, .bsl 9 1 5 [(.c (.x (.str [99, 97, 115, 101, 73, 103, 110, 111, 114, 101, 77, 97, 116, 99, 104]))), (.c (.x (.str [99, 97, 115, 101, 69, 120, 97, 99, 116, 77, 97, 116, 99, 104]))), (.c (.x (.str [105, 110, 116, 101, 103, 101, 114, 77, 97, 116, 99, 104]))), (.c (.x (.str [111, 99, 116, 101, 116, 83, 116, 114, 105, 110, 103, 77, 97, 116, 99, 104]))), (.c (.x (.str [100, 105, 115, 116, 105, 110, 103, 117, 105, 115, 104, 101, 100, 78, 97, 109, 101, 77, 97, 116, 99, 104])))], none⟩, ⟨some 4, .mv (.t 18), none⟩])
  (.seq (.dreg 10 [] [⟨some 19, .fad 0 (.t 1), none⟩, ⟨some 20, .ld 1 false (.t 19), none⟩, ⟨some 21, .bin .add (.c (.x (.str [40, 32, 78, 65, 77, 69, 32, 39]))) (.t 20), none⟩, ⟨some 22, .bin .add (.t 21) (.c (.x (.str [39, 32, 69, 81, 85, 65, 76, 73, 84, 89, 32]))), none⟩, ⟨some 23, .mv (.t 4), none⟩, ⟨some 24, .fad 1 (.t 1), none⟩, ⟨some 25, .ld 1 false (.t 24), none⟩, ⟨some 26, .bin .sub (.t 25) (.c (.x (.int .i64 (1)))), none⟩, ⟨some 27, .iad 1 (.t 23) (.t 26), none⟩, ⟨some 28, .ld 1 false (.t 27), none⟩, ⟨some 29, .bin .add (.t 22) (.t 28), none⟩, ⟨some 5, .mv (.t 29), none⟩])
  (.seq (.seq (.reg [⟨some 30, .fad 2 (.t 1), none⟩, ⟨some 31, .ld 1 false (.t 30), none⟩])
  (.cond (.t 31)
    (.reg [⟨some 32, .mv (.t 5), none⟩, ⟨some 33, .bin .add (.t 32) (.c (.x (.str [32, 83, 73, 78, 71, 76, 69, 45, 86, 65, 76, 85, 69]))), none⟩, ⟨some 5, .mv (.t 33), none⟩])
    .skip))
  (.seq (.reg [⟨some 34, .mv (.t 5), none⟩, ⟨some 35, .bin .add (.t 34) (.c (.x (.str [32, 41]))), none⟩, ⟨some 2, .mv (.t 35), none⟩, ⟨some 3, .mv (.c (.x (.int .i64 (0)))), none⟩])
  .ret)))))))⟩
theorem c13 : compFn Tryd.prog Tryd.f13 = some i13 := by kernel_rfl
/-- bothy/defs.ReadType -/
def i14 : IFn := ⟨64, [.cell 2 3 true, .tmp 3], (.seq (.reg [⟨some 2, .box (.c (.agg [.x (.str []), .x (.int .i64 (0)), .x (.bool false)])), none⟩, ⟨some 3, .mv (.c (.x (.int .i64 (0)))), none⟩])
  (.seq (.reg [⟨some 10, .mv (.t 0), none⟩, ⟨some 11, .call (.c (.fn 31 [])) [(.t 10)], none⟩, ⟨some 9, .mv (.t 11), none⟩, ⟨some 12, .ext (.t 9) 0, none⟩, ⟨some 13, .ext (.t 9) 1, none⟩, ⟨some 14, .ext (.t 9) 2, none⟩, ⟨some 4, .mv (.t 12), none⟩, ⟨some 5, .mv (.t 13), none⟩, ⟨some 6, .mv (.t 14), none⟩])
  (.seq (.seq (.reg [⟨some 15, .mv (.t 6), none⟩, ⟨some 16, .un .not (.t 15), none⟩, ⟨some 17, .mv (.t 16), none⟩, ⟨some 18, .mv (.t 5), (some (17, false))⟩, ⟨some 19, .len false (.t 18), (some (17, false))⟩, ⟨some 20, .bin .lss (.t 19) (.c (.x (.int .i64 (2)))), (some (17, false))⟩, ⟨some 21, .pick (.t 17) (.c (.x (.bool true))) (.t 20), none⟩, ⟨some 22, .mv (.t 21), none⟩, ⟨some 23, .mv (.t 5), (some (22, false))⟩, ⟨some 24, .len false (.t 23), (some (22, false))⟩, ⟨some 25, .bin .gtr (.t 24) (.c (.x (.int .i64 (3)))), (some (22, false))⟩, ⟨some 26, .pick (.t 22) (.c (.x (.bool true))) (.t 25), none⟩, ⟨some 27, .mv (.t 26), none⟩, ⟨some 28, .mv (.t 5), (some (27, false))⟩, ⟨some 29, .iad 1 (.t 28) (.c (.x (.int .i64 (0)))), (some (27, false))⟩, ⟨some 30, .ld 1 false (.t 29), (some (27, false))⟩, ⟨some 31, .bin .neq (.t 30) (.c (.x (.str [69, 81, 85, 65, 76, 73, 84, 89]))), (some (27, false))⟩, ⟨some 32, .pick (.t 27) (.c (.x (.bool true))) (.t 31), none⟩, ⟨some 33, .mv (.t 32), none⟩, ⟨some 34, .mv (.t 5), (some (33, false))⟩, ⟨some 35, .len false (.t 34), (some (33, false))⟩, ⟨some 36, .bin .eql (.t 35) (.c (.x (.int .i64 (3)))), (some (33, false))⟩, ⟨some 37, .mv (.t 36), (some (33, false))⟩, ⟨some 38, .mv (.t 5), (some (37, true))⟩, ⟨some 39, .iad 1 (.t 38) (.c (.x (.int .i64 (2)))), (some (37, true))⟩, ⟨some 40, .ld 1 false (.t 39), (some (37, true))⟩, ⟨some 41, .bin .neq (.t 40) (.c (.x (.str [83, 73, 78, 71, 76, 69, 45, 86, 65, 76, 85, 69]))), (some (37, true))⟩, ⟨some 42, .pick (.t 37) (.t 41) (.c (.x (.bool false))), (some (33, false))⟩, ⟨some 43, .pick (.t 33) (.c (.x (.bool true))) (.t 42), none⟩])
  (.cond (.t 43)
    (.seq (.reg [⟨some 44, .build [.x (.str []), .x (.int .i64 (0)), .x (.bool false)] [], none⟩, ⟨none, .sto 3 (.t 2) (.t 44), none⟩, ⟨some 3, .mv (.c (.x (.int .i64 (5)))), none⟩])
    .ret)
    .skip))
  (.seq (.seq (.reg [⟨some 45, .call (.c (.fn 28 [])) [], none⟩, ⟨some 46, .mv (.c (.x (.int .i64 (0)))), none⟩])
  (.block 0
    (.loop
      (.seq (.reg [⟨some 47, .bin .lss (.t 46) (.c (.x (.int .i64 (5)))), none⟩])
      (.seq (.cond (.t 47)
        .skip
        (.exit 0))
      (.seq (.block 1
        (.seq (.reg [⟨some 48, .mv (.t 46), none⟩, ⟨some 49, .idxa 1 5 false (.t 45) (.t 46), none⟩, ⟨some 7, .mv (.t 48), none⟩, ⟨some 8, .mv (.t 49), none⟩])
        (.seq (.reg [⟨some 50, .mv (.t 8), none⟩, ⟨some 51, .mv (.t 5), none⟩, ⟨some 52, .iad 1 (.t 51) (.c (.x (.int .i64 (1)))), none⟩, ⟨some 53, .ld 1 false (.t 52), none⟩, ⟨some 54, .bin .eql (.t 50) (.t 53), none⟩])
        (.cond (.t 54)
          (.seq (.reg [⟨some 55, .mv (.t 4), none⟩, ⟨some 56, .mv (.t 7), none⟩, ⟨some 57, .bin .add (.t 56) (.c (.x (.int .i64 (1)))), none⟩, ⟨some 58, .mv (.t 5), none⟩, ⟨some 59, .len false (.t 58), none⟩, ⟨some 60, .bin .eql (.t 59) (.c (.x (.int .i64 (3)))), none⟩, ⟨some 61, .build [.x (.str []), .x (.int .i64 (0)), .x (.bool false)] [(0, 1, (.t 55)), (1, 1, (.t 57)), (2, 1, (.t 60))], none⟩, ⟨none, .sto 3 (.t 2) (.t 61), none⟩, ⟨some 3, .mv (.c (.x (.int .i64 (0)))), none⟩])
          .ret)
          .skip))))
      (.reg [⟨some 62, .bin .add (.t 46) (.c (.x (.int .i64 (1)))), none⟩, ⟨some 46, .mv (.t 62), none⟩])))))))
  (.seq (.reg [⟨some 63, .build [.x (.str []), .x (.int .i64 (0)), .x (.bool false)] [], none⟩, ⟨none, .sto 3 (.t 2) (.t 63), none⟩, ⟨some 3, .mv (.c (.x (.int .i64 (5)))), none⟩])
  .ret)))))⟩
theorem c14 : compFn Tryd.prog Tryd.f14 = some i14 := by kernel_rfl
/-- bothy/bothylaw43.few -/
def i15 : IFn := ⟨33, [.tmp 2], (.seq (.reg [⟨some 1, .box (.t 0), none⟩, ⟨some 2, .mv (.c (.x (.bool false))), none⟩])
  (.seq (.reg [⟨some 3, .mv (.c (.x .nils)), none⟩])
  (.seq (.reg [⟨some 5, .mv (.t 3), none⟩, ⟨some 6, .fad 0 (.t 1), none⟩, ⟨some 7, .ld 1 false (.t 6), none⟩, ⟨some 8, .bsl 9 1 1 [(.t 7)], none⟩, ⟨some 9, .app 9 1 16 (.t 5) (.t 8), none⟩, ⟨some 3, .mv (.t 9), none⟩])
  (.seq (.reg [⟨some 10, .mv (.t 3), none⟩, ⟨some 11, .fad 1 (.t 1), none⟩, ⟨some 12, .ld 1 false (.t 11), none⟩, ⟨some 13, .app 9 1 16 (.t 10) (.t 12), none⟩, ⟨some 3, .mv (.t 13), none⟩])
  (.seq (.reg [⟨some 14, .mv (.t 3), none⟩, ⟨some 15, .fad 2 (.t 1), none⟩, ⟨some 16, .ld 1 false (.t 15), none⟩, ⟨some 17, .app 9 1 16 (.t 14) (.t 16), none⟩, ⟨some 3, .mv (.t 17), none⟩])
  (.seq (.seq (.reg [⟨some 4, .mv (.c (.x (.int .i64 (0)))), none⟩])
  (.block 0
    (.loop
      (.seq (.seq (.reg [⟨some 18, .mv (.t 4), none⟩, ⟨some 19, .mv (.t 3), none⟩, ⟨some 20, .len false (.t 19), none⟩, ⟨some 21, .bin .lss (.t 18) (.t 20), none⟩])
      (.cond (.t 21)
        .skip
        (.exit 0)))
      (.seq (.block 1
        (.seq (.reg [⟨some 24, .mv (.t 3), none⟩, ⟨some 25, .mv (.t 4), none⟩, ⟨some 26, .iad 1 (.t 24) (.t 25), none⟩, ⟨some 27, .ld 1 false (.t 26), none⟩, ⟨some 28, .len true (.t 27), none⟩, ⟨some 29, .bin .gtr (.t 28) (.c (.x (.int .i64 (80)))), none⟩])
        (.cond (.t 29)
          (.seq (.reg [⟨some 2, .mv (.c (.x (.bool false))), none⟩])
          .ret)
          .skip)))
      (.reg [⟨some 22, .mv (.t 4), none⟩, ⟨some 23, .bin .add (.t 22) (.c (.x (.int .i64 (1)))), none⟩, ⟨some 4, .mv (.t 23), none⟩]))))))
  (.seq (.reg [⟨some 30, .mv (.t 3), none⟩, ⟨some 31, .len false (.t 30), none⟩, ⟨some 32, .bin .leq (.t 31) (.c (.x (.int .i64 (150)))), none⟩, ⟨some 2, .mv (.t 32), none⟩])
  .ret)))))))⟩
theorem c15 : compFn Tryd.prog Tryd.f15 = some i15 := by kernel_rfl
/-- bothy/defs.PutClass -/
def i16 : IFn := ⟨52, [.tmp 2, .tmp 3], (.seq (.reg [⟨some 1, .box (.t 0), none⟩, ⟨some 2, .mv (.c (.x (.str []))), none⟩, ⟨some 3, .mv (.c (.x (.int .i64 (0)))), none⟩])
  (.seq (.block 0
    (.seq (.reg [⟨some 6, .fad 0 (.t 1), none⟩, ⟨some 7, .ld 1 false (.t 6), none⟩, ⟨some 8, .call (.c (.fn 27 [])) [(.t 7)], none⟩, ⟨some 9, .un .not (.t 8), none⟩, ⟨some 10, .mv (.t 9), none⟩, ⟨some 11, .fad 1 (.t 1), (some (10, false))⟩, ⟨some 12, .ld 1 false (.t 11), (some (10, false))⟩, ⟨some 13, .call (.c (.fn 32 [])) [(.t 12)], (some (10, false))⟩, ⟨some 14, .un .not (.t 13), (some (10, false))⟩, ⟨some 15, .pick (.t 10) (.c (.x (.bool true))) (.t 14), none⟩, ⟨some 16, .mv (.t 15), none⟩, ⟨some 17, .fad 2 (.t 1), (some (16, false))⟩, ⟨some 18, .ld 1 false (.t 17), (some (16, false))⟩, ⟨some 19, .call (.c (.fn 32 [])) [(.t 18)], (some (16, false))⟩, ⟨some 20, .un .not (.t 19), (some (16, false))⟩, ⟨some 21, .pick (.t 16) (.c (.x (.bool true))) (.t 20), none⟩, ⟨some 5, .mv (.t 21), none⟩])
    (.cond (.t 5)
      (.seq (.reg [⟨some 2, .mv (.c (.x (.str []))), none⟩, ⟨some 3, .mv (.c (.x (.int .i64 (13)))), none⟩])
      .ret)
      (.seq (.reg [⟨some 23, .fad 1 (.t 1), none⟩, ⟨some 24, .ld 1 false (.t 23), none⟩, ⟨some 25, .len false (.t 24), none⟩, ⟨some 26, .bin .gtr (.t 25) (.c (.x (.int .i64 (64)))), none⟩, ⟨some 27, .mv (.t 26), none⟩, ⟨some 28, .fad 2 (.t 1), (some (27, false))⟩, ⟨some 29, .ld 1 false (.t 28), (some (27, false))⟩, ⟨some 30, .len false (.t 29), (some (27, false))⟩, ⟨some 31, .bin .gtr (.t 30) (.c (.x (.int .i64 (64)))), (some (27, false))⟩, ⟨some 32, .pick (.t 27) (.c (.x (.bool true))) (.t 31), none⟩, ⟨some 22, .mv (.t 32), none⟩])
      (.cond (.t 22)
        (.seq (.reg [⟨some 2, .mv (.c (.x (.str []))), none⟩, ⟨some 3, .mv (.c (.x (.int .i64 (3)))), none⟩])
        .ret)
        .skip)))))
  (.seq (.reg [⟨some 33, .fad 0 (.t 1), none⟩, ⟨some 34, .ld 1 false (.t 33), none⟩, ⟨some 35, .bin .add (.c (.x (.str [39]))) (.t 34), none⟩, ⟨some 36, .bin .add (.t 35) (.c (.x (.str [39]))), none⟩, ⟨some 37, .bsl 9 1 3 [(.c (.x (.str [40]))), (.c (.x (.str [78, 65, 77, 69]))), (.t 36)], none⟩, ⟨some 4, .mv (.t 37), none⟩])
  (.seq (.reg [⟨some 38, .mv (.t 4), none⟩, ⟨some 39, .fad 1 (.t 1), none⟩, ⟨some 40, .ld 1 false (.t 39), none⟩, ⟨some 41, .call (.c (.fn 33 [])) [(.c (.x (.str [77, 85, 83, 84]))), (.t 40)], none⟩, ⟨some 42, .app 9 1 16 (.t 38) (.t 41), none⟩, ⟨some 4, .mv (.t 42), none⟩])
  (.seq (.reg [⟨some 43, .mv (.t 4), none⟩, ⟨some 44, .fad 2 (.t 1), none⟩, ⟨some 45, .ld 1 false (.t 44), none⟩, ⟨some 46, .call (.c (.fn 33 [])) [(.c (.x (.str [77, 65, 89]))), (.t 45)], none⟩, ⟨some 47, .app 9 1 16 (.t 43) (.t 46), none⟩, ⟨some 4, .mv (.t 47), none⟩])
  (.seq (.reg [⟨some 48, .mv (.t 4), none⟩, ⟨some 49, .bsl 9 1 1 [(.c (.x (.str [41])))], none⟩, ⟨some 50, .app 9 1 16 (.t 48) (.t 49), none⟩, ⟨some 51, .call (.c (.fn 29 [])) [(.t 50), (.c (.x (.str [32])))], none⟩, ⟨some 2, .mv (.t 51), none⟩, ⟨some 3, .mv (.c (.x (.int .i64 (0)))), none⟩])
  .ret))))))⟩
theorem c16 : compFn Tryd.prog Tryd.f16 = some i16 := by kernel_rfl
/-- bothy/bothylaw43.putClass -/
def i17 : IFn := ⟨54, [.tmp 2, .tmp 3], (.seq (.reg [⟨some 1, .box (.t 0), none⟩, ⟨some 2, .mv (.c (.x (.str []))), none⟩, ⟨some 3, .mv (.c (.x (.int .i64 (0)))), none⟩])
  (.seq (.reg [⟨some 4, .mv (.c (.x .nils)), none⟩])
  (.seq (.reg [⟨some 6, .mv (.t 4), none⟩, ⟨some 7, .fad 0 (.t 1), none⟩, ⟨some 8, .ld 1 false (.t 7), none⟩, ⟨some 9, .bsl 9 1 1 [(.t 8)], none⟩, ⟨some 10, .app 9 1 16 (.t 6) (.t 9), none⟩, ⟨some 4, .mv (.t 10), none⟩])
  (.seq (.reg [⟨some 11, .mv (.t 4), none⟩, ⟨some 12, .fad 1 (.t 1), none⟩, ⟨some 13, .ld 1 false (.t 12), none⟩, ⟨some 14, .app 9 1 16 (.t 11) (.t 13), none⟩, ⟨some 4, .mv (.t 14), none⟩])
  (.seq (.reg [⟨some 15, .mv (.t 4), none⟩, ⟨some 16, .fad 2 (.t 1), none⟩, ⟨some 17, .ld 1 false (.t 16), none⟩, ⟨some 18, .app 9 1 16 (.t 15) (.t 17), none⟩, ⟨some 4, .mv (.t 18), none⟩])
  (.seq (.seq (.reg [⟨some 5, .mv (.c (.x (.int .i64 (0)))), none⟩])
  (.block 0
    (.loop
      (.seq (.seq (.reg [⟨some 19, .mv (.t 5), none⟩, ⟨some 20, .mv (.t 4), none⟩, ⟨some 21, .len false (.t 20), none⟩, ⟨some 22, .bin .lss (.t 19) (.t 21), none⟩])
      (.cond (.t 22)
        .skip
        (.exit 0)))
      (.seq (.block 1
        (.seq (.reg [⟨some 25, .mv (.t 4), none⟩, ⟨some 26, .mv (.t 5), none⟩, ⟨some 27, .iad 1 (.t 25) (.t 26), none⟩, ⟨some 28, .ld 1 false (.t 27), none⟩, ⟨some 29, .call (.c (.fn 30 [])) [(.t 28)], none⟩, ⟨some 30, .un .not (.t 29), none⟩])
        (.cond (.t 30)
          (.seq (.reg [⟨some 2, .mv (.c (.x (.str []))), none⟩, ⟨some 3, .mv (.c (.x (.int .i64 (13)))), none⟩])
          .ret)
          .skip)))
      (.reg [⟨some 23, .mv (.t 5), none⟩, ⟨some 24, .bin .add (.t 23) (.c (.x (.int .i64 (1)))), none⟩, ⟨some 5, .mv (.t 24), none⟩]))))))
  (.seq (.seq (.reg [⟨some 31, .fad 1 (.t 1), none⟩, ⟨some 32, .ld 1 false (.t 31), none⟩, ⟨some 33, .len false (.t 32), none⟩, ⟨some 34, .bin .gtr (.t 33) (.c (.x (.int .i64 (64)))), none⟩, ⟨some 35, .mv (.t 34), none⟩, ⟨some 36, .fad 2 (.t 1), (some (35, false))⟩, ⟨some 37, .ld 1 false (.t 36), (some (35, false))⟩, ⟨some 38, .len false (.t 37), (some (35, false))⟩, ⟨some 39, .bin .gtr (.t 38) (.c (.x (.int .i64 (64)))), (some (35, false))⟩, ⟨some 40, .pick (.t 35) (.c (.x (.bool true))) (.t 39), none⟩])
  (.cond (.t 40)
    (.seq (.reg [⟨some 2, .mv (.c (.x (.str []))), none⟩, ⟨some 3, .mv (.c (.x (.int .i64 (3)))), none⟩])
    .ret)
    .skip))
  (.seq (.dreg 11 [] [⟨some 41, .fad 0 (.t 1), none⟩, ⟨some 42, .ld 1 false (.t 41), none⟩, ⟨some 43, .bin .add (.c (.x (.str [40, 32, 78, 65, 77, 69, 32, 39]))) (.t 42), none⟩, ⟨some 44, .bin .add (.t 43) (.c (.x (.str [39]))), none⟩, ⟨some 45, .fad 1 (.t 1), none⟩, ⟨some 46, .ld 1 false (.t 45), none⟩, ⟨some 47, .call (.c (.fn 34 [])) [(.c (.x (.str [77, 85, 83, 84]))), (.t 46)], none⟩, ⟨some 48, .bin .add (.t 44) (.t 47), none⟩, ⟨some 49, .fad 2 (.t 1), none⟩, ⟨some 50, .ld 1 false (.t 49), none⟩, ⟨some 51, .call (.c (.fn 34 [])) [(.c (.x (.str [77, 65, 89]))), (.t 50)], none⟩, ⟨some 52, .bin .add (.t 48) (.t 51), none⟩, ⟨some 53, .bin .add (.t 52) (.c (.x (.str [32, 41]))), none⟩, ⟨some 2, .mv (.t 53), none⟩, ⟨some 3, .mv (.c (.x (.int .i64 (0)))), none⟩])
  .ret))))))))⟩
theorem c17 : compFn Tryd.prog Tryd.f17 = some i17 := by kernel_rfl
/-- bothy/defs.ReadClass -/
def i18 : IFn := ⟨49, [.cell 2 3 true, .tmp 3], (.seq (.reg [⟨some 2, .box (.c (.agg [.x (.str []), .x .nils, .x .nils])), none⟩, ⟨some 3, .mv (.c (.x (.int .i64 (0)))), none⟩])
  (.seq (.reg [⟨some 12, .mv (.t 0), none⟩, ⟨some 13, .call (.c (.fn 31 [])) [(.t 12)], none⟩, ⟨some 11, .mv (.t 13), none⟩, ⟨some 14, .ext (.t 11) 0, none⟩, ⟨some 15, .ext (.t 11) 1, none⟩, ⟨some 16, .ext (.t 11) 2, none⟩, ⟨some 4, .mv (.t 14), none⟩, ⟨some 5, .mv (.t 15), none⟩, ⟨some 6, .mv (.t 16), none⟩])
  (.seq (.reg [⟨some 18, .mv (.t 5), none⟩, ⟨some 19, .call (.c (.fn 35 [])) [(.c (.x (.str [77, 85, 83, 84]))), (.t 18)], none⟩, ⟨some 17, .mv (.t 19), none⟩, ⟨some 20, .ext (.t 17) 0, none⟩, ⟨some 21, .ext (.t 17) 1, none⟩, ⟨some 22, .ext (.t 17) 2, none⟩, ⟨some 7, .mv (.t 20), none⟩, ⟨some 5, .mv (.t 21), none⟩, ⟨some 8, .mv (.t 22), none⟩])
  (.seq (.reg [⟨some 24, .mv (.t 5), none⟩, ⟨some 25, .call (.c (.fn 35 [])) [(.c (.x (.str [77, 65, 89]))), (.t 24)], none⟩, ⟨some 23, .mv (.t 25), none⟩, ⟨some 26, .ext (.t 23) 0, none⟩, ⟨some 27, .ext (.t 23) 1, none⟩, ⟨some 28, .ext (.t 23) 2, none⟩, ⟨some 9, .mv (.t 26), none⟩, ⟨some 5, .mv (.t 27), none⟩, ⟨some 10, .mv (.t 28), none⟩])
  (.seq (.seq (.reg [⟨some 29, .mv (.t 6), none⟩, ⟨some 30, .un .not (.t 29), none⟩, ⟨some 31, .mv (.t 30), none⟩, ⟨some 32, .mv (.t 8), (some (31, false))⟩, ⟨some 33, .un .not (.t 32), (some (31, false))⟩, ⟨some 34, .pick (.t 31) (.c (.x (.bool true))) (.t 33), none⟩, ⟨some 35, .mv (.t 34), none⟩, ⟨some 36, .mv (.t 10), (some (35, false))⟩, ⟨some 37, .un .not (.t 36), (some (35, false))⟩, ⟨some 38, .pick (.t 35) (.c (.x (.bool true))) (.t 37), none⟩, ⟨some 39, .mv (.t 38), none⟩, ⟨some 40, .mv (.t 5), (some (39, false))⟩, ⟨some 41, .len false (.t 40), (some (39, false))⟩, ⟨some 42, .bin .gtr (.t 41) (.c (.x (.int .i64 (0)))), (some (39, false))⟩, ⟨some 43, .pick (.t 39) (.c (.x (.bool true))) (.t 42), none⟩])
  (.cond (.t 43)
    (.seq (.reg [⟨some 44, .build [.x (.str []), .x .nils, .x .nils] [], none⟩, ⟨none, .sto 3 (.t 2) (.t 44), none⟩, ⟨some 3, .mv (.c (.x (.int .i64 (5)))), none⟩])
    .ret)
    .skip))
  (.seq (.reg [⟨some 45, .mv (.t 4), none⟩, ⟨some 46, .mv (.t 7), none⟩, ⟨some 47, .mv (.t 9), none⟩, ⟨some 48, .build [.x (.str []), .x .nils, .x .nils] [(0, 1, (.t 45)), (1, 1, (.t 46)), (2, 1, (.t 47))], none⟩, ⟨none, .sto 3 (.t 2) (.t 48), none⟩, ⟨some 3, .mv (.c (.x (.int .i64 (0)))), none⟩])
  .ret))))))⟩
theorem c18 : compFn Tryd.prog Tryd.f18 = some i18 := by kernel_rfl
/-- bothy/bothylaw43.sameClass -/
def i19 : IFn := ⟨24, [.tmp 4], (.seq (.reg [⟨some 2, .box (.t 0), none⟩, ⟨some 3, .box (.t 1), none⟩, ⟨some 4, .mv (.c (.x (.bool false))), none⟩])
  (.seq (.reg [⟨some 5, .fad 0 (.t 2), none⟩, ⟨some 6, .ld 1 false (.t 5), none⟩, ⟨some 7, .fad 0 (.t 3), none⟩, ⟨some 8, .ld 1 false (.t 7), none⟩, ⟨some 9, .bin .eql (.t 6) (.t 8), none⟩, ⟨some 10, .mv (.t 9), none⟩, ⟨some 11, .fad 1 (.t 2), (some (10, true))⟩, ⟨some 12, .ld 1 false (.t 11), (some (10, true))⟩, ⟨some 13, .fad 1 (.t 3), (some (10, true))⟩, ⟨some 14, .ld 1 false (.t 13), (some (10, true))⟩, ⟨some 15, .call (.c (.fn 26 [])) [(.t 12), (.t 14)], (some (10, true))⟩, ⟨some 16, .pick (.t 10) (.t 15) (.c (.x (.bool false))), none⟩, ⟨some 17, .mv (.t 16), none⟩, ⟨some 18, .fad 2 (.t 2), (some (17, true))⟩, ⟨some 19, .ld 1 false (.t 18), (some (17, true))⟩, ⟨some 20, .fad 2 (.t 3), (some (17, true))⟩, ⟨some 21, .ld 1 false (.t 20), (some (17, true))⟩, ⟨some 22, .call (.c (.fn 26 [])) [(.t 19), (.t 21)], (some (17, true))⟩, ⟨some 23, .pick (.t 17) (.t 22) (.c (.x (.bool false))), none⟩, ⟨some 4, .mv (.t 23), none⟩])
  .ret))⟩
theorem c19 : compFn Tryd.prog Tryd.f19 = some i19 := by kernel_rfl
/-- bothy/fold.Lower -/
def i20 : IFn := ⟨30, [.tmp 2], (.seq (.reg [⟨some 2, .mv (.c (.x (.str []))), none⟩])
  (.seq (.reg [⟨some 6, .mv (.t 0), none⟩, ⟨some 7, .s2b 5 (.t 6), none⟩, ⟨some 3, .mv (.t 7), none⟩])
  (.seq (.seq (.reg [⟨some 8, .mv (.t 3), none⟩, ⟨some 9, .len false (.t 8), none⟩, ⟨some 10, .mv (.c (.x (.int .i64 (0)))), none⟩])
  (.block 0
    (.loop
      (.seq (.reg [⟨some 11, .bin .lss (.t 10) (.t 9), none⟩])
      (.seq (.cond (.t 11)
        .skip
        (.exit 0))
      (.seq (.block 1
        (.seq (.reg [⟨some 12, .mv (.t 10), none⟩, ⟨some 13, .iad 1 (.t 8) (.t 10), none⟩, ⟨some 14, .ld 1 false (.t 13), none⟩, ⟨some 4, .mv (.t 12), none⟩, ⟨some 5, .mv (.t 14), none⟩])
        (.seq (.reg [⟨some 15, .mv (.t 5), none⟩, ⟨some 16, .bin .geq (.t 15) (.c (.x (.int .u8 (65)))), none⟩, ⟨some 17, .mv (.t 16), none⟩, ⟨some 18, .mv (.t 5), (some (17, true))⟩, ⟨some 19, .bin .leq (.t 18) (.c (.x (.int .u8 (90)))), (some (17, true))⟩, ⟨some 20, .pick (.t 17) (.t 19) (.c (.x (.bool false))), none⟩])
        (.cond (.t 20)
          (.reg [⟨some 21, .mv (.t 3), none⟩, ⟨some 22, .mv (.t 4), none⟩, ⟨some 23, .mv (.t 5), none⟩, ⟨some 24, .bin .sub (.t 23) (.c (.x (.int .u8 (65)))), none⟩, ⟨some 25, .bin .add (.t 24) (.c (.x (.int .u8 (97)))), none⟩, ⟨some 26, .iad 1 (.t 21) (.t 22), none⟩, ⟨none, .sto 1 (.t 26) (.t 25), none⟩])
          .skip))))
      (.reg [⟨some 27, .bin .add (.t 10) (.c (.x (.int .i64 (1)))), none⟩, ⟨some 10, .mv (.t 27), none⟩])))))))
  (.seq (.reg [⟨some 28, .mv (.t 3), none⟩, ⟨some 29, .b2s (.t 28), none⟩, ⟨some 2, .mv (.t 29), none⟩])
  .ret))))⟩
theorem c20 : compFn Tryd.prog Tryd.f20 = some i20 := by kernel_rfl
/-- bothy/fold.Blanks -/
def i21 : IFn := ⟨22, [.tmp 2], (.seq (.reg [⟨some 2, .mv (.c (.x (.str []))), none⟩])
  (.seq (.reg [⟨some 3, .mv (.c (.x .nils)), none⟩])
  (.seq (.seq (.reg [⟨some 6, .mv (.t 0), none⟩, ⟨some 7, .call (.c (.fn 36 [])) [(.t 6), (.c (.x (.str [32])))], none⟩, ⟨some 8, .len false (.t 7), none⟩, ⟨some 9, .mv (.c (.x (.int .i64 (0)))), none⟩])
  (.block 0
    (.loop
      (.seq (.reg [⟨some 10, .bin .lss (.t 9) (.t 8), none⟩])
      (.seq (.cond (.t 10)
        .skip
        (.exit 0))
      (.seq (.block 1
        (.seq (.reg [⟨some 11, .iad 1 (.t 7) (.t 9), none⟩, ⟨some 12, .ld 1 false (.t 11), none⟩, ⟨some 5, .mv (.t 12), none⟩])
        (.seq (.reg [⟨some 13, .mv (.t 5), none⟩, ⟨some 14, .bin .neq (.t 13) (.c (.x (.str []))), none⟩])
        (.cond (.t 14)
          (.reg [⟨some 15, .mv (.t 3), none⟩, ⟨some 16, .mv (.t 5), none⟩, ⟨some 17, .bsl 9 1 1 [(.t 16)], none⟩, ⟨some 18, .app 9 1 16 (.t 15) (.t 17), none⟩, ⟨some 3, .mv (.t 18), none⟩])
          .skip))))
      (.reg [⟨some 19, .bin .add (.t 9) (.c (.x (.int .i64 (1)))), none⟩, ⟨some 9, .mv (.t 19), none⟩])))))))
  (.seq (.reg [⟨some 20, .mv (.t 3), none⟩, ⟨some 21, .call (.c (.fn 29 [])) [(.t 20), (.c (.x (.str [32])))], none⟩, ⟨some 2, .mv (.t 21), none⟩])
  .ret))))⟩
theorem c21 : compFn Tryd.prog Tryd.f21 = some i21 := by kernel_rfl
/-- bothy/fold.digits -/
def i23 : IFn := ⟨23, [.tmp 2], (.seq (.reg [⟨some 2, .mv (.c (.x (.bool false))), none⟩])
  (.seq (.seq (.reg [⟨some 5, .mv (.t 0), none⟩, ⟨some 6, .rgs (.t 5), none⟩])
  (.block 0
    (.loop
      (.seq (.reg [⟨some 7, .nxt true (.t 6), none⟩, ⟨some 8, .ext (.t 7) 0, none⟩])
      (.seq (.cond (.t 8)
        .skip
        (.exit 0))
      (.block 1
        (.seq (.reg [⟨some 9, .ext (.t 7) 2, none⟩, ⟨some 4, .mv (.t 9), none⟩])
        (.seq (.reg [⟨some 10, .mv (.t 4), none⟩, ⟨some 11, .bin .lss (.t 10) (.c (.x (.int .i32 (48)))), none⟩, ⟨some 12, .mv (.t 11), none⟩, ⟨some 13, .mv (.t 4), (some (12, false))⟩, ⟨some 14, .bin .gtr (.t 13) (.c (.x (.int .i32 (57)))), (some (12, false))⟩, ⟨some 15, .pick (.t 12) (.c (.x (.bool true))) (.t 14), none⟩])
        (.cond (.t 15)
          (.seq (.reg [⟨some 2, .mv (.c (.x (.bool false))), none⟩])
          .ret)
          .skip)))))))))
  (.seq (.reg [⟨some 16, .mv (.t 0), none⟩, ⟨some 17, .bin .neq (.t 16) (.c (.x (.str []))), none⟩, ⟨some 18, .mv (.t 17), none⟩, ⟨some 19, .mv (.t 0), (some (18, true))⟩, ⟨some 20, .len true (.t 19), (some (18, true))⟩, ⟨some 21, .bin .leq (.t 20) (.c (.x (.int .i64 (32)))), (some (18, true))⟩, ⟨some 22, .pick (.t 18) (.t 21) (.c (.x (.bool false))), none⟩, ⟨some 2, .mv (.t 22), none⟩])
  .ret)))⟩
theorem c23 : compFn Tryd.prog Tryd.f23 = some i23 := by kernel_rfl
/-- bothy/fold.number -/
def i24 : IFn := ⟨16, [.tmp 2], (.seq (.reg [⟨some 2, .mv (.c (.x (.bool false))), none⟩])
  (.seq (.reg [⟨some 6, .mv (.t 0), none⟩, ⟨some 7, .call (.c (.fn 9 [])) [(.t 6)], none⟩, ⟨some 5, .mv (.t 7), none⟩, ⟨some 8, .ext (.t 5) 0, none⟩, ⟨some 9, .ext (.t 5) 1, none⟩, ⟨some 3, .mv (.t 8), none⟩, ⟨some 4, .mv (.t 9), none⟩])
  (.seq (.reg [⟨some 10, .mv (.t 4), none⟩, ⟨some 11, .mv (.t 10), none⟩, ⟨some 12, .mv (.t 0), (some (11, true))⟩, ⟨some 13, .mv (.t 3), (some (11, true))⟩, ⟨some 14, .bin .eql (.t 12) (.t 13), (some (11, true))⟩, ⟨some 15, .pick (.t 11) (.t 14) (.c (.x (.bool false))), none⟩, ⟨some 2, .mv (.t 15), none⟩])
  .ret)))⟩
theorem c24 : compFn Tryd.prog Tryd.f24 = some i24 := by kernel_rfl
/-- bothy/fold.smaller -/
def i25 : IFn := ⟨22, [.tmp 4], (.seq (.reg [⟨some 4, .mv (.c (.x (.bool false))), none⟩])
  (.seq (.reg [⟨some 5, .mv (.t 0), none⟩, ⟨some 6, .len true (.t 5), none⟩, ⟨some 7, .mv (.t 1), none⟩, ⟨some 8, .len true (.t 7), none⟩, ⟨some 9, .bin .lss (.t 6) (.t 8), none⟩, ⟨some 10, .mv (.t 9), none⟩, ⟨some 11, .mv (.t 0), (some (10, false))⟩, ⟨some 12, .len true (.t 11), (some (10, false))⟩, ⟨some 13, .mv (.t 1), (some (10, false))⟩, ⟨some 14, .len true (.t 13), (some (10, false))⟩, ⟨some 15, .bin .eql (.t 12) (.t 14), (some (10, false))⟩, ⟨some 16, .mv (.t 15), (some (10, false))⟩, ⟨some 17, .mv (.t 0), (some (16, true))⟩, ⟨some 18, .mv (.t 1), (some (16, true))⟩, ⟨some 19, .bin .lss (.t 17) (.t 18), (some (16, true))⟩, ⟨some 20, .pick (.t 16) (.t 19) (.c (.x (.bool false))), (some (10, false))⟩, ⟨some 21, .pick (.t 10) (.c (.x (.bool true))) (.t 20), none⟩, ⟨some 4, .mv (.t 21), none⟩])
  .ret))⟩
theorem c25 : compFn Tryd.prog Tryd.f25 = some i25 := by kernel_rfl
/-- bothy/bothyref01.Texts -/
def i26 : IFn := ⟨26, [.tmp 4], (.seq (.reg [⟨some 4, .mv (.c (.x (.bool false))), none⟩])
  (.seq (.seq (.reg [⟨some 6, .mv (.t 0), none⟩, ⟨some 7, .len false (.t 6), none⟩, ⟨some 8, .mv (.t 1), none⟩, ⟨some 9, .len false (.t 8), none⟩, ⟨some 10, .bin .neq (.t 7) (.t 9), none⟩])
  (.cond (.t 10)
    (.seq (.reg [⟨some 4, .mv (.c (.x (.bool false))), none⟩])
    .ret)
    .skip))
  (.seq (.seq (.reg [⟨some 5, .mv (.c (.x (.int .i64 (0)))), none⟩])
  (.block 0
    (.loop
      (.seq (.seq (.reg [⟨some 11, .mv (.t 5), none⟩, ⟨some 12, .mv (.t 0), none⟩, ⟨some 13, .len false (.t 12), none⟩, ⟨some 14, .bin .lss (.t 11) (.t 13), none⟩])
      (.cond (.t 14)
        .skip
        (.exit 0)))
      (.seq (.block 1
        (.seq (.dreg 8 [] [⟨some 17, .mv (.t 0), none⟩, ⟨some 18, .mv (.t 5), none⟩, ⟨some 19, .iad 1 (.t 17) (.t 18), none⟩, ⟨some 20, .ld 1 false (.t 19), none⟩, ⟨some 21, .mv (.t 1), none⟩, ⟨some 22, .mv (.t 5), none⟩, ⟨some 23, .iad 1 (.t 21) (.t 22), none⟩, ⟨some 24, .ld 1 false (.t 23), none⟩, ⟨some 25, .bin .neq (.t 20) (.t 24), none⟩])
        (.cond (.t 25)
          (.seq (.reg [⟨some 4, .mv (.c (.x (.bool false))), none⟩])
          .ret)
          .skip)))
      (.reg [⟨some 15, .mv (.t 5), none⟩, ⟨some 16, .bin .add (.t 15) (.c (.x (.int .i64 (1)))), none⟩, ⟨some 5, .mv (.t 16), none⟩]))))))
  (.seq (.reg [⟨some 4, .mv (.c (.x (.bool true))), none⟩])
  .ret))))⟩
theorem c26 : compFn Tryd.prog Tryd.f26 = some i26 := by kernel_rfl
/-- bothy/defs.typed -/
def i27 : IFn := ⟨48, [.tmp 2], (.seq (.reg [⟨some 2, .mv (.c (.x (.bool false))), none⟩])
  (.seq (.reg [⟨some 7, .mv (.t 0), none⟩, ⟨some 8, .bin .neq (.t 7) (.c (.x (.str []))), none⟩, ⟨some 9, .mv (.t 8), none⟩, ⟨some 10, .mv (.t 0), (some (9, true))⟩, ⟨some 11, .len true (.t 10), (some (9, true))⟩, ⟨some 12, .bin .leq (.t 11) (.c (.x (.int .i64 (64)))), (some (9, true))⟩, ⟨some 13, .pick (.t 9) (.t 12) (.c (.x (.bool false))), none⟩, ⟨some 3, .mv (.t 13), none⟩])
  (.seq (.seq (.reg [⟨some 14, .mv (.t 0), none⟩, ⟨some 15, .call (.c (.fn 20 [])) [(.t 14)], none⟩, ⟨some 16, .rgs (.t 15), none⟩])
  (.block 0
    (.loop
      (.seq (.reg [⟨some 17, .nxt true (.t 16), none⟩, ⟨some 18, .ext (.t 17) 0, none⟩])
      (.seq (.cond (.t 18)
        .skip
        (.exit 0))
      (.block 1
        (.seq (.reg [⟨some 19, .ext (.t 17) 1, none⟩, ⟨some 20, .ext (.t 17) 2, none⟩, ⟨some 4, .mv (.t 19), none⟩, ⟨some 5, .mv (.t 20), none⟩])
        (.seq (.reg [⟨some 21, .mv (.t 5), none⟩, ⟨some 22, .bin .geq (.t 21) (.c (.x (.int .i32 (97)))), none⟩, ⟨some 23, .mv (.t 22), none⟩, ⟨some 24, .mv (.t 5), (some (23, true))⟩, ⟨some 25, .bin .leq (.t 24) (.c (.x (.int .i32 (122)))), (some (23, true))⟩, ⟨some 26, .pick (.t 23) (.t 25) (.c (.x (.bool false))), none⟩, ⟨some 6, .mv (.t 26), none⟩])
        (.reg [⟨some 27, .mv (.t 3), none⟩, ⟨some 28, .mv (.t 27), none⟩, ⟨some 29, .mv (.t 6), (some (28, true))⟩, ⟨some 30, .mv (.t 29), (some (28, true))⟩, ⟨some 31, .mv (.t 4), (some (30, false))⟩, ⟨some 32, .bin .gtr (.t 31) (.c (.x (.int .i64 (0)))), (some (30, false))⟩, ⟨some 33, .mv (.t 32), (some (30, false))⟩, ⟨some 34, .mv (.t 5), (some (33, true))⟩, ⟨some 35, .bin .geq (.t 34) (.c (.x (.int .i32 (48)))), (some (33, true))⟩, ⟨some 36, .mv (.t 35), (some (33, true))⟩, ⟨some 37, .mv (.t 5), (some (36, true))⟩, ⟨some 38, .bin .leq (.t 37) (.c (.x (.int .i32 (57)))), (some (36, true))⟩, ⟨some 39, .pick (.t 36) (.t 38) (.c (.x (.bool false))), (some (33, true))⟩, ⟨some 40, .mv (.t 39), (some (33, true))⟩, ⟨some 41, .mv (.t 5), (some (40, false))⟩, ⟨some 42, .bin .eql (.t 41) (.c (.x (.int .i32 (45)))), (some (40, false))⟩, ⟨some 43, .pick (.t 40) (.c (.x (.bool true))) (.t 42), (some (33, true))⟩, ⟨some 44, .pick (.t 33) (.t 43) (.c (.x (.bool false))), (some (30, false))⟩, ⟨some 45, .pick (.t 30) (.c (.x (.bool true))) (.t 44), (some (28, true))⟩, ⟨some 46, .pick (.t 28) (.t 45) (.c (.x (.bool false))), none⟩, ⟨some 3, .mv (.t 46), none⟩])))))))))
  (.seq (.reg [⟨some 47, .mv (.t 3), none⟩, ⟨some 2, .mv (.t 47), none⟩])
  .ret))))⟩
theorem c27 : compFn Tryd.prog Tryd.f27 = some i27 := by kernel_rfl
/-- bothy/defs.matches -/
def i28 : IFn := ⟨2, [.cell 0 5 true], (.seq (.reg [⟨some 0, .abx 48 (.c (.agg [.x (.str []), .x (.str []), .x (.str []), .x (.str []), .x (.str [])])), none⟩])
  (.seq (.reg [⟨some 1, .build [.x (.str []), .x (.str []), .x (.str []), .x (.str []), .x (.str [])] [(0, 1, (.c (.x (.str [99, 97, 115, 101, 73, 103, 110, 111, 114, 101, 77, 97, 116, 99, 104])))), (1, 1, (.c (.x (.str [99, 97, 115, 101, 69, 120, 97, 99, 116, 77, 97, 116, 99, 104])))), (2, 1, (.c (.x (.str [105, 110, 116, 101, 103, 101, 114, 77, 97, 116, 99, 104])))), (3, 1, (.c (.x (.str [111, 99, 116, 101, 116, 83, 116, 114, 105, 110, 103, 77, 97, 116, 99, 104])))), (4, 1, (.c (.x (.str [100, 105, 115, 116, 105, 110, 103, 117, 105, 115, 104, 101, 100, 78, 97, 109, 101, 77, 97, 116, 99, 104]))))], none⟩, ⟨none, .sto 5 (.t 0) (.t 1), none⟩])
  .ret))⟩
theorem c28 : compFn Tryd.prog Tryd.f28 = some i28 := by kernel_rfl
/-- bothy/bothyref06.Typed -/
def i30 : IFn := ⟨56, [.tmp 2], (.seq (.reg [⟨some 2, .mv (.c (.x (.bool false))), none⟩])
  (.seq (.seq (.reg [⟨some 3, .mv (.c (.x (.int .i64 (0)))), none⟩])
  (.block 0
    (.loop
      (.seq (.seq (.reg [⟨some 6, .mv (.t 3), none⟩, ⟨some 7, .mv (.t 0), none⟩, ⟨some 8, .len true (.t 7), none⟩, ⟨some 9, .bin .lss (.t 6) (.t 8), none⟩])
      (.cond (.t 9)
        .skip
        (.exit 0)))
      (.seq (.block 1
        (.seq (.reg [⟨some 12, .mv (.t 0), none⟩, ⟨some 13, .mv (.t 3), none⟩, ⟨some 14, .idx (.t 12) (.t 13), none⟩, ⟨some 4, .mv (.t 14), none⟩])
        (.seq (.reg [⟨some 15, .mv (.t 4), none⟩, ⟨some 16, .bin .geq (.t 15) (.c (.x (.int .u8 (97)))), none⟩, ⟨some 17, .mv (.t 16), none⟩, ⟨some 18, .mv (.t 4), (some (17, true))⟩, ⟨some 19, .bin .leq (.t 18) (.c (.x (.int .u8 (122)))), (some (17, true))⟩, ⟨some 20, .pick (.t 17) (.t 19) (.c (.x (.bool false))), none⟩, ⟨some 21, .mv (.t 20), none⟩, ⟨some 22, .mv (.t 4), (some (21, false))⟩, ⟨some 23, .bin .geq (.t 22) (.c (.x (.int .u8 (65)))), (some (21, false))⟩, ⟨some 24, .mv (.t 23), (some (21, false))⟩, ⟨some 25, .mv (.t 4), (some (24, true))⟩, ⟨some 26, .bin .leq (.t 25) (.c (.x (.int .u8 (90)))), (some (24, true))⟩, ⟨some 27, .pick (.t 24) (.t 26) (.c (.x (.bool false))), (some (21, false))⟩, ⟨some 28, .pick (.t 21) (.c (.x (.bool true))) (.t 27), none⟩, ⟨some 5, .mv (.t 28), none⟩])
        (.seq (.reg [⟨some 29, .mv (.t 5), none⟩, ⟨some 30, .un .not (.t 29), none⟩, ⟨some 31, .mv (.t 30), none⟩, ⟨some 32, .mv (.t 3), (some (31, true))⟩, ⟨some 33, .bin .eql (.t 32) (.c (.x (.int .i64 (0)))), (some (31, true))⟩, ⟨some 34, .mv (.t 33), (some (31, true))⟩, ⟨some 35, .mv (.t 4), (some (34, false))⟩, ⟨some 36, .bin .geq (.t 35) (.c (.x (.int .u8 (48)))), (some (34, false))⟩, ⟨some 37, .mv (.t 36), (some (34, false))⟩, ⟨some 38, .mv (.t 4), (some (37, true))⟩, ⟨some 39, .bin .leq (.t 38) (.c (.x (.int .u8 (57)))), (some (37, true))⟩, ⟨some 40, .pick (.t 37) (.t 39) (.c (.x (.bool false))), (some (34, false))⟩, ⟨some 41, .mv (.t 40), (some (34, false))⟩, ⟨some 42, .mv (.t 4), (some (41, false))⟩, ⟨some 43, .bin .eql (.t 42) (.c (.x (.int .u8 (45)))), (some (41, false))⟩, ⟨some 44, .pick (.t 41) (.c (.x (.bool true))) (.t 43), (some (34, false))⟩, ⟨some 45, .un .not (.t 44), (some (34, false))⟩, ⟨some 46, .pick (.t 34) (.c (.x (.bool true))) (.t 45), (some (31, true))⟩, ⟨some 47, .pick (.t 31) (.t 46) (.c (.x (.bool false))), none⟩])
        (.cond (.t 47)
          (.seq (.reg [⟨some 2, .mv (.c (.x (.bool false))), none⟩])
          .ret)
          .skip)))))
      (.reg [⟨some 10, .mv (.t 3), none⟩, ⟨some 11, .bin .add (.t 10) (.c (.x (.int .i64 (1)))), none⟩, ⟨some 3, .mv (.t 11), none⟩]))))))
  (.seq (.reg [⟨some 48, .mv (.t 0), none⟩, ⟨some 49, .len true (.t 48), none⟩, ⟨some 50, .bin .geq (.t 49) (.c (.x (.int .i64 (1)))), none⟩, ⟨some 51, .mv (.t 50), none⟩, ⟨some 52, .mv (.t 0), (some (51, true))⟩, ⟨some 53, .len true (.t 52), (some (51, true))⟩, ⟨some 54, .bin .leq (.t 53) (.c (.x (.int .i64 (64)))), (some (51, true))⟩, ⟨some 55, .pick (.t 51) (.t 54) (.c (.x (.bool false))), none⟩, ⟨some 2, .mv (.t 55), none⟩])
  .ret)))⟩
theorem c30 : compFn Tryd.prog Tryd.f30 = some i30 := by kernel_rfl
/-- bothy/defs.begin -/
def i31 : IFn := ⟨47, [.tmp 2, .tmp 3, .tmp 4], (.seq (.reg [⟨some 2, .mv (.c (.x (.str []))), none⟩, ⟨some 3, .mv (.c (.x .nils)), none⟩, ⟨some 4, .mv (.c (.x (.bool false))), none⟩])
  (.seq (.reg [⟨some 9, .mv (.t 0), none⟩, ⟨some 10, .call (.c (.fn 36 [])) [(.t 9), (.c (.x (.str [32])))], none⟩, ⟨some 5, .mv (.t 10), none⟩])
  (.seq (.reg [⟨some 11, .mv (.t 5), none⟩, ⟨some 12, .len false (.t 11), none⟩, ⟨some 13, .bin .sub (.t 12) (.c (.x (.int .i64 (1)))), none⟩, ⟨some 6, .mv (.t 13), none⟩])
  (.seq (.seq (.reg [⟨some 14, .mv (.t 6), none⟩, ⟨some 15, .bin .lss (.t 14) (.c (.x (.int .i64 (3)))), none⟩, ⟨some 16, .mv (.t 15), none⟩, ⟨some 17, .mv (.t 5), (some (16, false))⟩, ⟨some 18, .iad 1 (.t 17) (.c (.x (.int .i64 (0)))), (some (16, false))⟩, ⟨some 19, .ld 1 false (.t 18), (some (16, false))⟩, ⟨some 20, .bin .neq (.t 19) (.c (.x (.str [40]))), (some (16, false))⟩, ⟨some 21, .pick (.t 16) (.c (.x (.bool true))) (.t 20), none⟩, ⟨some 22, .mv (.t 21), none⟩, ⟨some 23, .mv (.t 5), (some (22, false))⟩, ⟨some 24, .iad 1 (.t 23) (.c (.x (.int .i64 (1)))), (some (22, false))⟩, ⟨some 25, .ld 1 false (.t 24), (some (22, false))⟩, ⟨some 26, .bin .neq (.t 25) (.c (.x (.str [78, 65, 77, 69]))), (some (22, false))⟩, ⟨some 27, .pick (.t 22) (.c (.x (.bool true))) (.t 26), none⟩, ⟨some 28, .mv (.t 27), none⟩, ⟨some 29, .mv (.t 5), (some (28, false))⟩, ⟨some 30, .mv (.t 6), (some (28, false))⟩, ⟨some 31, .iad 1 (.t 29) (.t 30), (some (28, false))⟩, ⟨some 32, .ld 1 false (.t 31), (some (28, false))⟩, ⟨some 33, .bin .neq (.t 32) (.c (.x (.str [41]))), (some (28, false))⟩, ⟨some 34, .pick (.t 28) (.c (.x (.bool true))) (.t 33), none⟩])
  (.cond (.t 34)
    (.seq (.reg [⟨some 2, .mv (.c (.x (.str []))), none⟩, ⟨some 3, .mv (.c (.x .nils)), none⟩, ⟨some 4, .mv (.c (.x (.bool false))), none⟩])
    .ret)
    .skip))
  (.seq (.reg [⟨some 36, .mv (.t 5), none⟩, ⟨some 37, .iad 1 (.t 36) (.c (.x (.int .i64 (2)))), none⟩, ⟨some 38, .ld 1 false (.t 37), none⟩, ⟨some 39, .call (.c (.fn 41 [])) [(.t 38)], none⟩, ⟨some 35, .mv (.t 39), none⟩, ⟨some 40, .ext (.t 35) 0, none⟩, ⟨some 41, .ext (.t 35) 1, none⟩, ⟨some 7, .mv (.t 40), none⟩, ⟨some 8, .mv (.t 41), none⟩])
  (.seq (.dreg 0 [] [⟨some 42, .mv (.t 7), none⟩, ⟨some 43, .mv (.t 5), none⟩, ⟨some 44, .mv (.t 6), none⟩, ⟨some 45, .slc 1 (.t 43) (some (.c (.x (.int .i64 (3))))) (some (.t 44)) none, none⟩, ⟨some 46, .mv (.t 8), none⟩, ⟨some 2, .mv (.t 42), none⟩, ⟨some 3, .mv (.t 45), none⟩, ⟨some 4, .mv (.t 46), none⟩])
  .ret))))))⟩
theorem c31 : compFn Tryd.prog Tryd.f31 = some i31 := by kernel_rfl
/-- bothy/defs.all -/
def i32 : IFn := ⟨15, [.tmp 2], (.seq (.reg [⟨some 2, .mv (.c (.x (.bool false))), none⟩])
  (.seq (.seq (.reg [⟨some 5, .mv (.t 0), none⟩, ⟨some 6, .len false (.t 5), none⟩, ⟨some 7, .mv (.c (.x (.int .i64 (0)))), none⟩])
  (.block 0
    (.loop
      (.seq (.reg [⟨some 8, .bin .lss (.t 7) (.t 6), none⟩])
      (.seq (.cond (.t 8)
        .skip
        (.exit 0))
      (.seq (.block 1
        (.seq (.reg [⟨some 9, .iad 1 (.t 5) (.t 7), none⟩, ⟨some 10, .ld 1 false (.t 9), none⟩, ⟨some 4, .mv (.t 10), none⟩])
        (.seq (.reg [⟨some 11, .mv (.t 4), none⟩, ⟨some 12, .call (.c (.fn 27 [])) [(.t 11)], none⟩, ⟨some 13, .un .not (.t 12), none⟩])
        (.cond (.t 13)
          (.seq (.reg [⟨some 2, .mv (.c (.x (.bool false))), none⟩])
          .ret)
          .skip))))
      (.reg [⟨some 14, .bin .add (.t 7) (.c (.x (.int .i64 (1)))), none⟩, ⟨some 7, .mv (.t 14), none⟩])))))))
  (.seq (.reg [⟨some 2, .mv (.c (.x (.bool true))), none⟩])
  .ret)))⟩
theorem c32 : compFn Tryd.prog Tryd.f32 = some i32 := by kernel_rfl
/-- bothy/defs.list -/
def i33 : IFn := ⟨12, [.tmp 4], (.seq (.reg [⟨some 4, .mv (.c (.x .nils)), none⟩])
  (.seq (.seq (.reg [⟨some 5, .mv (.t 1), none⟩, ⟨some 6, .len false (.t 5), none⟩, ⟨some 7, .bin .eql (.t 6) (.c (.x (.int .i64 (0)))), none⟩])
  (.cond (.t 7)
    (.seq (.reg [⟨some 4, .mv (.c (.x .nils)), none⟩])
    .ret)
    .skip))
  (.seq (.reg [⟨some 8, .mv (.t 0), none⟩, ⟨some 9, .mv (.t 1), none⟩, ⟨some 10, .call (.c (.fn 29 [])) [(.t 9), (.c (.x (.str [32, 36, 32])))], none⟩, ⟨some 11, .bsl 9 1 4 [(.t 8), (.c (.x (.str [40]))), (.t 10), (.c (.x (.str [41])))], none⟩, ⟨some 4, .mv (.t 11), none⟩])
  .ret)))⟩
theorem c33 : compFn Tryd.prog Tryd.f33 = some i33 := by kernel_rfl
/-- bothy/bothylaw43.list -/
def i34 : IFn := ⟨31, [.tmp 4], (.seq (.reg [⟨some 4, .mv (.c (.x (.str []))), none⟩])
  (.seq (.seq (.reg [⟨some 7, .mv (.t 1), none⟩, ⟨some 8, .len false (.t 7), none⟩, ⟨some 9, .bin .eql (.t 8) (.c (.x (.int .i64 (0)))), none⟩])
  (.cond (.t 9)
    (.seq (.reg [⟨some 4, .mv (.c (.x (.str []))), none⟩])
    .ret)
    .skip))
  (.seq (.reg [⟨some 10, .mv (.t 0), none⟩, ⟨some 11, .bin .add (.c (.x (.str [32]))) (.t 10), none⟩, ⟨some 12, .bin .add (.t 11) (.c (.x (.str [32, 40, 32]))), none⟩, ⟨some 5, .mv (.t 12), none⟩])
  (.seq (.seq (.reg [⟨some 6, .mv (.c (.x (.int .i64 (0)))), none⟩])
  (.block 0
    (.loop
      (.seq (.seq (.reg [⟨some 13, .mv (.t 6), none⟩, ⟨some 14, .mv (.t 1), none⟩, ⟨some 15, .len false (.t 14), none⟩, ⟨some 16, .bin .lss (.t 13) (.t 15), none⟩])
      (.cond (.t 16)
        .skip
        (.exit 0)))
      (.seq (.block 1
        (.seq (.seq (.reg [⟨some 19, .mv (.t 6), none⟩, ⟨some 20, .bin .gtr (.t 19) (.c (.x (.int .i64 (0)))), none⟩])
        (.cond (.t 20)
          (.reg [⟨some 21, .mv (.t 5), none⟩, ⟨some 22, .bin .add (.t 21) (.c (.x (.str [32, 36, 32]))), none⟩, ⟨some 5, .mv (.t 22), none⟩])
          .skip))
        (.reg [⟨some 23, .mv (.t 5), none⟩, ⟨some 24, .mv (.t 1), none⟩, ⟨some 25, .mv (.t 6), none⟩, ⟨some 26, .iad 1 (.t 24) (.t 25), none⟩, ⟨some 27, .ld 1 false (.t 26), none⟩, ⟨some 28, .bin .add (.t 23) (.t 27), none⟩, ⟨some 5, .mv (.t 28), none⟩])))
      (.reg [⟨some 17, .mv (.t 6), none⟩, ⟨some 18, .bin .add (.t 17) (.c (.x (.int .i64 (1)))), none⟩, ⟨some 6, .mv (.t 18), none⟩]))))))
  (.seq (.reg [⟨some 29, .mv (.t 5), none⟩, ⟨some 30, .bin .add (.t 29) (.c (.x (.str [32, 41]))), none⟩, ⟨some 4, .mv (.t 30), none⟩])
  .ret)))))⟩
theorem c34 : compFn Tryd.prog Tryd.f34 = some i34 := by kernel_rfl
/-- bothy/defs.take -/
def i35 : IFn := ⟨61, [.tmp 4, .tmp 5, .tmp 6], (.seq (.reg [⟨some 4, .mv (.c (.x .nils)), none⟩, ⟨some 5, .mv (.c (.x .nils)), none⟩, ⟨some 6, .mv (.c (.x (.bool false))), none⟩])
  (.seq (.seq (.reg [⟨some 8, .mv (.t 1), none⟩, ⟨some 9, .len false (.t 8), none⟩, ⟨some 10, .bin .eql (.t 9) (.c (.x (.int .i64 (0)))), none⟩, ⟨some 11, .mv (.t 10), none⟩, ⟨some 12, .mv (.t 1), (some (11, false))⟩, ⟨some 13, .iad 1 (.t 12) (.c (.x (.int .i64 (0)))), (some (11, false))⟩, ⟨some 14, .ld 1 false (.t 13), (some (11, false))⟩, ⟨some 15, .mv (.t 0), (some (11, false))⟩, ⟨some 16, .bin .neq (.t 14) (.t 15), (some (11, false))⟩, ⟨some 17, .pick (.t 11) (.c (.x (.bool true))) (.t 16), none⟩])
  (.cond (.t 17)
    (.seq (.reg [⟨some 18, .mv (.t 1), none⟩, ⟨some 4, .mv (.c (.x .nils)), none⟩, ⟨some 5, .mv (.t 18), none⟩, ⟨some 6, .mv (.c (.x (.bool true))), none⟩])
    .ret)
    .skip))
  (.seq (.seq (.reg [⟨some 19, .mv (.t 1), none⟩, ⟨some 20, .len false (.t 19), none⟩, ⟨some 21, .bin .lss (.t 20) (.c (.x (.int .i64 (4)))), none⟩, ⟨some 22, .mv (.t 21), none⟩, ⟨some 23, .mv (.t 1), (some (22, false))⟩, ⟨some 24, .iad 1 (.t 23) (.c (.x (.int .i64 (1)))), (some (22, false))⟩, ⟨some 25, .ld 1 false (.t 24), (some (22, false))⟩, ⟨some 26, .bin .neq (.t 25) (.c (.x (.str [40]))), (some (22, false))⟩, ⟨some 27, .pick (.t 22) (.c (.x (.bool true))) (.t 26), none⟩])
  (.cond (.t 27)
    (.seq (.reg [⟨some 4, .mv (.c (.x .nils)), none⟩, ⟨some 5, .mv (.c (.x .nils)), none⟩, ⟨some 6, .mv (.c (.x (.bool false))), none⟩])
    .ret)
    .skip))
  (.seq (.reg [⟨some 7, .mv (.c (.x .nils)), none⟩])
  (.seq (.reg [⟨some 28, .mv (.t 1), none⟩, ⟨some 29, .slc 1 (.t 28) (some (.c (.x (.int .i64 (2))))) none none, none⟩, ⟨some 1, .mv (.t 29), none⟩])
  (.block 0
    (.loop
      (.block 1
        (.seq (.seq (.reg [⟨some 30, .mv (.t 1), none⟩, ⟨some 31, .len false (.t 30), none⟩, ⟨some 32, .bin .lss (.t 31) (.c (.x (.int .i64 (2)))), none⟩, ⟨some 33, .mv (.t 32), none⟩, ⟨some 34, .mv (.t 1), (some (33, false))⟩, ⟨some 35, .iad 1 (.t 34) (.c (.x (.int .i64 (0)))), (some (33, false))⟩, ⟨some 36, .ld 1 false (.t 35), (some (33, false))⟩, ⟨some 37, .call (.c (.fn 27 [])) [(.t 36)], (some (33, false))⟩, ⟨some 38, .un .not (.t 37), (some (33, false))⟩, ⟨some 39, .pick (.t 33) (.c (.x (.bool true))) (.t 38), none⟩])
        (.cond (.t 39)
          (.seq (.reg [⟨some 4, .mv (.c (.x .nils)), none⟩, ⟨some 5, .mv (.c (.x .nils)), none⟩, ⟨some 6, .mv (.c (.x (.bool false))), none⟩])
          .ret)
          .skip))
        (.seq (.reg [⟨some 40, .mv (.t 7), none⟩, ⟨some 41, .mv (.t 1), none⟩, ⟨some 42, .iad 1 (.t 41) (.c (.x (.int .i64 (0)))), none⟩, ⟨some 43, .ld 1 false (.t 42), none⟩, ⟨some 44, .bsl 9 1 1 [(.t 43)], none⟩, ⟨some 45, .app 9 1 16 (.t 40) (.t 44), none⟩, ⟨some 7, .mv (.t 45), none⟩])
        (.seq (.reg [⟨some 46, .mv (.t 1), none⟩, ⟨some 47, .iad 1 (.t 46) (.c (.x (.int .i64 (1)))), none⟩, ⟨some 48, .ld 1 false (.t 47), none⟩])
        (.block 2
          (.seq (.reg [⟨some 50, .bin .eql (.t 48) (.c (.x (.str [41]))), none⟩, ⟨some 49, .mv (.t 50), none⟩])
          (.cond (.t 49)
            (.seq (.dreg 5 [] [⟨some 51, .mv (.t 7), none⟩, ⟨some 52, .mv (.t 1), none⟩, ⟨some 53, .slc 1 (.t 52) (some (.c (.x (.int .i64 (2))))) none none, none⟩, ⟨some 54, .mv (.t 7), none⟩, ⟨some 55, .len false (.t 54), none⟩, ⟨some 56, .bin .leq (.t 55) (.c (.x (.int .i64 (64)))), none⟩, ⟨some 4, .mv (.t 51), none⟩, ⟨some 5, .mv (.t 53), none⟩, ⟨some 6, .mv (.t 56), none⟩])
            .ret)
            (.seq (.reg [⟨some 58, .bin .eql (.t 48) (.c (.x (.str [36]))), none⟩, ⟨some 57, .mv (.t 58), none⟩])
            (.cond (.t 57)
              (.reg [⟨some 59, .mv (.t 1), none⟩, ⟨some 60, .slc 1 (.t 59) (some (.c (.x (.int .i64 (2))))) none none, none⟩, ⟨some 1, .mv (.t 60), none⟩])
              (.seq (.reg [⟨some 4, .mv (.c (.x .nils)), none⟩, ⟨some 5, .mv (.c (.x .nils)), none⟩, ⟨some 6, .mv (.c (.x (.bool false))), none⟩])
              .ret)))))))))))))))))⟩
theorem c35 : compFn Tryd.prog Tryd.f35 = some i35 := by kernel_rfl
/-- bothy/defs.quoted -/
def i41 : IFn := ⟨25, [.tmp 2, .tmp 3], (.seq (.reg [⟨some 2, .mv (.c (.x (.str []))), none⟩, ⟨some 3, .mv (.c (.x (.bool false))), none⟩])
  (.seq (.reg [⟨some 7, .mv (.t 0), none⟩, ⟨some 8, .call (.c (.fn 22 [])) [(.t 7), (.c (.x (.str [39])))], none⟩, ⟨some 6, .mv (.t 8), none⟩, ⟨some 9, .ext (.t 6) 0, none⟩, ⟨some 10, .ext (.t 6) 1, none⟩, ⟨some 0, .mv (.t 9), none⟩, ⟨some 4, .mv (.t 10), none⟩])
  (.seq (.reg [⟨some 12, .mv (.t 0), none⟩, ⟨some 13, .call (.c (.fn 46 [])) [(.t 12), (.c (.x (.str [39])))], none⟩, ⟨some 11, .mv (.t 13), none⟩, ⟨some 14, .ext (.t 11) 0, none⟩, ⟨some 15, .ext (.t 11) 1, none⟩, ⟨some 0, .mv (.t 14), none⟩, ⟨some 5, .mv (.t 15), none⟩])
  (.seq (.reg [⟨some 16, .mv (.t 0), none⟩, ⟨some 17, .mv (.t 4), none⟩, ⟨some 18, .mv (.t 17), none⟩, ⟨some 19, .mv (.t 5), (some (18, true))⟩, ⟨some 20, .pick (.t 18) (.t 19) (.c (.x (.bool false))), none⟩, ⟨some 21, .mv (.t 20), none⟩, ⟨some 22, .mv (.t 0), (some (21, true))⟩, ⟨some 23, .call (.c (.fn 27 [])) [(.t 22)], (some (21, true))⟩, ⟨some 24, .pick (.t 21) (.t 23) (.c (.x (.bool false))), none⟩, ⟨some 2, .mv (.t 16), none⟩, ⟨some 3, .mv (.t 24), none⟩])
  .ret))))⟩
theorem c41 : compFn Tryd.prog Tryd.f41 = some i41 := by kernel_rfl
def G : FuncId → Option IFn
  | 3 => some i3
  | 4 => some i4
  | 5 => some i5
  | 6 => some i6
  | 7 => some i7
  | 8 => some i8
  | 9 => some i9
  | 10 => some i10
  | 11 => some i11
  | 12 => some i12
  | 13 => some i13
  | 14 => some i14
  | 15 => some i15
  | 16 => some i16
  | 17 => some i17
  | 18 => some i18
  | 19 => some i19
  | 20 => some i20
  | 21 => some i21
  | 23 => some i23
  | 24 => some i24
  | 25 => some i25
  | 26 => some i26
  | 27 => some i27
  | 28 => some i28
  | 30 => some i30
  | 31 => some i31
  | 32 => some i32
  | 33 => some i33
  | 34 => some i34
  | 35 => some i35
  | 41 => some i41
  | _ => none
theorem G_ok : GOk Tryd.prog G := by
  intro f p h
  unfold G at h
  split at h
  · cases h; exact ⟨Tryd.f3, Tryd.func3, by decide, c3⟩
  · cases h; exact ⟨Tryd.f4, Tryd.func4, by decide, c4⟩
  · cases h; exact ⟨Tryd.f5, Tryd.func5, by decide, c5⟩
  · cases h; exact ⟨Tryd.f6, Tryd.func6, by decide, c6⟩
  · cases h; exact ⟨Tryd.f7, Tryd.func7, by decide, c7⟩
  · cases h; exact ⟨Tryd.f8, Tryd.func8, by decide, c8⟩
  · cases h; exact ⟨Tryd.f9, Tryd.func9, by decide, c9⟩
  · cases h; exact ⟨Tryd.f10, Tryd.func10, by decide, c10⟩
  · cases h; exact ⟨Tryd.f11, Tryd.func11, by decide, c11⟩
  · cases h; exact ⟨Tryd.f12, Tryd.func12, by decide, c12⟩
  · cases h; exact ⟨Tryd.f13, Tryd.func13, by decide, c13⟩
  · cases h; exact ⟨Tryd.f14, Tryd.func14, by decide, c14⟩
  · cases h; exact ⟨Tryd.f15, Tryd.func15, by decide, c15⟩
  · cases h; exact ⟨Tryd.f16, Tryd.func16, by decide, c16⟩
  · cases h; exact ⟨Tryd.f17, Tryd.func17, by decide, c17⟩
  · cases h; exact ⟨Tryd.f18, Tryd.func18, by decide, c18⟩
  · cases h; exact ⟨Tryd.f19, Tryd.func19, by decide, c19⟩
  · cases h; exact ⟨Tryd.f20, Tryd.func20, by decide, c20⟩
  · cases h; exact ⟨Tryd.f21, Tryd.func21, by decide, c21⟩
  · cases h; exact ⟨Tryd.f23, Tryd.func23, by decide, c23⟩
  · cases h; exact ⟨Tryd.f24, Tryd.func24, by decide, c24⟩
  · cases h; exact ⟨Tryd.f25, Tryd.func25, by decide, c25⟩
  · cases h; exact ⟨Tryd.f26, Tryd.func26, by decide, c26⟩
  · cases h; exact ⟨Tryd.f27, Tryd.func27, by decide, c27⟩
  · cases h; exact ⟨Tryd.f28, Tryd.func28, by decide, c28⟩
  · cases h; exact ⟨Tryd.f30, Tryd.func30, by decide, c30⟩
  · cases h; exact ⟨Tryd.f31, Tryd.func31, by decide, c31⟩
  · cases h; exact ⟨Tryd.f32, Tryd.func32, by decide, c32⟩
  · cases h; exact ⟨Tryd.f33, Tryd.func33, by decide, c33⟩
  · cases h; exact ⟨Tryd.f34, Tryd.func34, by decide, c34⟩
  · cases h; exact ⟨Tryd.f35, Tryd.func35, by decide, c35⟩
  · cases h; exact ⟨Tryd.f41, Tryd.func41, by decide, c41⟩
  · cases h
end Go.Proofs.YtobflnngfochiaaDoor
