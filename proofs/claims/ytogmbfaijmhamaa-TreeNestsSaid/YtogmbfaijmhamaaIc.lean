/- The code of functions, as the abstract evaluator reads it. Printed by gen_ic.py. -/
import Derived.Test.YtogmbfaijmhamaaProg
import Derived.Test.YtogmbfaijmhamaaAb28
namespace Go.Proofs.Ytogmbfaijmhamaa
open Go.RowKit Go.Bo Go.Ab
/-- bothy/bothylaw01.BerPuts -/
def i3 : IFn := ⟨46, [.tmp 4], (.seq (.reg [⟨some 4, .mv (.c (.x (.bool false))), none⟩])
  (.seq (.seq (.reg [⟨some 9, .mv (.t 1), none⟩, ⟨some 10, .len true (.t 9), none⟩, ⟨some 11, .bin .gtr (.t 10) (.c (.x (.int .i64 (300)))), none⟩, ⟨some 12, .mv (.t 11), none⟩, ⟨some 13, .mv (.t 1), (some (12, true))⟩, ⟨some 14, .len true (.t 13), (some (12, true))⟩, ⟨some 15, .bin .leq (.t 14) (.c (.x (.int .i64 (65533)))), (some (12, true))⟩, ⟨some 16, .pick (.t 12) (.t 15) (.c (.x (.bool false))), none⟩, ⟨some 17, .mv (.t 16), none⟩, ⟨some 18, .mv (.t 1), (some (17, false))⟩, ⟨some 19, .len true (.t 18), (some (17, false))⟩, ⟨some 20, .bin .gtr (.t 19) (.c (.x (.int .i64 (70000)))), (some (17, false))⟩, ⟨some 21, .pick (.t 17) (.c (.x (.bool true))) (.t 20), none⟩])
  (.cond (.t 21)
    (.seq (.reg [⟨some 22, .call (.c (.fn 13 [])) [], none⟩, ⟨some 4, .mv (.t 22), none⟩])
    .ret)
    .skip))
  (.seq (.reg [⟨some 24, .mv (.t 0), none⟩, ⟨some 25, .mv (.t 1), none⟩, ⟨some 26, .call (.c (.fn 14 [])) [(.t 24), (.t 25)], none⟩, ⟨some 23, .mv (.t 26), none⟩, ⟨some 27, .ext (.t 23) 0, none⟩, ⟨some 28, .ext (.t 23) 1, none⟩, ⟨some 5, .mv (.t 27), none⟩, ⟨some 6, .mv (.t 28), none⟩])
  (.seq (.reg [⟨some 30, .mv (.t 0), none⟩, ⟨some 31, .mv (.t 1), none⟩, ⟨some 32, .call (.c (.fn 15 [])) [(.t 30), (.t 31)], none⟩, ⟨some 29, .mv (.t 32), none⟩, ⟨some 33, .ext (.t 29) 0, none⟩, ⟨some 34, .ext (.t 29) 1, none⟩, ⟨some 7, .mv (.t 33), none⟩, ⟨some 8, .mv (.t 34), none⟩])
  (.seq (.reg [⟨some 35, .mv (.t 5), none⟩, ⟨some 36, .mv (.t 7), none⟩, ⟨some 37, .bin .eql (.t 35) (.t 36), none⟩, ⟨some 38, .mv (.t 37), none⟩, ⟨some 39, .mv (.t 6), (some (38, true))⟩, ⟨some 40, .mv (.t 8), (some (38, true))⟩, ⟨some 41, .bin .eql (.t 39) (.t 40), (some (38, true))⟩, ⟨some 42, .pick (.t 38) (.t 41) (.c (.x (.bool false))), none⟩, ⟨some 43, .mv (.t 42), none⟩, ⟨some 44, .call (.c (.fn 13 [])) [], (some (43, true))⟩, ⟨some 45, .pick (.t 43) (.t 44) (.c (.x (.bool false))), none⟩, ⟨some 4, .mv (.t 45), none⟩])
  .ret)))))⟩
theorem c3 : compFn Try.prog Try.f3 = some i3 := by kernel_rfl
/-- bothy/bothylaw01.BerReads -/
def i4 : IFn := ⟨107, [.tmp 2], (.seq (.reg [⟨some 2, .mv (.c (.x (.bool false))), none⟩])
  (.seq (.seq (.reg [⟨some 21, .mv (.t 0), none⟩, ⟨some 22, .len true (.t 21), none⟩, ⟨some 23, .bin .gtr (.t 22) (.c (.x (.int .i64 (3000)))), none⟩])
  (.cond (.t 23)
    (.seq (.reg [⟨some 24, .call (.c (.fn 13 [])) [], none⟩, ⟨some 2, .mv (.t 24), none⟩])
    .ret)
    .skip))
  (.seq (.reg [⟨some 26, .mv (.t 0), none⟩, ⟨some 27, .call (.c (.fn 16 [])) [(.t 26)], none⟩, ⟨some 25, .mv (.t 27), none⟩, ⟨some 28, .ext (.t 25) 0, none⟩, ⟨some 29, .ext (.t 25) 1, none⟩, ⟨some 30, .ext (.t 25) 2, none⟩, ⟨some 31, .ext (.t 25) 3, none⟩, ⟨some 3, .mv (.t 28), none⟩, ⟨some 4, .mv (.t 29), none⟩, ⟨some 5, .mv (.t 30), none⟩, ⟨some 6, .mv (.t 31), none⟩])
  (.seq (.reg [⟨some 33, .mv (.t 0), none⟩, ⟨some 34, .call (.c (.fn 17 [])) [(.t 33)], none⟩, ⟨some 32, .mv (.t 34), none⟩, ⟨some 35, .ext (.t 32) 0, none⟩, ⟨some 36, .ext (.t 32) 1, none⟩, ⟨some 37, .ext (.t 32) 2, none⟩, ⟨some 38, .ext (.t 32) 3, none⟩, ⟨some 7, .mv (.t 35), none⟩, ⟨some 8, .mv (.t 36), none⟩, ⟨some 9, .mv (.t 37), none⟩, ⟨some 10, .mv (.t 38), none⟩])
  (.seq (.reg [⟨some 40, .mv (.t 0), none⟩, ⟨some 41, .call (.c (.fn 18 [])) [(.t 40)], none⟩, ⟨some 39, .mv (.t 41), none⟩, ⟨some 42, .ext (.t 39) 0, none⟩, ⟨some 43, .ext (.t 39) 1, none⟩, ⟨some 44, .ext (.t 39) 2, none⟩, ⟨some 11, .box (.c (.agg [.x (.int .i64 (0)), .x (.str [])])), none⟩, ⟨none, .sto 2 (.t 11) (.t 42), none⟩, ⟨some 12, .mv (.t 43), none⟩, ⟨some 13, .mv (.t 44), none⟩])
  (.seq (.reg [⟨some 46, .mv (.t 0), none⟩, ⟨some 47, .call (.c (.fn 19 [])) [(.t 46)], none⟩, ⟨some 45, .mv (.t 47), none⟩, ⟨some 48, .ext (.t 45) 0, none⟩, ⟨some 49, .ext (.t 45) 1, none⟩, ⟨some 50, .ext (.t 45) 2, none⟩, ⟨some 14, .box (.c (.agg [.x (.int .i64 (0)), .x (.str [])])), none⟩, ⟨none, .sto 2 (.t 14) (.t 48), none⟩, ⟨some 15, .mv (.t 49), none⟩, ⟨some 16, .mv (.t 50), none⟩])
  (.seq (.reg [⟨some 52, .mv (.t 0), none⟩, ⟨some 53, .call (.c (.fn 20 [])) [(.t 52)], none⟩, ⟨some 51, .mv (.t 53), none⟩, ⟨some 54, .ext (.t 51) 0, none⟩, ⟨some 55, .ext (.t 51) 1, none⟩, ⟨some 17, .mv (.t 54), none⟩, ⟨some 18, .mv (.t 55), none⟩])
  (.seq (.reg [⟨some 57, .mv (.t 0), none⟩, ⟨some 58, .call (.c (.fn 21 [])) [(.t 57)], none⟩, ⟨some 56, .mv (.t 58), none⟩, ⟨some 59, .ext (.t 56) 0, none⟩, ⟨some 60, .ext (.t 56) 1, none⟩, ⟨some 19, .mv (.t 59), none⟩, ⟨some 20, .mv (.t 60), none⟩])
  (.seq (.reg [⟨some 61, .mv (.t 3), none⟩, ⟨some 62, .mv (.t 7), none⟩, ⟨some 63, .bin .eql (.t 61) (.t 62), none⟩, ⟨some 64, .mv (.t 63), none⟩, ⟨some 65, .mv (.t 4), (some (64, true))⟩, ⟨some 66, .mv (.t 8), (some (64, true))⟩, ⟨some 67, .bin .eql (.t 65) (.t 66), (some (64, true))⟩, ⟨some 68, .pick (.t 64) (.t 67) (.c (.x (.bool false))), none⟩, ⟨some 69, .mv (.t 68), none⟩, ⟨some 70, .mv (.t 5), (some (69, true))⟩, ⟨some 71, .mv (.t 9), (some (69, true))⟩, ⟨some 72, .bin .eql (.t 70) (.t 71), (some (69, true))⟩, ⟨some 73, .pick (.t 69) (.t 72) (.c (.x (.bool false))), none⟩, ⟨some 74, .mv (.t 73), none⟩, ⟨some 75, .mv (.t 6), (some (74, true))⟩, ⟨some 76, .mv (.t 10), (some (74, true))⟩, ⟨some 77, .bin .eql (.t 75) (.t 76), (some (74, true))⟩, ⟨some 78, .pick (.t 74) (.t 77) (.c (.x (.bool false))), none⟩, ⟨some 79, .mv (.t 78), none⟩, ⟨some 80, .ld 2 true (.t 11), (some (79, true))⟩, ⟨some 81, .ld 2 true (.t 14), (some (79, true))⟩, ⟨some 82, .eq (.st [(0, .int .i64), (1, .str)]) false (.t 80) (.t 81), (some (79, true))⟩, ⟨some 83, .pick (.t 79) (.t 82) (.c (.x (.bool false))), none⟩, ⟨some 84, .mv (.t 83), none⟩, ⟨some 85, .mv (.t 12), (some (84, true))⟩, ⟨some 86, .mv (.t 15), (some (84, true))⟩, ⟨some 87, .bin .eql (.t 85) (.t 86), (some (84, true))⟩, ⟨some 88, .pick (.t 84) (.t 87) (.c (.x (.bool false))), none⟩, ⟨some 89, .mv (.t 88), none⟩, ⟨some 90, .mv (.t 13), (some (89, true))⟩, ⟨some 91, .mv (.t 16), (some (89, true))⟩, ⟨some 92, .bin .eql (.t 90) (.t 91), (some (89, true))⟩, ⟨some 93, .pick (.t 89) (.t 92) (.c (.x (.bool false))), none⟩, ⟨some 94, .mv (.t 93), none⟩, ⟨some 95, .mv (.t 17), (some (94, true))⟩, ⟨some 96, .mv (.t 19), (some (94, true))⟩, ⟨some 97, .call (.c (.fn 22 [])) [(.t 95), (.t 96)], (some (94, true))⟩, ⟨some 98, .pick (.t 94) (.t 97) (.c (.x (.bool false))), none⟩, ⟨some 99, .mv (.t 98), none⟩, ⟨some 100, .mv (.t 18), (some (99, true))⟩, ⟨some 101, .mv (.t 20), (some (99, true))⟩, ⟨some 102, .bin .eql (.t 100) (.t 101), (some (99, true))⟩, ⟨some 103, .pick (.t 99) (.t 102) (.c (.x (.bool false))), none⟩, ⟨some 104, .mv (.t 103), none⟩, ⟨some 105, .call (.c (.fn 13 [])) [], (some (104, true))⟩, ⟨some 106, .pick (.t 104) (.t 105) (.c (.x (.bool false))), none⟩, ⟨some 2, .mv (.t 106), none⟩])
  .ret)))))))))⟩
theorem c4 : compFn Try.prog Try.f4 = some i4 := by kernel_rfl
/-- bothy/bothylaw01.BerBack -/
def i5 : IFn := ⟨96, [.tmp 6], (.seq (.reg [⟨some 6, .mv (.c (.x (.bool false))), none⟩])
  (.seq (.seq (.reg [⟨some 17, .mv (.t 1), none⟩, ⟨some 18, .len true (.t 17), none⟩, ⟨some 19, .bin .gtr (.t 18) (.c (.x (.int .i64 (600)))), none⟩, ⟨some 20, .mv (.t 19), none⟩, ⟨some 21, .mv (.t 2), (some (20, false))⟩, ⟨some 22, .len true (.t 21), (some (20, false))⟩, ⟨some 23, .bin .gtr (.t 22) (.c (.x (.int .i64 (600)))), (some (20, false))⟩, ⟨some 24, .pick (.t 20) (.c (.x (.bool true))) (.t 23), none⟩])
  (.cond (.t 24)
    (.seq (.reg [⟨some 25, .call (.c (.fn 13 [])) [], none⟩, ⟨some 6, .mv (.t 25), none⟩])
    .ret)
    .skip))
  (.seq (.reg [⟨some 27, .mv (.t 0), none⟩, ⟨some 28, .cvi .i64 (.t 27), none⟩, ⟨some 29, .mv (.t 1), none⟩, ⟨some 30, .call (.c (.fn 14 [])) [(.t 28), (.t 29)], none⟩, ⟨some 26, .mv (.t 30), none⟩, ⟨some 31, .ext (.t 26) 0, none⟩, ⟨some 32, .ext (.t 26) 1, none⟩, ⟨some 7, .mv (.t 31), none⟩, ⟨some 8, .mv (.t 32), none⟩])
  (.seq (.reg [⟨some 34, .mv (.t 7), none⟩, ⟨some 35, .mv (.t 2), none⟩, ⟨some 36, .bin .add (.t 34) (.t 35), none⟩, ⟨some 37, .call (.c (.fn 18 [])) [(.t 36)], none⟩, ⟨some 33, .mv (.t 37), none⟩, ⟨some 38, .ext (.t 33) 0, none⟩, ⟨some 39, .ext (.t 33) 1, none⟩, ⟨some 40, .ext (.t 33) 2, none⟩, ⟨some 9, .box (.c (.agg [.x (.int .i64 (0)), .x (.str [])])), none⟩, ⟨none, .sto 2 (.t 9) (.t 38), none⟩, ⟨some 10, .mv (.t 39), none⟩, ⟨some 11, .mv (.t 40), none⟩])
  (.seq (.reg [⟨some 42, .mv (.t 2), none⟩, ⟨some 43, .call (.c (.fn 18 [])) [(.t 42)], none⟩, ⟨some 41, .mv (.t 43), none⟩, ⟨some 44, .ext (.t 41) 0, none⟩, ⟨some 45, .ext (.t 41) 1, none⟩, ⟨some 46, .ext (.t 41) 2, none⟩, ⟨some 12, .box (.c (.agg [.x (.int .i64 (0)), .x (.str [])])), none⟩, ⟨none, .sto 2 (.t 12) (.t 44), none⟩, ⟨some 13, .mv (.t 45), none⟩, ⟨some 14, .mv (.t 46), none⟩])
  (.seq (.reg [⟨some 48, .fad 0 (.t 12), none⟩, ⟨some 49, .ld 1 false (.t 48), none⟩, ⟨some 50, .fad 1 (.t 12), none⟩, ⟨some 51, .ld 1 false (.t 50), none⟩, ⟨some 52, .call (.c (.fn 14 [])) [(.t 49), (.t 51)], none⟩, ⟨some 47, .mv (.t 52), none⟩, ⟨some 53, .ext (.t 47) 0, none⟩, ⟨some 54, .ext (.t 47) 1, none⟩, ⟨some 15, .mv (.t 53), none⟩, ⟨some 16, .mv (.t 54), none⟩])
  (.seq (.seq (.reg [⟨some 55, .mv (.t 8), none⟩, ⟨some 56, .bin .eql (.t 55) (.c (.x (.int .i64 (0)))), none⟩, ⟨some 57, .mv (.t 56), none⟩, ⟨some 58, .mv (.t 11), (some (57, true))⟩, ⟨some 59, .bin .neq (.t 58) (.c (.x (.int .i64 (0)))), (some (57, true))⟩, ⟨some 60, .mv (.t 59), (some (57, true))⟩, ⟨some 61, .fad 0 (.t 9), (some (60, false))⟩, ⟨some 62, .ld 1 false (.t 61), (some (60, false))⟩, ⟨some 63, .mv (.t 0), (some (60, false))⟩, ⟨some 64, .cvi .i64 (.t 63), (some (60, false))⟩, ⟨some 65, .bin .neq (.t 62) (.t 64), (some (60, false))⟩, ⟨some 66, .pick (.t 60) (.c (.x (.bool true))) (.t 65), (some (57, true))⟩, ⟨some 67, .mv (.t 66), (some (57, true))⟩, ⟨some 68, .fad 1 (.t 9), (some (67, false))⟩, ⟨some 69, .ld 1 false (.t 68), (some (67, false))⟩, ⟨some 70, .mv (.t 1), (some (67, false))⟩, ⟨some 71, .bin .neq (.t 69) (.t 70), (some (67, false))⟩, ⟨some 72, .pick (.t 67) (.c (.x (.bool true))) (.t 71), (some (57, true))⟩, ⟨some 73, .mv (.t 72), (some (57, true))⟩, ⟨some 74, .mv (.t 10), (some (73, false))⟩, ⟨some 75, .mv (.t 7), (some (73, false))⟩, ⟨some 76, .len true (.t 75), (some (73, false))⟩, ⟨some 77, .bin .neq (.t 74) (.t 76), (some (73, false))⟩, ⟨some 78, .pick (.t 73) (.c (.x (.bool true))) (.t 77), (some (57, true))⟩, ⟨some 79, .pick (.t 57) (.t 78) (.c (.x (.bool false))), none⟩])
  (.cond (.t 79)
    (.seq (.reg [⟨some 6, .mv (.c (.x (.bool false))), none⟩])
    .ret)
    .skip))
  (.seq (.reg [⟨some 80, .mv (.t 14), none⟩, ⟨some 81, .bin .neq (.t 80) (.c (.x (.int .i64 (0)))), none⟩, ⟨some 82, .mv (.t 81), none⟩, ⟨some 83, .mv (.t 16), (some (82, false))⟩, ⟨some 84, .bin .eql (.t 83) (.c (.x (.int .i64 (0)))), (some (82, false))⟩, ⟨some 85, .mv (.t 84), (some (82, false))⟩, ⟨some 86, .mv (.t 15), (some (85, true))⟩, ⟨some 87, .mv (.t 2), (some (85, true))⟩, ⟨some 88, .mv (.t 13), (some (85, true))⟩, ⟨some 89, .slc 0 (.t 87) none (some (.t 88)) none, (some (85, true))⟩, ⟨some 90, .bin .eql (.t 86) (.t 89), (some (85, true))⟩, ⟨some 91, .pick (.t 85) (.t 90) (.c (.x (.bool false))), (some (82, false))⟩, ⟨some 92, .pick (.t 82) (.c (.x (.bool true))) (.t 91), none⟩, ⟨some 93, .mv (.t 92), none⟩, ⟨some 94, .call (.c (.fn 13 [])) [], (some (93, true))⟩, ⟨some 95, .pick (.t 93) (.t 94) (.c (.x (.bool false))), none⟩, ⟨some 6, .mv (.t 95), none⟩])
  .ret))))))))⟩
theorem c5 : compFn Try.prog Try.f5 = some i5 := by kernel_rfl
/-- bothy/bothylaw01.BerLength -/
def i6 : IFn := ⟨77, [.tmp 6], (.seq (.reg [⟨some 6, .mv (.c (.x (.bool false))), none⟩])
  (.seq (.seq (.reg [⟨some 11, .mv (.t 1), none⟩, ⟨some 12, .len true (.t 11), none⟩, ⟨some 13, .bin .gtr (.t 12) (.c (.x (.int .i64 (3000)))), none⟩, ⟨some 14, .mv (.t 13), none⟩, ⟨some 15, .mv (.t 2), (some (14, false))⟩, ⟨some 16, .len true (.t 15), (some (14, false))⟩, ⟨some 17, .bin .gtr (.t 16) (.c (.x (.int .i64 (3000)))), (some (14, false))⟩, ⟨some 18, .pick (.t 14) (.c (.x (.bool true))) (.t 17), none⟩])
  (.cond (.t 18)
    (.seq (.reg [⟨some 19, .call (.c (.fn 13 [])) [], none⟩, ⟨some 6, .mv (.t 19), none⟩])
    .ret)
    .skip))
  (.seq (.reg [⟨some 21, .mv (.t 0), none⟩, ⟨some 22, .cvi .i64 (.t 21), none⟩, ⟨some 23, .mv (.t 1), none⟩, ⟨some 24, .call (.c (.fn 14 [])) [(.t 22), (.t 23)], none⟩, ⟨some 20, .mv (.t 24), none⟩, ⟨some 25, .ext (.t 20) 0, none⟩, ⟨some 26, .ext (.t 20) 1, none⟩, ⟨some 7, .mv (.t 25), none⟩, ⟨some 8, .mv (.t 26), none⟩])
  (.seq (.reg [⟨some 28, .mv (.t 0), none⟩, ⟨some 29, .cvi .i64 (.t 28), none⟩, ⟨some 30, .mv (.t 2), none⟩, ⟨some 31, .call (.c (.fn 14 [])) [(.t 29), (.t 30)], none⟩, ⟨some 27, .mv (.t 31), none⟩, ⟨some 32, .ext (.t 27) 0, none⟩, ⟨some 33, .ext (.t 27) 1, none⟩, ⟨some 9, .mv (.t 32), none⟩, ⟨some 10, .mv (.t 33), none⟩])
  (.seq (.seq (.reg [⟨some 34, .mv (.t 8), none⟩, ⟨some 35, .bin .neq (.t 34) (.c (.x (.int .i64 (0)))), none⟩, ⟨some 36, .mv (.t 35), none⟩, ⟨some 37, .mv (.t 10), (some (36, false))⟩, ⟨some 38, .bin .neq (.t 37) (.c (.x (.int .i64 (0)))), (some (36, false))⟩, ⟨some 39, .pick (.t 36) (.c (.x (.bool true))) (.t 38), none⟩])
  (.cond (.t 39)
    (.seq (.reg [⟨some 40, .mv (.t 8), none⟩, ⟨some 41, .mv (.t 10), none⟩, ⟨some 42, .bin .eql (.t 40) (.t 41), none⟩, ⟨some 43, .mv (.t 42), none⟩, ⟨some 44, .call (.c (.fn 13 [])) [], (some (43, true))⟩, ⟨some 45, .pick (.t 43) (.t 44) (.c (.x (.bool false))), none⟩, ⟨some 6, .mv (.t 45), none⟩])
    .ret)
    .skip))
  (.seq (.reg [⟨some 46, .mv (.t 7), none⟩, ⟨some 47, .len true (.t 46), none⟩, ⟨some 48, .mv (.t 1), none⟩, ⟨some 49, .len true (.t 48), none⟩, ⟨some 50, .bin .add (.t 49) (.c (.x (.int .i64 (2)))), none⟩, ⟨some 51, .bin .geq (.t 47) (.t 50), none⟩, ⟨some 52, .mv (.t 51), none⟩, ⟨some 53, .mv (.t 7), (some (52, true))⟩, ⟨some 54, .len true (.t 53), (some (52, true))⟩, ⟨some 55, .mv (.t 1), (some (52, true))⟩, ⟨some 56, .len true (.t 55), (some (52, true))⟩, ⟨some 57, .bin .add (.t 56) (.c (.x (.int .i64 (4)))), (some (52, true))⟩, ⟨some 58, .bin .leq (.t 54) (.t 57), (some (52, true))⟩, ⟨some 59, .pick (.t 52) (.t 58) (.c (.x (.bool false))), none⟩, ⟨some 60, .mv (.t 59), none⟩, ⟨some 61, .mv (.t 1), (some (60, true))⟩, ⟨some 62, .len true (.t 61), (some (60, true))⟩, ⟨some 63, .mv (.t 2), (some (60, true))⟩, ⟨some 64, .len true (.t 63), (some (60, true))⟩, ⟨some 65, .bin .gtr (.t 62) (.t 64), (some (60, true))⟩, ⟨some 66, .mv (.t 65), (some (60, true))⟩, ⟨some 67, .mv (.t 7), (some (66, false))⟩, ⟨some 68, .len true (.t 67), (some (66, false))⟩, ⟨some 69, .mv (.t 9), (some (66, false))⟩, ⟨some 70, .len true (.t 69), (some (66, false))⟩, ⟨some 71, .bin .leq (.t 68) (.t 70), (some (66, false))⟩, ⟨some 72, .pick (.t 66) (.c (.x (.bool true))) (.t 71), (some (60, true))⟩, ⟨some 73, .pick (.t 60) (.t 72) (.c (.x (.bool false))), none⟩, ⟨some 74, .mv (.t 73), none⟩, ⟨some 75, .call (.c (.fn 13 [])) [], (some (74, true))⟩, ⟨some 76, .pick (.t 74) (.t 75) (.c (.x (.bool false))), none⟩, ⟨some 6, .mv (.t 76), none⟩])
  .ret))))))⟩
theorem c6 : compFn Try.prog Try.f6 = some i6 := by kernel_rfl
/-- bothy/bothylaw04.FramePlays -/
def i7 : IFn := ⟨115, [.tmp 4], (.seq (.reg [⟨some 4, .mv (.c (.x (.bool false))), none⟩])
  (.seq (.seq (.reg [⟨some 15, .mv (.t 1), none⟩, ⟨some 16, .len false (.t 15), none⟩, ⟨some 17, .bin .gtr (.t 16) (.c (.x (.int .i64 (30)))), none⟩])
  (.cond (.t 17)
    (.seq (.reg [⟨some 18, .call (.c (.fn 23 [])) [], none⟩, ⟨some 4, .mv (.t 18), none⟩])
    .ret)
    .skip))
  (.seq (.reg [⟨some 20, .mv (.t 0), none⟩, ⟨some 21, .call (.c (.fn 24 [])) [(.t 20)], none⟩, ⟨some 19, .mv (.t 21), none⟩, ⟨some 22, .ext (.t 19) 0, none⟩, ⟨some 23, .ext (.t 19) 1, none⟩, ⟨some 5, .mv (.t 22), none⟩, ⟨some 6, .mv (.t 23), none⟩])
  (.seq (.seq (.reg [⟨some 24, .mv (.t 0), none⟩, ⟨some 25, .bin .lss (.t 24) (.c (.x (.int .i64 (1)))), none⟩, ⟨some 26, .mv (.t 25), none⟩, ⟨some 27, .mv (.t 0), (some (26, false))⟩, ⟨some 28, .bin .gtr (.t 27) (.c (.x (.int .i64 (65536)))), (some (26, false))⟩, ⟨some 29, .pick (.t 26) (.c (.x (.bool true))) (.t 28), none⟩])
  (.cond (.t 29)
    (.seq (.reg [⟨some 30, .mv (.t 5), none⟩, ⟨some 31, .eq .ptr false (.t 30) (.c (.x .nilp)), none⟩, ⟨some 32, .mv (.t 31), none⟩, ⟨some 33, .mv (.t 6), (some (32, true))⟩, ⟨some 34, .bin .eql (.t 33) (.c (.x (.int .i64 (1)))), (some (32, true))⟩, ⟨some 35, .pick (.t 32) (.t 34) (.c (.x (.bool false))), none⟩, ⟨some 36, .mv (.t 35), none⟩, ⟨some 37, .call (.c (.fn 23 [])) [], (some (36, true))⟩, ⟨some 38, .pick (.t 36) (.t 37) (.c (.x (.bool false))), none⟩, ⟨some 4, .mv (.t 38), none⟩])
    .ret)
    .skip))
  (.seq (.seq (.reg [⟨some 39, .mv (.t 5), none⟩, ⟨some 40, .eq .ptr false (.t 39) (.c (.x .nilp)), none⟩, ⟨some 41, .mv (.t 40), none⟩, ⟨some 42, .mv (.t 6), (some (41, false))⟩, ⟨some 43, .bin .neq (.t 42) (.c (.x (.int .i64 (0)))), (some (41, false))⟩, ⟨some 44, .pick (.t 41) (.c (.x (.bool true))) (.t 43), none⟩])
  (.cond (.t 44)
    (.seq (.reg [⟨some 4, .mv (.c (.x (.bool false))), none⟩])
    .ret)
    .skip))
  (.seq (.reg [⟨some 45, .mv (.t 0), none⟩, ⟨some 46, .build [.x (.int .i64 (0)), .x (.str []), .x (.int .i64 (0))] [(0, 1, (.t 45))], none⟩, ⟨some 7, .box (.c (.agg [.x (.int .i64 (0)), .x (.str []), .x (.int .i64 (0))])), none⟩, ⟨none, .sto 3 (.t 7) (.t 46), none⟩])
  (.seq (.seq (.reg [⟨some 8, .mv (.c (.x (.int .i64 (0)))), none⟩])
  (.block 0
    (.loop
      (.seq (.seq (.reg [⟨some 47, .mv (.t 8), none⟩, ⟨some 48, .mv (.t 1), none⟩, ⟨some 49, .len false (.t 48), none⟩, ⟨some 50, .bin .lss (.t 47) (.t 49), none⟩])
      (.cond (.t 50)
        .skip
        (.exit 0)))
      (.seq (.block 1
        (.seq (.seq (.reg [⟨some 53, .mv (.t 1), none⟩, ⟨some 54, .mv (.t 8), none⟩, ⟨some 55, .iad 1 (.t 53) (.t 54), none⟩, ⟨some 56, .ld 1 false (.t 55), none⟩, ⟨some 57, .len true (.t 56), none⟩, ⟨some 58, .bin .gtr (.t 57) (.c (.x (.int .i64 (300)))), none⟩])
        (.cond (.t 58)
          (.exit 1)
          .skip))
        (.seq (.reg [⟨some 59, .mv (.t 5), none⟩, ⟨some 60, .mv (.t 1), none⟩, ⟨some 61, .mv (.t 8), none⟩, ⟨some 62, .iad 1 (.t 60) (.t 61), none⟩, ⟨some 63, .ld 1 false (.t 62), none⟩, ⟨some 64, .call (.c (.fn 25 [])) [(.t 59), (.t 63)], none⟩])
        (.seq (.dreg 5 [] [⟨some 65, .ld 3 true (.t 7), none⟩, ⟨some 66, .mv (.t 1), none⟩, ⟨some 67, .mv (.t 8), none⟩, ⟨some 68, .iad 1 (.t 66) (.t 67), none⟩, ⟨some 69, .ld 1 false (.t 68), none⟩, ⟨some 70, .call (.c (.fn 26 [])) [(.t 65), (.t 69)], none⟩, ⟨none, .sto 3 (.t 7) (.t 70), none⟩])
        (.seq (.seq (.reg [⟨some 9, .mv (.c (.x (.int .i64 (0)))), none⟩])
        (.block 2
          (.loop
            (.seq (.seq (.reg [⟨some 71, .mv (.t 9), none⟩, ⟨some 72, .mv (.t 1), none⟩, ⟨some 73, .mv (.t 8), none⟩, ⟨some 74, .iad 1 (.t 72) (.t 73), none⟩, ⟨some 75, .ld 1 false (.t 74), none⟩, ⟨some 76, .len true (.t 75), none⟩, ⟨some 77, .bin .rem (.t 76) (.c (.x (.int .i64 (3)))), none⟩, ⟨some 78, .bin .lss (.t 71) (.t 77), none⟩])
            (.cond (.t 78)
              .skip
              (.exit 2)))
            (.seq (.block 3
              (.seq (.reg [⟨some 82, .mv (.t 5), none⟩, ⟨some 83, .call (.c (.fn 27 [])) [(.t 82)], none⟩, ⟨some 81, .mv (.t 83), none⟩, ⟨some 84, .ext (.t 81) 0, none⟩, ⟨some 85, .ext (.t 81) 1, none⟩, ⟨some 10, .mv (.t 84), none⟩, ⟨some 11, .mv (.t 85), none⟩])
              (.seq (.reg [⟨some 87, .ld 3 true (.t 7), none⟩, ⟨some 88, .call (.c (.fn 28 [])) [(.t 87)], none⟩, ⟨some 86, .mv (.t 88), none⟩, ⟨some 89, .ext (.t 86) 0, none⟩, ⟨some 90, .ext (.t 86) 1, none⟩, ⟨some 91, .ext (.t 86) 2, none⟩, ⟨some 12, .box (.c (.agg [.x (.int .i64 (0)), .x (.str []), .x (.int .i64 (0))])), none⟩, ⟨none, .sto 3 (.t 12) (.t 89), none⟩, ⟨some 13, .mv (.t 90), none⟩, ⟨some 14, .mv (.t 91), none⟩])
              (.seq (.reg [⟨some 92, .ld 3 true (.t 12), none⟩, ⟨none, .sto 3 (.t 7) (.t 92), none⟩])
              (.seq (.reg [⟨some 93, .mv (.t 10), none⟩, ⟨some 94, .mv (.t 13), none⟩, ⟨some 95, .bin .neq (.t 93) (.t 94), none⟩, ⟨some 96, .mv (.t 95), none⟩, ⟨some 97, .mv (.t 11), (some (96, false))⟩, ⟨some 98, .mv (.t 14), (some (96, false))⟩, ⟨some 99, .eq .bool true (.t 97) (.t 98), (some (96, false))⟩, ⟨some 100, .pick (.t 96) (.c (.x (.bool true))) (.t 99), none⟩])
              (.cond (.t 100)
                (.seq (.reg [⟨some 4, .mv (.c (.x (.bool false))), none⟩])
                .ret)
                .skip))))))
            (.reg [⟨some 79, .mv (.t 9), none⟩, ⟨some 80, .bin .add (.t 79) (.c (.x (.int .i64 (1)))), none⟩, ⟨some 9, .mv (.t 80), none⟩]))))))
        (.seq (.dreg 10 [] [⟨some 101, .mv (.t 5), none⟩, ⟨some 102, .call (.c (.fn 29 [])) [(.t 101)], none⟩, ⟨some 103, .fad 2 (.t 7), none⟩, ⟨some 104, .ld 1 false (.t 103), none⟩, ⟨some 105, .bin .neq (.t 102) (.t 104), none⟩, ⟨some 106, .mv (.t 105), none⟩, ⟨some 107, .mv (.t 5), (some (106, false))⟩, ⟨some 108, .call (.c (.fn 30 [])) [(.t 107)], (some (106, false))⟩, ⟨some 109, .fad 1 (.t 7), (some (106, false))⟩, ⟨some 110, .ld 1 false (.t 109), (some (106, false))⟩, ⟨some 111, .len true (.t 110), (some (106, false))⟩, ⟨some 112, .bin .neq (.t 108) (.t 111), (some (106, false))⟩, ⟨some 113, .pick (.t 106) (.c (.x (.bool true))) (.t 112), none⟩])
        (.cond (.t 113)
          (.seq (.reg [⟨some 4, .mv (.c (.x (.bool false))), none⟩])
          .ret)
          .skip)))))))
      (.reg [⟨some 51, .mv (.t 8), none⟩, ⟨some 52, .bin .add (.t 51) (.c (.x (.int .i64 (1)))), none⟩, ⟨some 8, .mv (.t 52), none⟩]))))))
  (.seq (.reg [⟨some 114, .call (.c (.fn 23 [])) [], none⟩, ⟨some 4, .mv (.t 114), none⟩])
  .ret))))))))⟩
theorem c7 : compFn Try.prog Try.f7 = some i7 := by kernel_rfl
/-- bothy/bothylaw04.FramePieces -/
def i8 : IFn := ⟨106, [.tmp 4], (.seq (.reg [⟨some 4, .mv (.c (.x (.bool false))), none⟩])
  (.seq (.seq (.reg [⟨some 15, .mv (.t 0), none⟩, ⟨some 16, .len true (.t 15), none⟩, ⟨some 17, .bin .gtr (.t 16) (.c (.x (.int .i64 (1000)))), none⟩, ⟨some 18, .mv (.t 17), none⟩, ⟨some 19, .mv (.t 1), (some (18, false))⟩, ⟨some 20, .len false (.t 19), (some (18, false))⟩, ⟨some 21, .bin .gtr (.t 20) (.c (.x (.int .i64 (100)))), (some (18, false))⟩, ⟨some 22, .pick (.t 18) (.c (.x (.bool true))) (.t 21), none⟩])
  (.cond (.t 22)
    (.seq (.reg [⟨some 23, .call (.c (.fn 23 [])) [], none⟩, ⟨some 4, .mv (.t 23), none⟩])
    .ret)
    .skip))
  (.seq (.reg [⟨some 25, .call (.c (.fn 24 [])) [(.c (.x (.int .i64 (200))))], none⟩, ⟨some 24, .mv (.t 25), none⟩, ⟨some 26, .ext (.t 24) 0, none⟩, ⟨some 27, .ext (.t 24) 1, none⟩, ⟨some 5, .mv (.t 26), none⟩, ⟨some 6, .mv (.t 27), none⟩])
  (.seq (.reg [⟨some 29, .call (.c (.fn 24 [])) [(.c (.x (.int .i64 (200))))], none⟩, ⟨some 28, .mv (.t 29), none⟩, ⟨some 30, .ext (.t 28) 0, none⟩, ⟨some 31, .ext (.t 28) 1, none⟩, ⟨some 7, .mv (.t 30), none⟩, ⟨some 8, .mv (.t 31), none⟩])
  (.seq (.seq (.reg [⟨some 32, .mv (.t 5), none⟩, ⟨some 33, .eq .ptr false (.t 32) (.c (.x .nilp)), none⟩, ⟨some 34, .mv (.t 33), none⟩, ⟨some 35, .mv (.t 7), (some (34, false))⟩, ⟨some 36, .eq .ptr false (.t 35) (.c (.x .nilp)), (some (34, false))⟩, ⟨some 37, .pick (.t 34) (.c (.x (.bool true))) (.t 36), none⟩])
  (.cond (.t 37)
    (.seq (.reg [⟨some 4, .mv (.c (.x (.bool false))), none⟩])
    .ret)
    .skip))
  (.seq (.reg [⟨some 38, .mv (.t 5), none⟩, ⟨some 39, .mv (.t 0), none⟩, ⟨some 40, .call (.c (.fn 25 [])) [(.t 38), (.t 39)], none⟩])
  (.seq (.reg [⟨some 41, .mv (.t 5), none⟩, ⟨some 42, .call (.c (.fn 31 [])) [(.t 41)], none⟩, ⟨some 9, .mv (.t 42), none⟩])
  (.seq (.reg [⟨some 43, .mv (.t 0), none⟩, ⟨some 10, .mv (.t 43), none⟩])
  (.seq (.reg [⟨some 11, .mv (.c (.x .nils)), none⟩])
  (.seq (.seq (.reg [⟨some 12, .mv (.c (.x (.int .i64 (0)))), none⟩])
  (.block 0
    (.loop
      (.seq (.seq (.reg [⟨some 44, .mv (.t 12), none⟩, ⟨some 45, .mv (.t 1), none⟩, ⟨some 46, .len false (.t 45), none⟩, ⟨some 47, .bin .lss (.t 44) (.t 46), none⟩])
      (.cond (.t 47)
        .skip
        (.exit 0)))
      (.seq (.block 1
        (.seq (.reg [⟨some 50, .mv (.t 1), none⟩, ⟨some 51, .mv (.t 12), none⟩, ⟨some 52, .iad 1 (.t 50) (.t 51), none⟩, ⟨some 53, .ld 1 false (.t 52), none⟩, ⟨some 54, .bin .rem (.t 53) (.c (.x (.int .u8 (16)))), none⟩, ⟨some 55, .cvi .i64 (.t 54), none⟩, ⟨some 56, .mv (.t 10), none⟩, ⟨some 57, .len true (.t 56), none⟩, ⟨some 58, .mnx false (.t 55) (.t 57), none⟩, ⟨some 13, .mv (.t 58), none⟩])
        (.seq (.reg [⟨some 59, .mv (.t 7), none⟩, ⟨some 60, .mv (.t 10), none⟩, ⟨some 61, .mv (.t 13), none⟩, ⟨some 62, .slc 0 (.t 60) none (some (.t 61)) none, none⟩, ⟨some 63, .call (.c (.fn 25 [])) [(.t 59), (.t 62)], none⟩])
        (.seq (.reg [⟨some 64, .mv (.t 10), none⟩, ⟨some 65, .mv (.t 13), none⟩, ⟨some 66, .slc 0 (.t 64) (some (.t 65)) none none, none⟩, ⟨some 10, .mv (.t 66), none⟩])
        (.reg [⟨some 67, .mv (.t 11), none⟩, ⟨some 68, .mv (.t 7), none⟩, ⟨some 69, .call (.c (.fn 31 [])) [(.t 68)], none⟩, ⟨some 70, .app 9 1 16 (.t 67) (.t 69), none⟩, ⟨some 11, .mv (.t 70), none⟩])))))
      (.reg [⟨some 48, .mv (.t 12), none⟩, ⟨some 49, .bin .add (.t 48) (.c (.x (.int .i64 (1)))), none⟩, ⟨some 12, .mv (.t 49), none⟩]))))))
  (.seq (.reg [⟨some 71, .mv (.t 7), none⟩, ⟨some 72, .mv (.t 10), none⟩, ⟨some 73, .call (.c (.fn 25 [])) [(.t 71), (.t 72)], none⟩])
  (.seq (.reg [⟨some 74, .mv (.t 11), none⟩, ⟨some 75, .mv (.t 7), none⟩, ⟨some 76, .call (.c (.fn 31 [])) [(.t 75)], none⟩, ⟨some 77, .app 9 1 16 (.t 74) (.t 76), none⟩, ⟨some 11, .mv (.t 77), none⟩])
  (.seq (.seq (.reg [⟨some 78, .mv (.t 11), none⟩, ⟨some 79, .len false (.t 78), none⟩, ⟨some 80, .mv (.t 9), none⟩, ⟨some 81, .len false (.t 80), none⟩, ⟨some 82, .bin .neq (.t 79) (.t 81), none⟩, ⟨some 83, .mv (.t 82), none⟩, ⟨some 84, .mv (.t 5), (some (83, false))⟩, ⟨some 85, .call (.c (.fn 29 [])) [(.t 84)], (some (83, false))⟩, ⟨some 86, .mv (.t 7), (some (83, false))⟩, ⟨some 87, .call (.c (.fn 29 [])) [(.t 86)], (some (83, false))⟩, ⟨some 88, .bin .neq (.t 85) (.t 87), (some (83, false))⟩, ⟨some 89, .pick (.t 83) (.c (.x (.bool true))) (.t 88), none⟩])
  (.cond (.t 89)
    (.seq (.reg [⟨some 4, .mv (.c (.x (.bool false))), none⟩])
    .ret)
    .skip))
  (.seq (.seq (.reg [⟨some 14, .mv (.c (.x (.int .i64 (0)))), none⟩])
  (.block 2
    (.loop
      (.seq (.seq (.reg [⟨some 90, .mv (.t 14), none⟩, ⟨some 91, .mv (.t 11), none⟩, ⟨some 92, .len false (.t 91), none⟩, ⟨some 93, .bin .lss (.t 90) (.t 92), none⟩])
      (.cond (.t 93)
        .skip
        (.exit 2)))
      (.seq (.block 3
        (.seq (.dreg 8 [] [⟨some 96, .mv (.t 11), none⟩, ⟨some 97, .mv (.t 14), none⟩, ⟨some 98, .iad 1 (.t 96) (.t 97), none⟩, ⟨some 99, .ld 1 false (.t 98), none⟩, ⟨some 100, .mv (.t 9), none⟩, ⟨some 101, .mv (.t 14), none⟩, ⟨some 102, .iad 1 (.t 100) (.t 101), none⟩, ⟨some 103, .ld 1 false (.t 102), none⟩, ⟨some 104, .bin .neq (.t 99) (.t 103), none⟩])
        (.cond (.t 104)
          (.seq (.reg [⟨some 4, .mv (.c (.x (.bool false))), none⟩])
          .ret)
          .skip)))
      (.reg [⟨some 94, .mv (.t 14), none⟩, ⟨some 95, .bin .add (.t 94) (.c (.x (.int .i64 (1)))), none⟩, ⟨some 14, .mv (.t 95), none⟩]))))))
  (.seq (.reg [⟨some 105, .call (.c (.fn 23 [])) [], none⟩, ⟨some 4, .mv (.t 105), none⟩])
  .ret)))))))))))))))⟩
theorem c8 : compFn Try.prog Try.f8 = some i8 := by kernel_rfl
/-- bothy/bothylaw04.FrameNone -/
def i9 : IFn := ⟨33, [.tmp 2], (.seq (.reg [⟨some 2, .mv (.c (.x (.bool false))), none⟩])
  (.seq (.reg [⟨some 3, .mv (.c (.x .nilp)), none⟩])
  (.seq (.reg [⟨some 6, .mv (.t 3), none⟩, ⟨some 7, .mv (.t 0), none⟩, ⟨some 8, .call (.c (.fn 25 [])) [(.t 6), (.t 7)], none⟩])
  (.seq (.reg [⟨some 10, .mv (.t 3), none⟩, ⟨some 11, .call (.c (.fn 27 [])) [(.t 10)], none⟩, ⟨some 9, .mv (.t 11), none⟩, ⟨some 12, .ext (.t 9) 0, none⟩, ⟨some 13, .ext (.t 9) 1, none⟩, ⟨some 4, .mv (.t 12), none⟩, ⟨some 5, .mv (.t 13), none⟩])
  (.seq (.reg [⟨some 14, .mv (.t 4), none⟩, ⟨some 15, .bin .eql (.t 14) (.c (.x (.str []))), none⟩, ⟨some 16, .mv (.t 15), none⟩, ⟨some 17, .mv (.t 5), (some (16, true))⟩, ⟨some 18, .un .not (.t 17), (some (16, true))⟩, ⟨some 19, .pick (.t 16) (.t 18) (.c (.x (.bool false))), none⟩, ⟨some 20, .mv (.t 19), none⟩, ⟨some 21, .mv (.t 3), (some (20, true))⟩, ⟨some 22, .call (.c (.fn 29 [])) [(.t 21)], (some (20, true))⟩, ⟨some 23, .bin .eql (.t 22) (.c (.x (.int .i64 (12)))), (some (20, true))⟩, ⟨some 24, .pick (.t 20) (.t 23) (.c (.x (.bool false))), none⟩, ⟨some 25, .mv (.t 24), none⟩, ⟨some 26, .mv (.t 3), (some (25, true))⟩, ⟨some 27, .call (.c (.fn 30 [])) [(.t 26)], (some (25, true))⟩, ⟨some 28, .bin .eql (.t 27) (.c (.x (.int .i64 (0)))), (some (25, true))⟩, ⟨some 29, .pick (.t 25) (.t 28) (.c (.x (.bool false))), none⟩, ⟨some 30, .mv (.t 29), none⟩, ⟨some 31, .call (.c (.fn 23 [])) [], (some (30, true))⟩, ⟨some 32, .pick (.t 30) (.t 31) (.c (.x (.bool false))), none⟩, ⟨some 2, .mv (.t 32), none⟩])
  .ret)))))⟩
theorem c9 : compFn Try.prog Try.f9 = some i9 := by kernel_rfl
/-- bothy/bothylaw03.TreeChecks -/
def i10 : IFn := ⟨26, [.tmp 4], (.seq (.reg [⟨some 4, .mv (.c (.x (.bool false))), none⟩])
  (.seq (.seq (.reg [⟨some 5, .mv (.t 0), none⟩, ⟨some 6, .len true (.t 5), none⟩, ⟨some 7, .bin .gtr (.t 6) (.c (.x (.int .i64 (400)))), none⟩])
  (.cond (.t 7)
    (.seq (.reg [⟨some 8, .call (.c (.fn 32 [])) [], none⟩, ⟨some 4, .mv (.t 8), none⟩])
    .ret)
    .skip))
  (.seq (.reg [⟨some 9, .mv (.t 0), none⟩, ⟨some 10, .mv (.t 1), none⟩, ⟨some 11, .call (.c (.fn 33 [])) [(.t 9), (.t 10)], none⟩, ⟨some 12, .mv (.t 0), none⟩, ⟨some 13, .mv (.t 1), none⟩, ⟨some 14, .call (.c (.fn 34 [])) [(.t 12), (.t 13)], none⟩, ⟨some 15, .bin .eql (.t 11) (.t 14), none⟩, ⟨some 16, .mv (.t 15), none⟩, ⟨some 17, .mv (.t 0), (some (16, true))⟩, ⟨some 18, .call (.c (.fn 35 [])) [(.t 17)], (some (16, true))⟩, ⟨some 19, .mv (.t 0), (some (16, true))⟩, ⟨some 20, .call (.c (.fn 36 [])) [(.t 19)], (some (16, true))⟩, ⟨some 21, .bin .eql (.t 18) (.t 20), (some (16, true))⟩, ⟨some 22, .pick (.t 16) (.t 21) (.c (.x (.bool false))), none⟩, ⟨some 23, .mv (.t 22), none⟩, ⟨some 24, .call (.c (.fn 32 [])) [], (some (23, true))⟩, ⟨some 25, .pick (.t 23) (.t 24) (.c (.x (.bool false))), none⟩, ⟨some 4, .mv (.t 25), none⟩])
  .ret)))⟩
theorem c10 : compFn Try.prog Try.f10 = some i10 := by kernel_rfl
/-- bothy/bothylaw03.TreeParts -/
def i11 : IFn := ⟨102, [.tmp 6], (.seq (.reg [⟨some 6, .mv (.c (.x (.bool false))), none⟩])
  (.seq (.seq (.reg [⟨some 18, .mv (.t 0), none⟩, ⟨some 19, .len false (.t 18), none⟩, ⟨some 20, .bin .gtr (.t 19) (.c (.x (.int .i64 (20)))), none⟩, ⟨some 21, .mv (.t 20), none⟩, ⟨some 22, .mv (.t 1), (some (21, false))⟩, ⟨some 23, .len true (.t 22), (some (21, false))⟩, ⟨some 24, .bin .gtr (.t 23) (.c (.x (.int .i64 (1000)))), (some (21, false))⟩, ⟨some 25, .pick (.t 21) (.c (.x (.bool true))) (.t 24), none⟩, ⟨some 26, .mv (.t 25), none⟩, ⟨some 27, .mv (.t 2), (some (26, false))⟩, ⟨some 28, .len false (.t 27), (some (26, false))⟩, ⟨some 29, .bin .gtr (.t 28) (.c (.x (.int .i64 (20)))), (some (26, false))⟩, ⟨some 30, .pick (.t 26) (.c (.x (.bool true))) (.t 29), none⟩])
  (.cond (.t 30)
    (.seq (.reg [⟨some 31, .call (.c (.fn 32 [])) [], none⟩, ⟨some 6, .mv (.t 31), none⟩])
    .ret)
    .skip))
  (.seq (.seq (.reg [⟨some 7, .mv (.c (.x (.int .i64 (0)))), none⟩])
  (.block 0
    (.loop
      (.seq (.seq (.reg [⟨some 32, .mv (.t 7), none⟩, ⟨some 33, .mv (.t 0), none⟩, ⟨some 34, .len false (.t 33), none⟩, ⟨some 35, .bin .lss (.t 32) (.t 34), none⟩])
      (.cond (.t 35)
        .skip
        (.exit 0)))
      (.seq (.block 1
        (.seq (.reg [⟨some 38, .mv (.t 0), none⟩, ⟨some 39, .mv (.t 7), none⟩, ⟨some 40, .iad 1 (.t 38) (.t 39), none⟩, ⟨some 41, .ld 1 false (.t 40), none⟩, ⟨some 42, .len true (.t 41), none⟩, ⟨some 43, .bin .gtr (.t 42) (.c (.x (.int .i64 (300)))), none⟩])
        (.cond (.t 43)
          (.seq (.reg [⟨some 44, .call (.c (.fn 32 [])) [], none⟩, ⟨some 6, .mv (.t 44), none⟩])
          .ret)
          .skip)))
      (.reg [⟨some 36, .mv (.t 7), none⟩, ⟨some 37, .bin .add (.t 36) (.c (.x (.int .i64 (1)))), none⟩, ⟨some 7, .mv (.t 37), none⟩]))))))
  (.seq (.reg [⟨some 8, .mv (.c (.x .nils)), none⟩])
  (.seq (.seq (.reg [⟨some 9, .mv (.c (.x (.int .i64 (0)))), none⟩])
  (.block 2
    (.loop
      (.seq (.seq (.reg [⟨some 45, .mv (.t 9), none⟩, ⟨some 46, .mv (.t 2), none⟩, ⟨some 47, .len false (.t 46), none⟩, ⟨some 48, .bin .lss (.t 45) (.t 47), none⟩])
      (.cond (.t 48)
        .skip
        (.exit 2)))
      (.seq (.block 3
        (.reg [⟨some 51, .mv (.t 8), none⟩, ⟨some 52, .mv (.t 2), none⟩, ⟨some 53, .mv (.t 9), none⟩, ⟨some 54, .iad 1 (.t 52) (.t 53), none⟩, ⟨some 55, .ld 1 false (.t 54), none⟩, ⟨some 56, .cvi .i64 (.t 55), none⟩, ⟨some 57, .bsl 3 1 1 [(.t 56)], none⟩, ⟨some 58, .app 3 1 8 (.t 51) (.t 57), none⟩, ⟨some 8, .mv (.t 58), none⟩]))
      (.reg [⟨some 49, .mv (.t 9), none⟩, ⟨some 50, .bin .add (.t 49) (.c (.x (.int .i64 (1)))), none⟩, ⟨some 9, .mv (.t 50), none⟩]))))))
  (.seq (.reg [⟨some 60, .mv (.t 0), none⟩, ⟨some 61, .call (.c (.fn 37 [])) [(.t 60)], none⟩, ⟨some 59, .mv (.t 61), none⟩, ⟨some 62, .ext (.t 59) 0, none⟩, ⟨some 63, .ext (.t 59) 1, none⟩, ⟨some 10, .mv (.t 62), none⟩, ⟨some 11, .mv (.t 63), none⟩])
  (.seq (.reg [⟨some 65, .mv (.t 0), none⟩, ⟨some 66, .call (.c (.fn 38 [])) [(.t 65)], none⟩, ⟨some 64, .mv (.t 66), none⟩, ⟨some 67, .ext (.t 64) 0, none⟩, ⟨some 68, .ext (.t 64) 1, none⟩, ⟨some 12, .mv (.t 67), none⟩, ⟨some 13, .mv (.t 68), none⟩])
  (.seq (.reg [⟨some 70, .mv (.t 1), none⟩, ⟨some 71, .mv (.t 8), none⟩, ⟨some 72, .call (.c (.fn 39 [])) [(.t 70), (.t 71)], none⟩, ⟨some 69, .mv (.t 72), none⟩, ⟨some 73, .ext (.t 69) 0, none⟩, ⟨some 74, .ext (.t 69) 1, none⟩, ⟨some 14, .mv (.t 73), none⟩, ⟨some 15, .mv (.t 74), none⟩])
  (.seq (.reg [⟨some 76, .mv (.t 1), none⟩, ⟨some 77, .mv (.t 8), none⟩, ⟨some 78, .call (.c (.fn 40 [])) [(.t 76), (.t 77)], none⟩, ⟨some 75, .mv (.t 78), none⟩, ⟨some 79, .ext (.t 75) 0, none⟩, ⟨some 80, .ext (.t 75) 1, none⟩, ⟨some 16, .mv (.t 79), none⟩, ⟨some 17, .mv (.t 80), none⟩])
  (.seq (.reg [⟨some 81, .mv (.t 10), none⟩, ⟨some 82, .mv (.t 12), none⟩, ⟨some 83, .bin .eql (.t 81) (.t 82), none⟩, ⟨some 84, .mv (.t 83), none⟩, ⟨some 85, .mv (.t 11), (some (84, true))⟩, ⟨some 86, .mv (.t 13), (some (84, true))⟩, ⟨some 87, .bin .eql (.t 85) (.t 86), (some (84, true))⟩, ⟨some 88, .pick (.t 84) (.t 87) (.c (.x (.bool false))), none⟩, ⟨some 89, .mv (.t 88), none⟩, ⟨some 90, .mv (.t 14), (some (89, true))⟩, ⟨some 91, .mv (.t 16), (some (89, true))⟩, ⟨some 92, .call (.c (.fn 41 [])) [(.t 90), (.t 91)], (some (89, true))⟩, ⟨some 93, .pick (.t 89) (.t 92) (.c (.x (.bool false))), none⟩, ⟨some 94, .mv (.t 93), none⟩, ⟨some 95, .mv (.t 15), (some (94, true))⟩, ⟨some 96, .mv (.t 17), (some (94, true))⟩, ⟨some 97, .bin .eql (.t 95) (.t 96), (some (94, true))⟩, ⟨some 98, .pick (.t 94) (.t 97) (.c (.x (.bool false))), none⟩, ⟨some 99, .mv (.t 98), none⟩, ⟨some 100, .call (.c (.fn 32 [])) [], (some (99, true))⟩, ⟨some 101, .pick (.t 99) (.t 100) (.c (.x (.bool false))), none⟩, ⟨some 6, .mv (.t 101), none⟩])
  .ret))))))))))⟩
theorem c11 : compFn Try.prog Try.f11 = some i11 := by kernel_rfl
/-- bothy/bothylaw03.TreeNests -/
def i12 : IFn := ⟨57, [.tmp 2], (.seq (.reg [⟨some 2, .mv (.c (.x (.bool false))), none⟩])
  (.seq (.seq (.reg [⟨some 8, .mv (.t 0), none⟩, ⟨some 9, .len false (.t 8), none⟩, ⟨some 10, .bin .gtr (.t 9) (.c (.x (.int .i64 (8)))), none⟩])
  (.cond (.t 10)
    (.seq (.reg [⟨some 11, .call (.c (.fn 32 [])) [], none⟩, ⟨some 2, .mv (.t 11), none⟩])
    .ret)
    .skip))
  (.seq (.reg [⟨some 3, .mv (.c (.x (.int .i64 (0)))), none⟩])
  (.seq (.seq (.reg [⟨some 4, .mv (.c (.x (.int .i64 (0)))), none⟩])
  (.block 0
    (.loop
      (.seq (.seq (.reg [⟨some 12, .mv (.t 4), none⟩, ⟨some 13, .mv (.t 0), none⟩, ⟨some 14, .len false (.t 13), none⟩, ⟨some 15, .bin .lss (.t 12) (.t 14), none⟩])
      (.cond (.t 15)
        .skip
        (.exit 0)))
      (.seq (.block 1
        (.seq (.seq (.reg [⟨some 18, .mv (.t 0), none⟩, ⟨some 19, .mv (.t 4), none⟩, ⟨some 20, .iad 1 (.t 18) (.t 19), none⟩, ⟨some 21, .ld 1 false (.t 20), none⟩, ⟨some 22, .len true (.t 21), none⟩, ⟨some 23, .bin .gtr (.t 22) (.c (.x (.int .i64 (200)))), none⟩])
        (.cond (.t 23)
          (.seq (.reg [⟨some 24, .call (.c (.fn 32 [])) [], none⟩, ⟨some 2, .mv (.t 24), none⟩])
          .ret)
          .skip))
        (.seq (.reg [⟨some 25, .mv (.t 0), none⟩, ⟨some 26, .mv (.t 4), none⟩, ⟨some 27, .iad 1 (.t 25) (.t 26), none⟩, ⟨some 28, .ld 1 false (.t 27), none⟩, ⟨some 29, .call (.c (.fn 35 [])) [(.t 28)], none⟩, ⟨some 5, .mv (.t 29), none⟩])
        (.seq (.seq (.reg [⟨some 30, .mv (.t 5), none⟩, ⟨some 31, .bin .eql (.t 30) (.c (.x (.int .i64 (0)))), none⟩])
        (.cond (.t 31)
          (.seq (.reg [⟨some 32, .call (.c (.fn 32 [])) [], none⟩, ⟨some 2, .mv (.t 32), none⟩])
          .ret)
          .skip))
        (.reg [⟨some 33, .mv (.t 3), none⟩, ⟨some 34, .mv (.t 5), none⟩, ⟨some 35, .mnx true (.t 33) (.t 34), none⟩, ⟨some 3, .mv (.t 35), none⟩])))))
      (.reg [⟨some 16, .mv (.t 4), none⟩, ⟨some 17, .bin .add (.t 16) (.c (.x (.int .i64 (1)))), none⟩, ⟨some 4, .mv (.t 17), none⟩]))))))
  (.seq (.reg [⟨some 37, .mv (.t 0), none⟩, ⟨some 38, .call (.c (.fn 37 [])) [(.t 37)], none⟩, ⟨some 36, .mv (.t 38), none⟩, ⟨some 39, .ext (.t 36) 0, none⟩, ⟨some 40, .ext (.t 36) 1, none⟩, ⟨some 6, .mv (.t 39), none⟩, ⟨some 7, .mv (.t 40), none⟩])
  (.seq (.reg [⟨some 41, .mv (.t 7), none⟩, ⟨some 42, .bin .eql (.t 41) (.c (.x (.int .i64 (0)))), none⟩, ⟨some 43, .mv (.t 42), none⟩, ⟨some 44, .mv (.t 3), (some (43, true))⟩, ⟨some 45, .bin .geq (.t 44) (.c (.x (.int .i64 (64)))), (some (43, true))⟩, ⟨some 46, .mv (.t 45), (some (43, true))⟩, ⟨some 47, .mv (.t 6), (some (46, false))⟩, ⟨some 48, .call (.c (.fn 35 [])) [(.t 47)], (some (46, false))⟩, ⟨some 49, .mv (.t 3), (some (46, false))⟩, ⟨some 50, .bin .add (.t 49) (.c (.x (.int .i64 (1)))), (some (46, false))⟩, ⟨some 51, .bin .eql (.t 48) (.t 50), (some (46, false))⟩, ⟨some 52, .pick (.t 46) (.c (.x (.bool true))) (.t 51), (some (43, true))⟩, ⟨some 53, .pick (.t 43) (.t 52) (.c (.x (.bool false))), none⟩, ⟨some 54, .mv (.t 53), none⟩, ⟨some 55, .call (.c (.fn 32 [])) [], (some (54, true))⟩, ⟨some 56, .pick (.t 54) (.t 55) (.c (.x (.bool false))), none⟩, ⟨some 2, .mv (.t 56), none⟩])
  .ret))))))⟩
theorem c12 : compFn Try.prog Try.f12 = some i12 := by kernel_rfl
/-- bothy/bothylaw01.awake -/
def i13 : IFn := ⟨116, [.tmp 0], (.seq (.reg [⟨some 0, .mv (.c (.x (.bool false))), none⟩])
  (.seq (.reg [⟨some 22, .call (.c (.fn 14 [])) [(.c (.x (.int .i64 (4)))), (.c (.x (.str [97, 98])))], none⟩, ⟨some 21, .mv (.t 22), none⟩, ⟨some 23, .ext (.t 21) 0, none⟩, ⟨some 24, .ext (.t 21) 1, none⟩, ⟨some 1, .mv (.t 23), none⟩, ⟨some 2, .mv (.t 24), none⟩])
  (.seq (.reg [⟨some 26, .mv (.t 1), none⟩, ⟨some 27, .bin .add (.t 26) (.c (.x (.str [120]))), none⟩, ⟨some 28, .call (.c (.fn 18 [])) [(.t 27)], none⟩, ⟨some 25, .mv (.t 28), none⟩, ⟨some 29, .ext (.t 25) 0, none⟩, ⟨some 30, .ext (.t 25) 1, none⟩, ⟨some 31, .ext (.t 25) 2, none⟩, ⟨some 3, .box (.c (.agg [.x (.int .i64 (0)), .x (.str [])])), none⟩, ⟨none, .sto 2 (.t 3) (.t 29), none⟩, ⟨some 4, .mv (.t 30), none⟩, ⟨some 5, .mv (.t 31), none⟩])
  (.seq (.reg [⟨some 33, .call (.c (.fn 18 [])) [(.c (.x (.str [4, 128])))], none⟩, ⟨some 32, .mv (.t 33), none⟩, ⟨some 34, .ext (.t 32) 0, none⟩, ⟨some 35, .ext (.t 32) 1, none⟩, ⟨some 36, .ext (.t 32) 2, none⟩, ⟨some 6, .box (.c (.agg [.x (.int .i64 (0)), .x (.str [])])), none⟩, ⟨none, .sto 2 (.t 6) (.t 34), none⟩, ⟨some 7, .mv (.t 35), none⟩, ⟨some 8, .mv (.t 36), none⟩])
  (.seq (.reg [⟨some 38, .call (.c (.fn 18 [])) [(.c (.x (.str [4, 129, 5])))], none⟩, ⟨some 37, .mv (.t 38), none⟩, ⟨some 39, .ext (.t 37) 0, none⟩, ⟨some 40, .ext (.t 37) 1, none⟩, ⟨some 41, .ext (.t 37) 2, none⟩, ⟨some 9, .box (.c (.agg [.x (.int .i64 (0)), .x (.str [])])), none⟩, ⟨none, .sto 2 (.t 9) (.t 39), none⟩, ⟨some 10, .mv (.t 40), none⟩, ⟨some 11, .mv (.t 41), none⟩])
  (.seq (.reg [⟨some 43, .call (.c (.fn 18 [])) [(.c (.x (.str [31, 0])))], none⟩, ⟨some 42, .mv (.t 43), none⟩, ⟨some 44, .ext (.t 42) 0, none⟩, ⟨some 45, .ext (.t 42) 1, none⟩, ⟨some 46, .ext (.t 42) 2, none⟩, ⟨some 12, .box (.c (.agg [.x (.int .i64 (0)), .x (.str [])])), none⟩, ⟨none, .sto 2 (.t 12) (.t 44), none⟩, ⟨some 13, .mv (.t 45), none⟩, ⟨some 14, .mv (.t 46), none⟩])
  (.seq (.reg [⟨some 48, .call (.c (.fn 16 [])) [(.c (.x (.str [4, 129, 128])))], none⟩, ⟨some 47, .mv (.t 48), none⟩, ⟨some 49, .ext (.t 47) 0, none⟩, ⟨some 50, .ext (.t 47) 1, none⟩, ⟨some 51, .ext (.t 47) 2, none⟩, ⟨some 52, .ext (.t 47) 3, none⟩, ⟨some 15, .mv (.t 49), none⟩, ⟨some 16, .mv (.t 50), none⟩, ⟨some 17, .mv (.t 51), none⟩, ⟨some 18, .mv (.t 52), none⟩])
  (.seq (.reg [⟨some 54, .mv (.t 1), none⟩, ⟨some 55, .mv (.t 1), none⟩, ⟨some 56, .bin .add (.t 54) (.t 55), none⟩, ⟨some 57, .call (.c (.fn 20 [])) [(.t 56)], none⟩, ⟨some 53, .mv (.t 57), none⟩, ⟨some 58, .ext (.t 53) 0, none⟩, ⟨some 59, .ext (.t 53) 1, none⟩, ⟨some 19, .mv (.t 58), none⟩, ⟨some 20, .mv (.t 59), none⟩])
  (.seq (.reg [⟨some 60, .mv (.t 1), none⟩, ⟨some 61, .bin .eql (.t 60) (.c (.x (.str [4, 2, 97, 98]))), none⟩, ⟨some 62, .mv (.t 61), none⟩, ⟨some 63, .mv (.t 2), (some (62, true))⟩, ⟨some 64, .bin .eql (.t 63) (.c (.x (.int .i64 (0)))), (some (62, true))⟩, ⟨some 65, .pick (.t 62) (.t 64) (.c (.x (.bool false))), none⟩, ⟨some 66, .mv (.t 65), none⟩, ⟨some 67, .ld 2 true (.t 3), (some (66, true))⟩, ⟨some 68, .build [.x (.int .i64 (0)), .x (.str [])] [(0, 1, (.c (.x (.int .i64 (4))))), (1, 1, (.c (.x (.str [97, 98]))))], (some (66, true))⟩, ⟨some 69, .eq (.st [(0, .int .i64), (1, .str)]) false (.t 67) (.t 68), (some (66, true))⟩, ⟨some 70, .pick (.t 66) (.t 69) (.c (.x (.bool false))), none⟩, ⟨some 71, .mv (.t 70), none⟩, ⟨some 72, .mv (.t 4), (some (71, true))⟩, ⟨some 73, .bin .eql (.t 72) (.c (.x (.int .i64 (4)))), (some (71, true))⟩, ⟨some 74, .pick (.t 71) (.t 73) (.c (.x (.bool false))), none⟩, ⟨some 75, .mv (.t 74), none⟩, ⟨some 76, .mv (.t 5), (some (75, true))⟩, ⟨some 77, .bin .eql (.t 76) (.c (.x (.int .i64 (0)))), (some (75, true))⟩, ⟨some 78, .pick (.t 75) (.t 77) (.c (.x (.bool false))), none⟩, ⟨some 79, .mv (.t 78), none⟩, ⟨some 80, .mv (.t 8), (some (79, true))⟩, ⟨some 81, .bin .eql (.t 80) (.c (.x (.int .i64 (5)))), (some (79, true))⟩, ⟨some 82, .pick (.t 79) (.t 81) (.c (.x (.bool false))), none⟩, ⟨some 83, .mv (.t 82), none⟩, ⟨some 84, .mv (.t 11), (some (83, true))⟩, ⟨some 85, .bin .eql (.t 84) (.c (.x (.int .i64 (5)))), (some (83, true))⟩, ⟨some 86, .pick (.t 83) (.t 85) (.c (.x (.bool false))), none⟩, ⟨some 87, .mv (.t 86), none⟩, ⟨some 88, .mv (.t 14), (some (87, true))⟩, ⟨some 89, .bin .eql (.t 88) (.c (.x (.int .i64 (6)))), (some (87, true))⟩, ⟨some 90, .pick (.t 87) (.t 89) (.c (.x (.bool false))), none⟩, ⟨some 91, .mv (.t 90), none⟩, ⟨some 92, .mv (.t 15), (some (91, true))⟩, ⟨some 93, .bin .eql (.t 92) (.c (.x (.int .i64 (4)))), (some (91, true))⟩, ⟨some 94, .pick (.t 91) (.t 93) (.c (.x (.bool false))), none⟩, ⟨some 95, .mv (.t 94), none⟩, ⟨some 96, .mv (.t 16), (some (95, true))⟩, ⟨some 97, .bin .eql (.t 96) (.c (.x (.int .i64 (128)))), (some (95, true))⟩, ⟨some 98, .pick (.t 95) (.t 97) (.c (.x (.bool false))), none⟩, ⟨some 99, .mv (.t 98), none⟩, ⟨some 100, .mv (.t 17), (some (99, true))⟩, ⟨some 101, .bin .eql (.t 100) (.c (.x (.int .i64 (3)))), (some (99, true))⟩, ⟨some 102, .pick (.t 99) (.t 101) (.c (.x (.bool false))), none⟩, ⟨some 103, .mv (.t 102), none⟩, ⟨some 104, .mv (.t 18), (some (103, true))⟩, ⟨some 105, .bin .eql (.t 104) (.c (.x (.int .i64 (0)))), (some (103, true))⟩, ⟨some 106, .pick (.t 103) (.t 105) (.c (.x (.bool false))), none⟩, ⟨some 107, .mv (.t 106), none⟩, ⟨some 108, .mv (.t 19), (some (107, true))⟩, ⟨some 109, .len false (.t 108), (some (107, true))⟩, ⟨some 110, .bin .eql (.t 109) (.c (.x (.int .i64 (2)))), (some (107, true))⟩, ⟨some 111, .pick (.t 107) (.t 110) (.c (.x (.bool false))), none⟩, ⟨some 112, .mv (.t 111), none⟩, ⟨some 113, .mv (.t 20), (some (112, true))⟩, ⟨some 114, .bin .eql (.t 113) (.c (.x (.int .i64 (0)))), (some (112, true))⟩, ⟨some 115, .pick (.t 112) (.t 114) (.c (.x (.bool false))), none⟩, ⟨some 0, .mv (.t 115), none⟩])
  .ret)))))))))⟩
theorem c13 : compFn Try.prog Try.f13 = some i13 := by kernel_rfl
/-- bothy/ber.Put -/
def i14 : IFn := ⟨23, [.tmp 4, .tmp 5], (.seq (.reg [⟨some 4, .mv (.c (.x (.str []))), none⟩, ⟨some 5, .mv (.c (.x (.int .i64 (0)))), none⟩])
  (.seq (.block 0
    (.seq (.reg [⟨some 7, .mv (.t 0), none⟩, ⟨some 8, .call (.c (.fn 42 [])) [(.t 7)], none⟩, ⟨some 6, .mv (.t 8), none⟩])
    (.cond (.t 6)
      (.seq (.reg [⟨some 4, .mv (.c (.x (.str []))), none⟩, ⟨some 5, .mv (.c (.x (.int .i64 (6)))), none⟩])
      .ret)
      (.seq (.reg [⟨some 10, .mv (.t 1), none⟩, ⟨some 11, .len true (.t 10), none⟩, ⟨some 12, .bin .gtr (.t 11) (.c (.x (.int .i64 (65536)))), none⟩, ⟨some 9, .mv (.t 12), none⟩])
      (.cond (.t 9)
        (.seq (.reg [⟨some 4, .mv (.c (.x (.str []))), none⟩, ⟨some 5, .mv (.c (.x (.int .i64 (3)))), none⟩])
        .ret)
        .skip)))))
  (.seq (.dreg 7 [] [⟨some 13, .mv (.t 0), none⟩, ⟨some 14, .cvi .u8 (.t 13), none⟩, ⟨some 15, .bsl 5 1 1 [(.t 14)], none⟩, ⟨some 16, .b2s (.t 15), none⟩, ⟨some 17, .mv (.t 1), none⟩, ⟨some 18, .len true (.t 17), none⟩, ⟨some 19, .call (.c (.fn 43 [])) [(.t 18)], none⟩, ⟨some 20, .bin .add (.t 16) (.t 19), none⟩, ⟨some 21, .mv (.t 1), none⟩, ⟨some 22, .bin .add (.t 20) (.t 21), none⟩, ⟨some 4, .mv (.t 22), none⟩, ⟨some 5, .mv (.c (.x (.int .i64 (0)))), none⟩])
  .ret)))⟩
theorem c14 : compFn Try.prog Try.f14 = some i14 := by kernel_rfl
/-- bothy/bothyref01.Put -/
def i15 : IFn := ⟨24, [.tmp 4, .tmp 5], (.seq (.reg [⟨some 4, .mv (.c (.x (.str []))), none⟩, ⟨some 5, .mv (.c (.x (.int .i64 (0)))), none⟩])
  (.seq (.block 0
    (.seq (.reg [⟨some 7, .mv (.t 0), none⟩, ⟨some 8, .call (.c (.fn 44 [])) [(.t 7)], none⟩, ⟨some 9, .un .not (.t 8), none⟩, ⟨some 6, .mv (.t 9), none⟩])
    (.cond (.t 6)
      (.seq (.reg [⟨some 4, .mv (.c (.x (.str []))), none⟩, ⟨some 5, .mv (.c (.x (.int .i64 (6)))), none⟩])
      .ret)
      (.seq (.reg [⟨some 11, .mv (.t 1), none⟩, ⟨some 12, .len true (.t 11), none⟩, ⟨some 13, .bin .gtr (.t 12) (.c (.x (.int .i64 (65536)))), none⟩, ⟨some 10, .mv (.t 13), none⟩])
      (.cond (.t 10)
        (.seq (.reg [⟨some 4, .mv (.c (.x (.str []))), none⟩, ⟨some 5, .mv (.c (.x (.int .i64 (3)))), none⟩])
        .ret)
        .skip)))))
  (.seq (.dreg 7 [] [⟨some 14, .mv (.t 0), none⟩, ⟨some 15, .cvi .u8 (.t 14), none⟩, ⟨some 16, .bsl 5 1 1 [(.t 15)], none⟩, ⟨some 17, .b2s (.t 16), none⟩, ⟨some 18, .mv (.t 1), none⟩, ⟨some 19, .len true (.t 18), none⟩, ⟨some 20, .call (.c (.fn 45 [])) [(.t 19)], none⟩, ⟨some 21, .bin .add (.t 17) (.t 20), none⟩, ⟨some 22, .mv (.t 1), none⟩, ⟨some 23, .bin .add (.t 21) (.t 22), none⟩, ⟨some 4, .mv (.t 23), none⟩, ⟨some 5, .mv (.c (.x (.int .i64 (0)))), none⟩])
  .ret)))⟩
theorem c15 : compFn Try.prog Try.f15 = some i15 := by kernel_rfl
/-- bothy/ber.Head -/
def i16 : IFn := ⟨47, [.tmp 2, .tmp 3, .tmp 4, .tmp 5], (.seq (.reg [⟨some 2, .mv (.c (.x (.int .i64 (0)))), none⟩, ⟨some 3, .mv (.c (.x (.int .i64 (0)))), none⟩, ⟨some 4, .mv (.c (.x (.int .i64 (0)))), none⟩, ⟨some 5, .mv (.c (.x (.int .i64 (0)))), none⟩])
  (.seq (.block 0
    (.seq (.reg [⟨some 10, .mv (.t 0), none⟩, ⟨some 11, .bin .eql (.t 10) (.c (.x (.str []))), none⟩, ⟨some 9, .mv (.t 11), none⟩])
    (.cond (.t 9)
      (.seq (.reg [⟨some 2, .mv (.c (.x (.int .i64 (0)))), none⟩, ⟨some 3, .mv (.c (.x (.int .i64 (0)))), none⟩, ⟨some 4, .mv (.c (.x (.int .i64 (0)))), none⟩, ⟨some 5, .mv (.c (.x (.int .i64 (4)))), none⟩])
      .ret)
      (.seq (.reg [⟨some 13, .mv (.t 0), none⟩, ⟨some 14, .idx (.t 13) (.c (.x (.int .i64 (0)))), none⟩, ⟨some 15, .cvi .i64 (.t 14), none⟩, ⟨some 16, .call (.c (.fn 42 [])) [(.t 15)], none⟩, ⟨some 12, .mv (.t 16), none⟩])
      (.cond (.t 12)
        (.seq (.reg [⟨some 2, .mv (.c (.x (.int .i64 (0)))), none⟩, ⟨some 3, .mv (.c (.x (.int .i64 (0)))), none⟩, ⟨some 4, .mv (.c (.x (.int .i64 (0)))), none⟩, ⟨some 5, .mv (.c (.x (.int .i64 (6)))), none⟩])
        .ret)
        (.seq (.reg [⟨some 18, .mv (.t 0), none⟩, ⟨some 19, .len true (.t 18), none⟩, ⟨some 20, .bin .eql (.t 19) (.c (.x (.int .i64 (1)))), none⟩, ⟨some 17, .mv (.t 20), none⟩])
        (.cond (.t 17)
          (.seq (.reg [⟨some 2, .mv (.c (.x (.int .i64 (0)))), none⟩, ⟨some 3, .mv (.c (.x (.int .i64 (0)))), none⟩, ⟨some 4, .mv (.c (.x (.int .i64 (0)))), none⟩, ⟨some 5, .mv (.c (.x (.int .i64 (4)))), none⟩])
          .ret)
          (.seq (.reg [⟨some 22, .mv (.t 0), none⟩, ⟨some 23, .idx (.t 22) (.c (.x (.int .i64 (1)))), none⟩, ⟨some 24, .bin .lss (.t 23) (.c (.x (.int .u8 (128)))), none⟩, ⟨some 21, .mv (.t 24), none⟩])
          (.cond (.t 21)
            (.seq (.dreg 0 [] [⟨some 25, .mv (.t 0), none⟩, ⟨some 26, .idx (.t 25) (.c (.x (.int .i64 (0)))), none⟩, ⟨some 27, .cvi .i64 (.t 26), none⟩, ⟨some 28, .mv (.t 0), none⟩, ⟨some 29, .idx (.t 28) (.c (.x (.int .i64 (1)))), none⟩, ⟨some 30, .cvi .i64 (.t 29), none⟩, ⟨some 2, .mv (.t 27), none⟩, ⟨some 3, .mv (.t 30), none⟩, ⟨some 4, .mv (.c (.x (.int .i64 (2)))), none⟩, ⟨some 5, .mv (.c (.x (.int .i64 (0)))), none⟩])
            .ret)
            .skip)))))))))
  (.seq (.reg [⟨some 32, .mv (.t 0), none⟩, ⟨some 33, .slc 0 (.t 32) (some (.c (.x (.int .i64 (1))))) none none, none⟩, ⟨some 34, .call (.c (.fn 46 [])) [(.t 33)], none⟩, ⟨some 31, .mv (.t 34), none⟩, ⟨some 35, .ext (.t 31) 0, none⟩, ⟨some 36, .ext (.t 31) 1, none⟩, ⟨some 37, .ext (.t 31) 2, none⟩, ⟨some 6, .mv (.t 35), none⟩, ⟨some 7, .mv (.t 36), none⟩, ⟨some 8, .mv (.t 37), none⟩])
  (.seq (.seq (.reg [⟨some 38, .mv (.t 8), none⟩, ⟨some 39, .bin .neq (.t 38) (.c (.x (.int .i64 (0)))), none⟩])
  (.cond (.t 39)
    (.seq (.reg [⟨some 40, .mv (.t 8), none⟩, ⟨some 2, .mv (.c (.x (.int .i64 (0)))), none⟩, ⟨some 3, .mv (.c (.x (.int .i64 (0)))), none⟩, ⟨some 4, .mv (.c (.x (.int .i64 (0)))), none⟩, ⟨some 5, .mv (.t 40), none⟩])
    .ret)
    .skip))
  (.seq (.reg [⟨some 41, .mv (.t 0), none⟩, ⟨some 42, .idx (.t 41) (.c (.x (.int .i64 (0)))), none⟩, ⟨some 43, .cvi .i64 (.t 42), none⟩, ⟨some 44, .mv (.t 6), none⟩, ⟨some 45, .mv (.t 7), none⟩, ⟨some 46, .bin .add (.c (.x (.int .i64 (1)))) (.t 45), none⟩, ⟨some 2, .mv (.t 43), none⟩, ⟨some 3, .mv (.t 44), none⟩, ⟨some 4, .mv (.t 46), none⟩, ⟨some 5, .mv (.c (.x (.int .i64 (0)))), none⟩])
  .ret)))))⟩
theorem c16 : compFn Try.prog Try.f16 = some i16 := by kernel_rfl
/-- bothy/bothyref01.Head -/
def i17 : IFn := ⟨80, [.tmp 2, .tmp 3, .tmp 4, .tmp 5], (.seq (.reg [⟨some 2, .mv (.c (.x (.int .i64 (0)))), none⟩, ⟨some 3, .mv (.c (.x (.int .i64 (0)))), none⟩, ⟨some 4, .mv (.c (.x (.int .i64 (0)))), none⟩, ⟨some 5, .mv (.c (.x (.int .i64 (0)))), none⟩])
  (.seq (.block 0
    (.seq (.reg [⟨some 10, .mv (.t 0), none⟩, ⟨some 11, .bin .eql (.t 10) (.c (.x (.str []))), none⟩, ⟨some 9, .mv (.t 11), none⟩])
    (.cond (.t 9)
      (.seq (.reg [⟨some 2, .mv (.c (.x (.int .i64 (0)))), none⟩, ⟨some 3, .mv (.c (.x (.int .i64 (0)))), none⟩, ⟨some 4, .mv (.c (.x (.int .i64 (0)))), none⟩, ⟨some 5, .mv (.c (.x (.int .i64 (4)))), none⟩])
      .ret)
      (.seq (.reg [⟨some 13, .mv (.t 0), none⟩, ⟨some 14, .idx (.t 13) (.c (.x (.int .i64 (0)))), none⟩, ⟨some 15, .cvi .i64 (.t 14), none⟩, ⟨some 16, .call (.c (.fn 44 [])) [(.t 15)], none⟩, ⟨some 17, .un .not (.t 16), none⟩, ⟨some 12, .mv (.t 17), none⟩])
      (.cond (.t 12)
        (.seq (.reg [⟨some 2, .mv (.c (.x (.int .i64 (0)))), none⟩, ⟨some 3, .mv (.c (.x (.int .i64 (0)))), none⟩, ⟨some 4, .mv (.c (.x (.int .i64 (0)))), none⟩, ⟨some 5, .mv (.c (.x (.int .i64 (6)))), none⟩])
        .ret)
        (.seq (.reg [⟨some 19, .mv (.t 0), none⟩, ⟨some 20, .len true (.t 19), none⟩, ⟨some 21, .bin .eql (.t 20) (.c (.x (.int .i64 (1)))), none⟩, ⟨some 18, .mv (.t 21), none⟩])
        (.cond (.t 18)
          (.seq (.reg [⟨some 2, .mv (.c (.x (.int .i64 (0)))), none⟩, ⟨some 3, .mv (.c (.x (.int .i64 (0)))), none⟩, ⟨some 4, .mv (.c (.x (.int .i64 (0)))), none⟩, ⟨some 5, .mv (.c (.x (.int .i64 (4)))), none⟩])
          .ret)
          (.seq (.reg [⟨some 23, .mv (.t 0), none⟩, ⟨some 24, .idx (.t 23) (.c (.x (.int .i64 (1)))), none⟩, ⟨some 25, .bin .lss (.t 24) (.c (.x (.int .u8 (128)))), none⟩, ⟨some 22, .mv (.t 25), none⟩])
          (.cond (.t 22)
            (.seq (.dreg 0 [] [⟨some 26, .mv (.t 0), none⟩, ⟨some 27, .idx (.t 26) (.c (.x (.int .i64 (0)))), none⟩, ⟨some 28, .cvi .i64 (.t 27), none⟩, ⟨some 29, .mv (.t 0), none⟩, ⟨some 30, .idx (.t 29) (.c (.x (.int .i64 (1)))), none⟩, ⟨some 31, .cvi .i64 (.t 30), none⟩, ⟨some 2, .mv (.t 28), none⟩, ⟨some 3, .mv (.t 31), none⟩, ⟨some 4, .mv (.c (.x (.int .i64 (2)))), none⟩, ⟨some 5, .mv (.c (.x (.int .i64 (0)))), none⟩])
            .ret)
            (.seq (.reg [⟨some 33, .mv (.t 0), none⟩, ⟨some 34, .idx (.t 33) (.c (.x (.int .i64 (1)))), none⟩, ⟨some 35, .bin .eql (.t 34) (.c (.x (.int .u8 (128)))), none⟩, ⟨some 36, .mv (.t 35), none⟩, ⟨some 37, .mv (.t 0), (some (36, false))⟩, ⟨some 38, .idx (.t 37) (.c (.x (.int .i64 (1)))), (some (36, false))⟩, ⟨some 39, .bin .gtr (.t 38) (.c (.x (.int .u8 (132)))), (some (36, false))⟩, ⟨some 40, .pick (.t 36) (.c (.x (.bool true))) (.t 39), none⟩, ⟨some 32, .mv (.t 40), none⟩])
            (.cond (.t 32)
              (.seq (.reg [⟨some 2, .mv (.c (.x (.int .i64 (0)))), none⟩, ⟨some 3, .mv (.c (.x (.int .i64 (0)))), none⟩, ⟨some 4, .mv (.c (.x (.int .i64 (0)))), none⟩, ⟨some 5, .mv (.c (.x (.int .i64 (5)))), none⟩])
              .ret)
              .skip)))))))))))
  (.seq (.reg [⟨some 41, .mv (.t 0), none⟩, ⟨some 42, .idx (.t 41) (.c (.x (.int .i64 (1)))), none⟩, ⟨some 43, .cvi .i64 (.t 42), none⟩, ⟨some 44, .bin .sub (.t 43) (.c (.x (.int .i64 (128)))), none⟩, ⟨some 6, .mv (.t 44), none⟩])
  (.seq (.seq (.reg [⟨some 45, .mv (.t 0), none⟩, ⟨some 46, .len true (.t 45), none⟩, ⟨some 47, .mv (.t 6), none⟩, ⟨some 48, .bin .add (.c (.x (.int .i64 (2)))) (.t 47), none⟩, ⟨some 49, .bin .lss (.t 46) (.t 48), none⟩])
  (.cond (.t 49)
    (.seq (.reg [⟨some 2, .mv (.c (.x (.int .i64 (0)))), none⟩, ⟨some 3, .mv (.c (.x (.int .i64 (0)))), none⟩, ⟨some 4, .mv (.c (.x (.int .i64 (0)))), none⟩, ⟨some 5, .mv (.c (.x (.int .i64 (4)))), none⟩])
    .ret)
    .skip))
  (.seq (.reg [⟨some 7, .mv (.c (.x (.int .i64 (0)))), none⟩])
  (.seq (.seq (.reg [⟨some 8, .mv (.c (.x (.int .i64 (2)))), none⟩])
  (.block 1
    (.loop
      (.seq (.seq (.reg [⟨some 50, .mv (.t 8), none⟩, ⟨some 51, .mv (.t 6), none⟩, ⟨some 52, .bin .add (.c (.x (.int .i64 (2)))) (.t 51), none⟩, ⟨some 53, .bin .lss (.t 50) (.t 52), none⟩])
      (.cond (.t 53)
        .skip
        (.exit 1)))
      (.seq (.block 2
        (.reg [⟨some 56, .mv (.t 7), none⟩, ⟨some 57, .bin .mul (.c (.x (.int .i64 (256)))) (.t 56), none⟩, ⟨some 58, .mv (.t 0), none⟩, ⟨some 59, .mv (.t 8), none⟩, ⟨some 60, .idx (.t 58) (.t 59), none⟩, ⟨some 61, .cvi .i64 (.t 60), none⟩, ⟨some 62, .bin .add (.t 57) (.t 61), none⟩, ⟨some 7, .mv (.t 62), none⟩]))
      (.reg [⟨some 54, .mv (.t 8), none⟩, ⟨some 55, .bin .add (.t 54) (.c (.x (.int .i64 (1)))), none⟩, ⟨some 8, .mv (.t 55), none⟩]))))))
  (.seq (.block 3
    (.seq (.dreg 6 [] [⟨some 64, .mv (.t 7), none⟩, ⟨some 65, .call (.c (.fn 45 [])) [(.t 64)], none⟩, ⟨some 66, .mv (.t 0), none⟩, ⟨some 67, .mv (.t 6), none⟩, ⟨some 68, .bin .add (.c (.x (.int .i64 (2)))) (.t 67), none⟩, ⟨some 69, .slc 0 (.t 66) (some (.c (.x (.int .i64 (1))))) (some (.t 68)) none, none⟩, ⟨some 70, .bin .neq (.t 65) (.t 69), none⟩, ⟨some 63, .mv (.t 70), none⟩])
    (.cond (.t 63)
      (.seq (.reg [⟨some 2, .mv (.c (.x (.int .i64 (0)))), none⟩, ⟨some 3, .mv (.c (.x (.int .i64 (0)))), none⟩, ⟨some 4, .mv (.c (.x (.int .i64 (0)))), none⟩, ⟨some 5, .mv (.c (.x (.int .i64 (5)))), none⟩])
      .ret)
      (.seq (.reg [⟨some 72, .mv (.t 7), none⟩, ⟨some 73, .bin .gtr (.t 72) (.c (.x (.int .i64 (65536)))), none⟩, ⟨some 71, .mv (.t 73), none⟩])
      (.cond (.t 71)
        (.seq (.reg [⟨some 2, .mv (.c (.x (.int .i64 (0)))), none⟩, ⟨some 3, .mv (.c (.x (.int .i64 (0)))), none⟩, ⟨some 4, .mv (.c (.x (.int .i64 (0)))), none⟩, ⟨some 5, .mv (.c (.x (.int .i64 (3)))), none⟩])
        .ret)
        .skip)))))
  (.seq (.reg [⟨some 74, .mv (.t 0), none⟩, ⟨some 75, .idx (.t 74) (.c (.x (.int .i64 (0)))), none⟩, ⟨some 76, .cvi .i64 (.t 75), none⟩, ⟨some 77, .mv (.t 7), none⟩, ⟨some 78, .mv (.t 6), none⟩, ⟨some 79, .bin .add (.c (.x (.int .i64 (2)))) (.t 78), none⟩, ⟨some 2, .mv (.t 76), none⟩, ⟨some 3, .mv (.t 77), none⟩, ⟨some 4, .mv (.t 79), none⟩, ⟨some 5, .mv (.c (.x (.int .i64 (0)))), none⟩])
  .ret))))))))⟩
theorem c17 : compFn Try.prog Try.f17 = some i17 := by kernel_rfl
/-- bothy/ber.Read -/
def i18 : IFn := ⟨40, [.cell 2 2 true, .tmp 3, .tmp 4], (.seq (.reg [⟨some 2, .box (.c (.agg [.x (.int .i64 (0)), .x (.str [])])), none⟩, ⟨some 3, .mv (.c (.x (.int .i64 (0)))), none⟩, ⟨some 4, .mv (.c (.x (.int .i64 (0)))), none⟩])
  (.seq (.reg [⟨some 10, .mv (.t 0), none⟩, ⟨some 11, .call (.c (.fn 16 [])) [(.t 10)], none⟩, ⟨some 9, .mv (.t 11), none⟩, ⟨some 12, .ext (.t 9) 0, none⟩, ⟨some 13, .ext (.t 9) 1, none⟩, ⟨some 14, .ext (.t 9) 2, none⟩, ⟨some 15, .ext (.t 9) 3, none⟩, ⟨some 5, .mv (.t 12), none⟩, ⟨some 6, .mv (.t 13), none⟩, ⟨some 7, .mv (.t 14), none⟩, ⟨some 8, .mv (.t 15), none⟩])
  (.seq (.block 0
    (.seq (.reg [⟨some 17, .mv (.t 8), none⟩, ⟨some 18, .bin .neq (.t 17) (.c (.x (.int .i64 (0)))), none⟩, ⟨some 16, .mv (.t 18), none⟩])
    (.cond (.t 16)
      (.seq (.reg [⟨some 19, .build [.x (.int .i64 (0)), .x (.str [])] [], none⟩, ⟨some 20, .mv (.t 8), none⟩, ⟨none, .sto 2 (.t 2) (.t 19), none⟩, ⟨some 3, .mv (.c (.x (.int .i64 (0)))), none⟩, ⟨some 4, .mv (.t 20), none⟩])
      .ret)
      (.seq (.reg [⟨some 22, .mv (.t 0), none⟩, ⟨some 23, .len true (.t 22), none⟩, ⟨some 24, .mv (.t 7), none⟩, ⟨some 25, .bin .sub (.t 23) (.t 24), none⟩, ⟨some 26, .mv (.t 6), none⟩, ⟨some 27, .bin .lss (.t 25) (.t 26), none⟩, ⟨some 21, .mv (.t 27), none⟩])
      (.cond (.t 21)
        (.seq (.reg [⟨some 28, .build [.x (.int .i64 (0)), .x (.str [])] [], none⟩, ⟨none, .sto 2 (.t 2) (.t 28), none⟩, ⟨some 3, .mv (.c (.x (.int .i64 (0)))), none⟩, ⟨some 4, .mv (.c (.x (.int .i64 (4)))), none⟩])
        .ret)
        .skip)))))
  (.seq (.reg [⟨some 29, .mv (.t 5), none⟩, ⟨some 30, .mv (.t 0), none⟩, ⟨some 31, .mv (.t 7), none⟩, ⟨some 32, .mv (.t 7), none⟩, ⟨some 33, .mv (.t 6), none⟩, ⟨some 34, .bin .add (.t 32) (.t 33), none⟩, ⟨some 35, .slc 0 (.t 30) (some (.t 31)) (some (.t 34)) none, none⟩, ⟨some 36, .build [.x (.int .i64 (0)), .x (.str [])] [(0, 1, (.t 29)), (1, 1, (.t 35))], none⟩, ⟨some 37, .mv (.t 7), none⟩, ⟨some 38, .mv (.t 6), none⟩, ⟨some 39, .bin .add (.t 37) (.t 38), none⟩, ⟨none, .sto 2 (.t 2) (.t 36), none⟩, ⟨some 3, .mv (.t 39), none⟩, ⟨some 4, .mv (.c (.x (.int .i64 (0)))), none⟩])
  .ret))))⟩
theorem c18 : compFn Try.prog Try.f18 = some i18 := by kernel_rfl
/-- bothy/bothyref01.Read -/
def i19 : IFn := ⟨40, [.cell 2 2 true, .tmp 3, .tmp 4], (.seq (.reg [⟨some 2, .box (.c (.agg [.x (.int .i64 (0)), .x (.str [])])), none⟩, ⟨some 3, .mv (.c (.x (.int .i64 (0)))), none⟩, ⟨some 4, .mv (.c (.x (.int .i64 (0)))), none⟩])
  (.seq (.reg [⟨some 10, .mv (.t 0), none⟩, ⟨some 11, .call (.c (.fn 17 [])) [(.t 10)], none⟩, ⟨some 9, .mv (.t 11), none⟩, ⟨some 12, .ext (.t 9) 0, none⟩, ⟨some 13, .ext (.t 9) 1, none⟩, ⟨some 14, .ext (.t 9) 2, none⟩, ⟨some 15, .ext (.t 9) 3, none⟩, ⟨some 5, .mv (.t 12), none⟩, ⟨some 6, .mv (.t 13), none⟩, ⟨some 7, .mv (.t 14), none⟩, ⟨some 8, .mv (.t 15), none⟩])
  (.seq (.block 0
    (.seq (.reg [⟨some 17, .mv (.t 8), none⟩, ⟨some 18, .bin .neq (.t 17) (.c (.x (.int .i64 (0)))), none⟩, ⟨some 16, .mv (.t 18), none⟩])
    (.cond (.t 16)
      (.seq (.reg [⟨some 19, .build [.x (.int .i64 (0)), .x (.str [])] [], none⟩, ⟨some 20, .mv (.t 8), none⟩, ⟨none, .sto 2 (.t 2) (.t 19), none⟩, ⟨some 3, .mv (.c (.x (.int .i64 (0)))), none⟩, ⟨some 4, .mv (.t 20), none⟩])
      .ret)
      (.seq (.reg [⟨some 22, .mv (.t 0), none⟩, ⟨some 23, .len true (.t 22), none⟩, ⟨some 24, .mv (.t 7), none⟩, ⟨some 25, .bin .sub (.t 23) (.t 24), none⟩, ⟨some 26, .mv (.t 6), none⟩, ⟨some 27, .bin .lss (.t 25) (.t 26), none⟩, ⟨some 21, .mv (.t 27), none⟩])
      (.cond (.t 21)
        (.seq (.reg [⟨some 28, .build [.x (.int .i64 (0)), .x (.str [])] [], none⟩, ⟨none, .sto 2 (.t 2) (.t 28), none⟩, ⟨some 3, .mv (.c (.x (.int .i64 (0)))), none⟩, ⟨some 4, .mv (.c (.x (.int .i64 (4)))), none⟩])
        .ret)
        .skip)))))
  (.seq (.reg [⟨some 29, .mv (.t 5), none⟩, ⟨some 30, .mv (.t 0), none⟩, ⟨some 31, .mv (.t 7), none⟩, ⟨some 32, .mv (.t 7), none⟩, ⟨some 33, .mv (.t 6), none⟩, ⟨some 34, .bin .add (.t 32) (.t 33), none⟩, ⟨some 35, .slc 0 (.t 30) (some (.t 31)) (some (.t 34)) none, none⟩, ⟨some 36, .build [.x (.int .i64 (0)), .x (.str [])] [(0, 1, (.t 29)), (1, 1, (.t 35))], none⟩, ⟨some 37, .mv (.t 7), none⟩, ⟨some 38, .mv (.t 6), none⟩, ⟨some 39, .bin .add (.t 37) (.t 38), none⟩, ⟨none, .sto 2 (.t 2) (.t 36), none⟩, ⟨some 3, .mv (.t 39), none⟩, ⟨some 4, .mv (.c (.x (.int .i64 (0)))), none⟩])
  .ret))))⟩
theorem c19 : compFn Try.prog Try.f19 = some i19 := by kernel_rfl
/-- bothy/ber.All -/
def i20 : IFn := ⟨32, [.tmp 2, .tmp 3], (.seq (.reg [⟨some 2, .mv (.c (.x .nils)), none⟩, ⟨some 3, .mv (.c (.x (.int .i64 (0)))), none⟩])
  (.seq (.reg [⟨some 4, .mv (.c (.x .nils)), none⟩])
  (.seq (.block 0
    (.loop
      (.seq (.seq (.reg [⟨some 8, .mv (.t 0), none⟩, ⟨some 9, .bin .neq (.t 8) (.c (.x (.str []))), none⟩])
      (.cond (.t 9)
        .skip
        (.exit 0)))
      (.block 1
        (.seq (.reg [⟨some 11, .mv (.t 0), none⟩, ⟨some 12, .call (.c (.fn 18 [])) [(.t 11)], none⟩, ⟨some 10, .mv (.t 12), none⟩, ⟨some 13, .ext (.t 10) 0, none⟩, ⟨some 14, .ext (.t 10) 1, none⟩, ⟨some 15, .ext (.t 10) 2, none⟩, ⟨some 5, .box (.c (.agg [.x (.int .i64 (0)), .x (.str [])])), none⟩, ⟨none, .sto 2 (.t 5) (.t 13), none⟩, ⟨some 6, .mv (.t 14), none⟩, ⟨some 7, .mv (.t 15), none⟩])
        (.seq (.block 2
          (.seq (.reg [⟨some 17, .mv (.t 7), none⟩, ⟨some 18, .bin .neq (.t 17) (.c (.x (.int .i64 (0)))), none⟩, ⟨some 16, .mv (.t 18), none⟩])
          (.cond (.t 16)
            (.seq (.reg [⟨some 19, .mv (.t 7), none⟩, ⟨some 2, .mv (.c (.x .nils)), none⟩, ⟨some 3, .mv (.t 19), none⟩])
            .ret)
            (.seq (.reg [⟨some 21, .mv (.t 4), none⟩, ⟨some 22, .len false (.t 21), none⟩, ⟨some 23, .bin .eql (.t 22) (.c (.x (.int .i64 (1024)))), none⟩, ⟨some 20, .mv (.t 23), none⟩])
            (.cond (.t 20)
              (.seq (.reg [⟨some 2, .mv (.c (.x .nils)), none⟩, ⟨some 3, .mv (.c (.x (.int .i64 (3)))), none⟩])
              .ret)
              .skip)))))
        (.seq (.reg [⟨some 24, .mv (.t 4), none⟩, ⟨some 25, .ld 2 true (.t 5), none⟩, ⟨some 26, .bsl 34 2 1 [(.t 25)], none⟩, ⟨some 27, .app 34 2 24 (.t 24) (.t 26), none⟩, ⟨some 4, .mv (.t 27), none⟩])
        (.reg [⟨some 28, .mv (.t 0), none⟩, ⟨some 29, .mv (.t 6), none⟩, ⟨some 30, .slc 0 (.t 28) (some (.t 29)) none none, none⟩, ⟨some 0, .mv (.t 30), none⟩]))))))))
  (.seq (.reg [⟨some 31, .mv (.t 4), none⟩, ⟨some 2, .mv (.t 31), none⟩, ⟨some 3, .mv (.c (.x (.int .i64 (0)))), none⟩])
  .ret))))⟩
theorem c20 : compFn Try.prog Try.f20 = some i20 := by kernel_rfl
/-- bothy/bothyref01.All -/
def i21 : IFn := ⟨30, [.tmp 2, .tmp 3], (.seq (.reg [⟨some 2, .mv (.c (.x .nils)), none⟩, ⟨some 3, .mv (.c (.x (.int .i64 (0)))), none⟩])
  (.seq (.reg [⟨some 4, .mv (.c (.x .nils)), none⟩])
  (.seq (.block 0
    (.loop
      (.seq (.seq (.reg [⟨some 8, .mv (.t 0), none⟩, ⟨some 9, .bin .neq (.t 8) (.c (.x (.str []))), none⟩])
      (.cond (.t 9)
        .skip
        (.exit 0)))
      (.block 1
        (.seq (.reg [⟨some 11, .mv (.t 0), none⟩, ⟨some 12, .call (.c (.fn 19 [])) [(.t 11)], none⟩, ⟨some 10, .mv (.t 12), none⟩, ⟨some 13, .ext (.t 10) 0, none⟩, ⟨some 14, .ext (.t 10) 1, none⟩, ⟨some 15, .ext (.t 10) 2, none⟩, ⟨some 5, .box (.c (.agg [.x (.int .i64 (0)), .x (.str [])])), none⟩, ⟨none, .sto 2 (.t 5) (.t 13), none⟩, ⟨some 6, .mv (.t 14), none⟩, ⟨some 7, .mv (.t 15), none⟩])
        (.seq (.seq (.reg [⟨some 16, .mv (.t 7), none⟩, ⟨some 17, .bin .neq (.t 16) (.c (.x (.int .i64 (0)))), none⟩])
        (.cond (.t 17)
          (.seq (.reg [⟨some 18, .mv (.t 7), none⟩, ⟨some 2, .mv (.c (.x .nils)), none⟩, ⟨some 3, .mv (.t 18), none⟩])
          .ret)
          .skip))
        (.seq (.seq (.reg [⟨some 19, .mv (.t 4), none⟩, ⟨some 20, .len false (.t 19), none⟩, ⟨some 21, .bin .eql (.t 20) (.c (.x (.int .i64 (1024)))), none⟩])
        (.cond (.t 21)
          (.seq (.reg [⟨some 2, .mv (.c (.x .nils)), none⟩, ⟨some 3, .mv (.c (.x (.int .i64 (3)))), none⟩])
          .ret)
          .skip))
        (.seq (.reg [⟨some 22, .mv (.t 4), none⟩, ⟨some 23, .ld 2 true (.t 5), none⟩, ⟨some 24, .bsl 34 2 1 [(.t 23)], none⟩, ⟨some 25, .app 34 2 24 (.t 22) (.t 24), none⟩, ⟨some 4, .mv (.t 25), none⟩])
        (.reg [⟨some 26, .mv (.t 0), none⟩, ⟨some 27, .mv (.t 6), none⟩, ⟨some 28, .slc 0 (.t 26) (some (.t 27)) none none, none⟩, ⟨some 0, .mv (.t 28), none⟩])))))))))
  (.seq (.reg [⟨some 29, .mv (.t 4), none⟩, ⟨some 2, .mv (.t 29), none⟩, ⟨some 3, .mv (.c (.x (.int .i64 (0)))), none⟩])
  .ret))))⟩
theorem c21 : compFn Try.prog Try.f21 = some i21 := by kernel_rfl
/-- bothy/bothyref01.Same -/
def i22 : IFn := ⟨26, [.tmp 4], (.seq (.reg [⟨some 4, .mv (.c (.x (.bool false))), none⟩])
  (.seq (.seq (.reg [⟨some 6, .mv (.t 0), none⟩, ⟨some 7, .len false (.t 6), none⟩, ⟨some 8, .mv (.t 1), none⟩, ⟨some 9, .len false (.t 8), none⟩, ⟨some 10, .bin .neq (.t 7) (.t 9), none⟩])
  (.cond (.t 10)
    (.seq (.reg [⟨some 4, .mv (.c (.x (.bool false))), none⟩])
    .ret)
    .skip))
  (.seq (.seq (.reg [⟨some 5, .mv (.c (.x (.int .i64 (0)))), none⟩])
  (.block 0
    (.loop
      (.seq (.seq (.reg [⟨some 11, .mv (.t 5), none⟩, ⟨some 12, .mv (.t 0), none⟩, ⟨some 13, .len false (.t 12), none⟩, ⟨some 14, .bin .lss (.t 11) (.t 13), none⟩])
      (.cond (.t 14)
        .skip
        (.exit 0)))
      (.seq (.block 1
        (.seq (.dreg 8 [] [⟨some 17, .mv (.t 0), none⟩, ⟨some 18, .mv (.t 5), none⟩, ⟨some 19, .iad 2 (.t 17) (.t 18), none⟩, ⟨some 20, .ld 2 true (.t 19), none⟩, ⟨some 21, .mv (.t 1), none⟩, ⟨some 22, .mv (.t 5), none⟩, ⟨some 23, .iad 2 (.t 21) (.t 22), none⟩, ⟨some 24, .ld 2 true (.t 23), none⟩, ⟨some 25, .eq (.st [(0, .int .i64), (1, .str)]) true (.t 20) (.t 24), none⟩])
        (.cond (.t 25)
          (.seq (.reg [⟨some 4, .mv (.c (.x (.bool false))), none⟩])
          .ret)
          .skip)))
      (.reg [⟨some 15, .mv (.t 5), none⟩, ⟨some 16, .bin .add (.t 15) (.c (.x (.int .i64 (1)))), none⟩, ⟨some 5, .mv (.t 16), none⟩]))))))
  (.seq (.reg [⟨some 4, .mv (.c (.x (.bool true))), none⟩])
  .ret))))⟩
theorem c22 : compFn Try.prog Try.f22 = some i22 := by kernel_rfl
/-- bothy/bothylaw04.awake -/
def i23 : IFn := ⟨83, [.tmp 0], (.seq (.reg [⟨some 0, .mv (.c (.x (.bool false))), none⟩])
  (.seq (.reg [⟨some 14, .call (.c (.fn 24 [])) [(.c (.x (.int .i64 (100))))], none⟩, ⟨some 13, .mv (.t 14), none⟩, ⟨some 15, .ext (.t 13) 0, none⟩, ⟨some 16, .ext (.t 13) 1, none⟩, ⟨some 1, .mv (.t 15), none⟩, ⟨some 2, .mv (.t 16), none⟩])
  (.seq (.reg [⟨some 18, .call (.c (.fn 24 [])) [(.c (.x (.int .i64 (0))))], none⟩, ⟨some 17, .mv (.t 18), none⟩, ⟨some 19, .ext (.t 17) 0, none⟩, ⟨some 20, .ext (.t 17) 1, none⟩, ⟨some 3, .mv (.t 19), none⟩, ⟨some 4, .mv (.t 20), none⟩])
  (.seq (.seq (.reg [⟨some 21, .mv (.t 1), none⟩, ⟨some 22, .eq .ptr false (.t 21) (.c (.x .nilp)), none⟩])
  (.cond (.t 22)
    (.seq (.reg [⟨some 0, .mv (.c (.x (.bool false))), none⟩])
    .ret)
    .skip))
  (.seq (.reg [⟨some 23, .mv (.t 1), none⟩, ⟨some 24, .call (.c (.fn 25 [])) [(.t 23), (.c (.x (.str [48, 0, 48])))], none⟩])
  (.seq (.reg [⟨some 26, .mv (.t 1), none⟩, ⟨some 27, .call (.c (.fn 27 [])) [(.t 26)], none⟩, ⟨some 25, .mv (.t 27), none⟩, ⟨some 28, .ext (.t 25) 0, none⟩, ⟨some 29, .ext (.t 25) 1, none⟩, ⟨some 5, .mv (.t 28), none⟩, ⟨some 6, .mv (.t 29), none⟩])
  (.seq (.reg [⟨some 31, .mv (.t 1), none⟩, ⟨some 32, .call (.c (.fn 27 [])) [(.t 31)], none⟩, ⟨some 30, .mv (.t 32), none⟩, ⟨some 33, .ext (.t 30) 0, none⟩, ⟨some 34, .ext (.t 30) 1, none⟩, ⟨some 7, .mv (.t 33), none⟩, ⟨some 8, .mv (.t 34), none⟩])
  (.seq (.reg [⟨some 35, .mv (.t 1), none⟩, ⟨some 36, .call (.c (.fn 30 [])) [(.t 35)], none⟩, ⟨some 37, .mv (.t 1), none⟩, ⟨some 38, .call (.c (.fn 29 [])) [(.t 37)], none⟩, ⟨some 9, .mv (.t 36), none⟩, ⟨some 10, .mv (.t 38), none⟩])
  (.seq (.reg [⟨some 39, .mv (.t 1), none⟩, ⟨some 40, .call (.c (.fn 25 [])) [(.t 39), (.c (.x (.str [1, 5, 49])))], none⟩])
  (.seq (.reg [⟨some 42, .mv (.t 1), none⟩, ⟨some 43, .call (.c (.fn 27 [])) [(.t 42)], none⟩, ⟨some 41, .mv (.t 43), none⟩, ⟨some 44, .ext (.t 41) 0, none⟩, ⟨some 45, .ext (.t 41) 1, none⟩, ⟨some 11, .mv (.t 44), none⟩, ⟨some 12, .mv (.t 45), none⟩])
  (.seq (.reg [⟨some 46, .mv (.t 2), none⟩, ⟨some 47, .bin .eql (.t 46) (.c (.x (.int .i64 (0)))), none⟩, ⟨some 48, .mv (.t 47), none⟩, ⟨some 49, .mv (.t 4), (some (48, true))⟩, ⟨some 50, .bin .eql (.t 49) (.c (.x (.int .i64 (1)))), (some (48, true))⟩, ⟨some 51, .pick (.t 48) (.t 50) (.c (.x (.bool false))), none⟩, ⟨some 52, .mv (.t 51), none⟩, ⟨some 53, .mv (.t 5), (some (52, true))⟩, ⟨some 54, .bin .eql (.t 53) (.c (.x (.str [48, 0]))), (some (52, true))⟩, ⟨some 55, .pick (.t 52) (.t 54) (.c (.x (.bool false))), none⟩, ⟨some 56, .mv (.t 55), none⟩, ⟨some 57, .mv (.t 6), (some (56, true))⟩, ⟨some 58, .pick (.t 56) (.t 57) (.c (.x (.bool false))), none⟩, ⟨some 59, .mv (.t 58), none⟩, ⟨some 60, .mv (.t 8), (some (59, true))⟩, ⟨some 61, .un .not (.t 60), (some (59, true))⟩, ⟨some 62, .pick (.t 59) (.t 61) (.c (.x (.bool false))), none⟩, ⟨some 63, .mv (.t 62), none⟩, ⟨some 64, .mv (.t 9), (some (63, true))⟩, ⟨some 65, .bin .eql (.t 64) (.c (.x (.int .i64 (1)))), (some (63, true))⟩, ⟨some 66, .pick (.t 63) (.t 65) (.c (.x (.bool false))), none⟩, ⟨some 67, .mv (.t 66), none⟩, ⟨some 68, .mv (.t 10), (some (67, true))⟩, ⟨some 69, .bin .eql (.t 68) (.c (.x (.int .i64 (0)))), (some (67, true))⟩, ⟨some 70, .pick (.t 67) (.t 69) (.c (.x (.bool false))), none⟩, ⟨some 71, .mv (.t 70), none⟩, ⟨some 72, .mv (.t 11), (some (71, true))⟩, ⟨some 73, .bin .eql (.t 72) (.c (.x (.str [48, 1, 5]))), (some (71, true))⟩, ⟨some 74, .pick (.t 71) (.t 73) (.c (.x (.bool false))), none⟩, ⟨some 75, .mv (.t 74), none⟩, ⟨some 76, .mv (.t 12), (some (75, true))⟩, ⟨some 77, .pick (.t 75) (.t 76) (.c (.x (.bool false))), none⟩, ⟨some 78, .mv (.t 77), none⟩, ⟨some 79, .mv (.t 1), (some (78, true))⟩, ⟨some 80, .call (.c (.fn 29 [])) [(.t 79)], (some (78, true))⟩, ⟨some 81, .bin .eql (.t 80) (.c (.x (.int .i64 (6)))), (some (78, true))⟩, ⟨some 82, .pick (.t 78) (.t 81) (.c (.x (.bool false))), none⟩, ⟨some 0, .mv (.t 82), none⟩])
  .ret)))))))))))⟩
theorem c23 : compFn Try.prog Try.f23 = some i23 := by kernel_rfl
/-- bothy/frame.New -/
def i24 : IFn := ⟨13, [.tmp 2, .tmp 3], (.seq (.reg [⟨some 2, .mv (.c (.x .nilp)), none⟩, ⟨some 3, .mv (.c (.x (.int .i64 (0)))), none⟩])
  (.seq (.seq (.reg [⟨some 4, .mv (.t 0), none⟩, ⟨some 5, .bin .lss (.t 4) (.c (.x (.int .i64 (1)))), none⟩, ⟨some 6, .mv (.t 5), none⟩, ⟨some 7, .mv (.t 0), (some (6, false))⟩, ⟨some 8, .bin .gtr (.t 7) (.c (.x (.int .i64 (65536)))), (some (6, false))⟩, ⟨some 9, .pick (.t 6) (.c (.x (.bool true))) (.t 8), none⟩])
  (.cond (.t 9)
    (.seq (.reg [⟨some 2, .mv (.c (.x .nilp)), none⟩, ⟨some 3, .mv (.c (.x (.int .i64 (1)))), none⟩])
    .ret)
    .skip))
  (.seq (.reg [⟨some 10, .mv (.t 0), none⟩, ⟨some 11, .build [.x (.int .i64 (0)), .x .nils, .x (.int .i64 (0))] [(0, 1, (.t 10))], none⟩, ⟨some 12, .box (.t 11), none⟩, ⟨some 2, .mv (.t 12), none⟩, ⟨some 3, .mv (.c (.x (.int .i64 (0)))), none⟩])
  .ret)))⟩
theorem c24 : compFn Try.prog Try.f24 = some i24 := by kernel_rfl
/-- (*bothy/frame.Framer).Feed -/
def i25 : IFn := ⟨44, [], (.seq (.seq (.reg [⟨some 5, .mv (.t 0), none⟩, ⟨some 6, .eq .ptr false (.t 5) (.c (.x .nilp)), none⟩, ⟨some 7, .mv (.t 6), none⟩, ⟨some 8, .mv (.t 0), (some (7, false))⟩, ⟨some 9, .nck (.t 8), (some (7, false))⟩, ⟨some 10, .fad 2 (.t 9), (some (7, false))⟩, ⟨some 11, .ld 1 false (.t 10), (some (7, false))⟩, ⟨some 12, .bin .neq (.t 11) (.c (.x (.int .i64 (0)))), (some (7, false))⟩, ⟨some 13, .pick (.t 7) (.c (.x (.bool true))) (.t 12), none⟩])
  (.cond (.t 13)
    .ret
    .skip))
  (.seq (.reg [⟨some 14, .mv (.t 0), none⟩, ⟨some 15, .nck (.t 14), none⟩, ⟨some 16, .fad 1 (.t 15), none⟩, ⟨some 17, .ld 1 false (.t 16), none⟩, ⟨some 18, .len false (.t 17), none⟩, ⟨some 19, .mv (.t 1), none⟩, ⟨some 20, .len true (.t 19), none⟩, ⟨some 21, .bin .add (.t 18) (.t 20), none⟩, ⟨some 22, .mks 5 1 1 [(.int .u8 (0))] (.t 21) (.t 21), none⟩, ⟨some 4, .mv (.t 22), none⟩])
  (.seq (.reg [⟨some 23, .mv (.t 4), none⟩, ⟨some 24, .mv (.t 0), none⟩, ⟨some 25, .nck (.t 24), none⟩, ⟨some 26, .fad 1 (.t 25), none⟩, ⟨some 27, .ld 1 false (.t 26), none⟩, ⟨some 28, .cpy 1 (.t 23) (.t 27), none⟩])
  (.seq (.reg [⟨some 29, .mv (.t 4), none⟩, ⟨some 30, .mv (.t 0), none⟩, ⟨some 31, .nck (.t 30), none⟩, ⟨some 32, .fad 1 (.t 31), none⟩, ⟨some 33, .ld 1 false (.t 32), none⟩, ⟨some 34, .len false (.t 33), none⟩, ⟨some 35, .slc 1 (.t 29) (some (.t 34)) none none, none⟩, ⟨some 36, .mv (.t 1), none⟩, ⟨some 37, .cpy 1 (.t 35) (.t 36), none⟩])
  (.seq (.reg [⟨some 38, .mv (.t 0), none⟩, ⟨some 39, .mv (.t 4), none⟩, ⟨some 40, .nck (.t 38), none⟩, ⟨some 41, .fad 1 (.t 40), none⟩, ⟨none, .sto 1 (.t 41) (.t 39), none⟩])
  (.reg [⟨some 42, .mv (.t 0), none⟩, ⟨some 43, .call (.c (.fn 47 [])) [(.t 42)], none⟩]))))))⟩
theorem c25 : compFn Try.prog Try.f25 = some i25 := by kernel_rfl
/-- (bothy/bothyref04.F).Feed -/
def i26 : IFn := ⟨16, [.cell 4 3 true], (.seq (.reg [⟨some 2, .box (.t 0), none⟩, ⟨some 4, .box (.c (.agg [.x (.int .i64 (0)), .x (.str []), .x (.int .i64 (0))])), none⟩])
  (.seq (.seq (.reg [⟨some 5, .fad 2 (.t 2), none⟩, ⟨some 6, .ld 1 false (.t 5), none⟩, ⟨some 7, .bin .neq (.t 6) (.c (.x (.int .i64 (0)))), none⟩])
  (.cond (.t 7)
    (.seq (.reg [⟨some 8, .ld 3 true (.t 2), none⟩, ⟨none, .sto 3 (.t 4) (.t 8), none⟩])
    .ret)
    .skip))
  (.seq (.reg [⟨some 9, .fad 1 (.t 2), none⟩, ⟨some 10, .ld 1 false (.t 9), none⟩, ⟨some 11, .mv (.t 1), none⟩, ⟨some 12, .bin .add (.t 10) (.t 11), none⟩, ⟨some 13, .fad 1 (.t 2), none⟩, ⟨none, .sto 1 (.t 13) (.t 12), none⟩])
  (.seq (.reg [⟨some 14, .ld 3 true (.t 2), none⟩, ⟨some 15, .call (.c (.fn 48 [])) [(.t 14)], none⟩, ⟨none, .sto 3 (.t 4) (.t 15), none⟩])
  .ret))))⟩
theorem c26 : compFn Try.prog Try.f26 = some i26 := by kernel_rfl
/-- (*bothy/frame.Framer).Next -/
def i27 : IFn := ⟨48, [.tmp 2, .tmp 3], (.seq (.reg [⟨some 2, .mv (.c (.x (.str []))), none⟩, ⟨some 3, .mv (.c (.x (.bool false))), none⟩])
  (.seq (.seq (.reg [⟨some 8, .mv (.t 0), none⟩, ⟨some 9, .eq .ptr false (.t 8) (.c (.x .nilp)), none⟩, ⟨some 10, .mv (.t 9), none⟩, ⟨some 11, .mv (.t 0), (some (10, false))⟩, ⟨some 12, .nck (.t 11), (some (10, false))⟩, ⟨some 13, .fad 2 (.t 12), (some (10, false))⟩, ⟨some 14, .ld 1 false (.t 13), (some (10, false))⟩, ⟨some 15, .bin .neq (.t 14) (.c (.x (.int .i64 (0)))), (some (10, false))⟩, ⟨some 16, .pick (.t 10) (.c (.x (.bool true))) (.t 15), none⟩])
  (.cond (.t 16)
    (.seq (.reg [⟨some 2, .mv (.c (.x (.str []))), none⟩, ⟨some 3, .mv (.c (.x (.bool false))), none⟩])
    .ret)
    .skip))
  (.seq (.reg [⟨some 18, .mv (.t 0), none⟩, ⟨some 19, .nck (.t 18), none⟩, ⟨some 20, .fad 1 (.t 19), none⟩, ⟨some 21, .ld 1 false (.t 20), none⟩, ⟨some 22, .b2s (.t 21), none⟩, ⟨some 23, .call (.c (.fn 18 [])) [(.t 22)], none⟩, ⟨some 17, .mv (.t 23), none⟩, ⟨some 24, .ext (.t 17) 0, none⟩, ⟨some 25, .ext (.t 17) 1, none⟩, ⟨some 26, .ext (.t 17) 2, none⟩, ⟨some 4, .box (.c (.agg [.x (.int .i64 (0)), .x (.str [])])), none⟩, ⟨none, .sto 2 (.t 4) (.t 24), none⟩, ⟨some 5, .mv (.t 25), none⟩, ⟨some 6, .mv (.t 26), none⟩])
  (.seq (.seq (.reg [⟨some 27, .mv (.t 6), none⟩, ⟨some 28, .bin .neq (.t 27) (.c (.x (.int .i64 (0)))), none⟩])
  (.cond (.t 28)
    (.seq (.reg [⟨some 2, .mv (.c (.x (.str []))), none⟩, ⟨some 3, .mv (.c (.x (.bool false))), none⟩])
    .ret)
    .skip))
  (.seq (.reg [⟨some 29, .mv (.t 0), none⟩, ⟨some 30, .nck (.t 29), none⟩, ⟨some 31, .fad 1 (.t 30), none⟩, ⟨some 32, .ld 1 false (.t 31), none⟩, ⟨some 33, .mv (.t 5), none⟩, ⟨some 34, .slc 1 (.t 32) none (some (.t 33)) none, none⟩, ⟨some 35, .b2s (.t 34), none⟩, ⟨some 7, .mv (.t 35), none⟩])
  (.seq (.reg [⟨some 36, .mv (.t 0), none⟩, ⟨some 37, .mv (.t 0), none⟩, ⟨some 38, .nck (.t 37), none⟩, ⟨some 39, .fad 1 (.t 38), none⟩, ⟨some 40, .ld 1 false (.t 39), none⟩, ⟨some 41, .mv (.t 5), none⟩, ⟨some 42, .slc 1 (.t 40) (some (.t 41)) none none, none⟩, ⟨some 43, .nck (.t 36), none⟩, ⟨some 44, .fad 1 (.t 43), none⟩, ⟨none, .sto 1 (.t 44) (.t 42), none⟩])
  (.seq (.reg [⟨some 45, .mv (.t 0), none⟩, ⟨some 46, .call (.c (.fn 47 [])) [(.t 45)], none⟩])
  (.seq (.reg [⟨some 47, .mv (.t 7), none⟩, ⟨some 2, .mv (.t 47), none⟩, ⟨some 3, .mv (.c (.x (.bool true))), none⟩])
  .ret))))))))⟩
theorem c27 : compFn Try.prog Try.f27 = some i27 := by kernel_rfl
/-- (bothy/bothyref04.F).Next -/
def i28 : IFn := ⟨37, [.cell 2 3 true, .tmp 3, .tmp 4], (.seq (.reg [⟨some 1, .box (.t 0), none⟩, ⟨some 2, .box (.c (.agg [.x (.int .i64 (0)), .x (.str []), .x (.int .i64 (0))])), none⟩, ⟨some 3, .mv (.c (.x (.str []))), none⟩, ⟨some 4, .mv (.c (.x (.bool false))), none⟩])
  (.seq (.reg [⟨some 9, .ld 3 true (.t 1), none⟩, ⟨some 10, .call (.c (.fn 48 [])) [(.t 9)], none⟩, ⟨none, .sto 3 (.t 1) (.t 10), none⟩])
  (.seq (.seq (.reg [⟨some 11, .fad 2 (.t 1), none⟩, ⟨some 12, .ld 1 false (.t 11), none⟩, ⟨some 13, .bin .neq (.t 12) (.c (.x (.int .i64 (0)))), none⟩])
  (.cond (.t 13)
    (.seq (.reg [⟨some 14, .ld 3 true (.t 1), none⟩, ⟨none, .sto 3 (.t 2) (.t 14), none⟩, ⟨some 3, .mv (.c (.x (.str []))), none⟩, ⟨some 4, .mv (.c (.x (.bool false))), none⟩])
    .ret)
    .skip))
  (.seq (.reg [⟨some 16, .fad 1 (.t 1), none⟩, ⟨some 17, .ld 1 false (.t 16), none⟩, ⟨some 18, .call (.c (.fn 19 [])) [(.t 17)], none⟩, ⟨some 15, .mv (.t 18), none⟩, ⟨some 19, .ext (.t 15) 0, none⟩, ⟨some 20, .ext (.t 15) 1, none⟩, ⟨some 21, .ext (.t 15) 2, none⟩, ⟨some 5, .box (.c (.agg [.x (.int .i64 (0)), .x (.str [])])), none⟩, ⟨none, .sto 2 (.t 5) (.t 19), none⟩, ⟨some 6, .mv (.t 20), none⟩, ⟨some 7, .mv (.t 21), none⟩])
  (.seq (.seq (.reg [⟨some 22, .mv (.t 7), none⟩, ⟨some 23, .bin .neq (.t 22) (.c (.x (.int .i64 (0)))), none⟩])
  (.cond (.t 23)
    (.seq (.reg [⟨some 24, .ld 3 true (.t 1), none⟩, ⟨none, .sto 3 (.t 2) (.t 24), none⟩, ⟨some 3, .mv (.c (.x (.str []))), none⟩, ⟨some 4, .mv (.c (.x (.bool false))), none⟩])
    .ret)
    .skip))
  (.seq (.reg [⟨some 25, .fad 1 (.t 1), none⟩, ⟨some 26, .ld 1 false (.t 25), none⟩, ⟨some 27, .mv (.t 6), none⟩, ⟨some 28, .slc 0 (.t 26) none (some (.t 27)) none, none⟩, ⟨some 8, .mv (.t 28), none⟩])
  (.seq (.reg [⟨some 29, .fad 1 (.t 1), none⟩, ⟨some 30, .ld 1 false (.t 29), none⟩, ⟨some 31, .mv (.t 6), none⟩, ⟨some 32, .slc 0 (.t 30) (some (.t 31)) none none, none⟩, ⟨some 33, .fad 1 (.t 1), none⟩, ⟨none, .sto 1 (.t 33) (.t 32), none⟩])
  (.seq (.reg [⟨some 34, .ld 3 true (.t 1), none⟩, ⟨some 35, .call (.c (.fn 48 [])) [(.t 34)], none⟩, ⟨some 36, .mv (.t 8), none⟩, ⟨none, .sto 3 (.t 2) (.t 35), none⟩, ⟨some 3, .mv (.t 36), none⟩, ⟨some 4, .mv (.c (.x (.bool true))), none⟩])
  .ret))))))))⟩
theorem c28 : compFn Try.prog Try.f28 = some i28 := by kernel_rfl
/-- (*bothy/frame.Framer).Err -/
def i29 : IFn := ⟨9, [.tmp 2], (.seq (.reg [⟨some 2, .mv (.c (.x (.int .i64 (0)))), none⟩])
  (.seq (.seq (.reg [⟨some 3, .mv (.t 0), none⟩, ⟨some 4, .eq .ptr false (.t 3) (.c (.x .nilp)), none⟩])
  (.cond (.t 4)
    (.seq (.reg [⟨some 2, .mv (.c (.x (.int .i64 (12)))), none⟩])
    .ret)
    .skip))
  (.seq (.reg [⟨some 5, .mv (.t 0), none⟩, ⟨some 6, .nck (.t 5), none⟩, ⟨some 7, .fad 2 (.t 6), none⟩, ⟨some 8, .ld 1 false (.t 7), none⟩, ⟨some 2, .mv (.t 8), none⟩])
  .ret)))⟩
theorem c29 : compFn Try.prog Try.f29 = some i29 := by kernel_rfl
/-- (*bothy/frame.Framer).Left -/
def i30 : IFn := ⟨10, [.tmp 2], (.seq (.reg [⟨some 2, .mv (.c (.x (.int .i64 (0)))), none⟩])
  (.seq (.seq (.reg [⟨some 3, .mv (.t 0), none⟩, ⟨some 4, .eq .ptr false (.t 3) (.c (.x .nilp)), none⟩])
  (.cond (.t 4)
    (.seq (.reg [⟨some 2, .mv (.c (.x (.int .i64 (0)))), none⟩])
    .ret)
    .skip))
  (.seq (.reg [⟨some 5, .mv (.t 0), none⟩, ⟨some 6, .nck (.t 5), none⟩, ⟨some 7, .fad 1 (.t 6), none⟩, ⟨some 8, .ld 1 false (.t 7), none⟩, ⟨some 9, .len false (.t 8), none⟩, ⟨some 2, .mv (.t 9), none⟩])
  .ret)))⟩
theorem c30 : compFn Try.prog Try.f30 = some i30 := by kernel_rfl
/-- bothy/bothylaw04.messages -/
def i31 : IFn := ⟨22, [.tmp 2], (.seq (.reg [⟨some 2, .mv (.c (.x .nils)), none⟩])
  (.seq (.reg [⟨some 3, .mv (.c (.x .nils)), none⟩])
  (.seq (.block 0
    (.loop
      (.seq (.seq (.reg [⟨some 6, .mv (.t 3), none⟩, ⟨some 7, .len false (.t 6), none⟩, ⟨some 8, .bin .lss (.t 7) (.c (.x (.int .i64 (2000)))), none⟩])
      (.cond (.t 8)
        .skip
        (.exit 0)))
      (.block 1
        (.seq (.reg [⟨some 10, .mv (.t 0), none⟩, ⟨some 11, .call (.c (.fn 27 [])) [(.t 10)], none⟩, ⟨some 9, .mv (.t 11), none⟩, ⟨some 12, .ext (.t 9) 0, none⟩, ⟨some 13, .ext (.t 9) 1, none⟩, ⟨some 4, .mv (.t 12), none⟩, ⟨some 5, .mv (.t 13), none⟩])
        (.seq (.seq (.reg [⟨some 14, .mv (.t 5), none⟩, ⟨some 15, .un .not (.t 14), none⟩])
        (.cond (.t 15)
          (.seq (.reg [⟨some 16, .mv (.t 3), none⟩, ⟨some 2, .mv (.t 16), none⟩])
          .ret)
          .skip))
        (.reg [⟨some 17, .mv (.t 3), none⟩, ⟨some 18, .mv (.t 4), none⟩, ⟨some 19, .bsl 9 1 1 [(.t 18)], none⟩, ⟨some 20, .app 9 1 16 (.t 17) (.t 19), none⟩, ⟨some 3, .mv (.t 20), none⟩])))))))
  (.seq (.reg [⟨some 21, .mv (.t 3), none⟩, ⟨some 2, .mv (.t 21), none⟩])
  .ret))))⟩
theorem c31 : compFn Try.prog Try.f31 = some i31 := by kernel_rfl
/-- bothy/bothylaw03.awake -/
def i32 : IFn := ⟨81, [.tmp 0], (.seq (.reg [⟨some 0, .mv (.c (.x (.bool false))), none⟩])
  (.seq (.reg [⟨some 12, .bsl 9 1 2 [(.c (.x (.str [4, 1, 97]))), (.c (.x (.str [2, 1, 5])))], none⟩, ⟨some 13, .call (.c (.fn 37 [])) [(.t 12)], none⟩, ⟨some 11, .mv (.t 13), none⟩, ⟨some 14, .ext (.t 11) 0, none⟩, ⟨some 15, .ext (.t 11) 1, none⟩, ⟨some 1, .mv (.t 14), none⟩, ⟨some 2, .mv (.t 15), none⟩])
  (.seq (.reg [⟨some 17, .mv (.t 1), none⟩, ⟨some 18, .bsl 3 1 2 [(.c (.x (.int .i64 (4)))), (.c (.x (.int .i64 (2))))], none⟩, ⟨some 19, .call (.c (.fn 39 [])) [(.t 17), (.t 18)], none⟩, ⟨some 16, .mv (.t 19), none⟩, ⟨some 20, .ext (.t 16) 0, none⟩, ⟨some 21, .ext (.t 16) 1, none⟩, ⟨some 3, .mv (.t 20), none⟩, ⟨some 4, .mv (.t 21), none⟩])
  (.seq (.reg [⟨some 23, .mv (.t 1), none⟩, ⟨some 24, .bsl 3 1 1 [(.c (.x (.int .i64 (4))))], none⟩, ⟨some 25, .call (.c (.fn 39 [])) [(.t 23), (.t 24)], none⟩, ⟨some 22, .mv (.t 25), none⟩, ⟨some 26, .ext (.t 22) 0, none⟩, ⟨some 27, .ext (.t 22) 1, none⟩, ⟨some 5, .mv (.t 26), none⟩, ⟨some 6, .mv (.t 27), none⟩])
  (.seq (.reg [⟨some 29, .mv (.t 1), none⟩, ⟨some 30, .bsl 3 1 2 [(.c (.x (.int .i64 (4)))), (.c (.x (.int .i64 (4))))], none⟩, ⟨some 31, .call (.c (.fn 39 [])) [(.t 29), (.t 30)], none⟩, ⟨some 28, .mv (.t 31), none⟩, ⟨some 32, .ext (.t 28) 0, none⟩, ⟨some 33, .ext (.t 28) 1, none⟩, ⟨some 7, .mv (.t 32), none⟩, ⟨some 8, .mv (.t 33), none⟩])
  (.seq (.reg [⟨some 35, .call (.c (.fn 37 [])) [(.c (.x .nils))], none⟩, ⟨some 34, .mv (.t 35), none⟩, ⟨some 36, .ext (.t 34) 0, none⟩, ⟨some 37, .ext (.t 34) 1, none⟩, ⟨some 9, .mv (.t 36), none⟩, ⟨some 10, .mv (.t 37), none⟩])
  (.seq (.reg [⟨some 38, .mv (.t 1), none⟩, ⟨some 39, .bin .eql (.t 38) (.c (.x (.str [48, 6, 4, 1, 97, 2, 1, 5]))), none⟩, ⟨some 40, .mv (.t 39), none⟩, ⟨some 41, .mv (.t 2), (some (40, true))⟩, ⟨some 42, .bin .eql (.t 41) (.c (.x (.int .i64 (0)))), (some (40, true))⟩, ⟨some 43, .pick (.t 40) (.t 42) (.c (.x (.bool false))), none⟩, ⟨some 44, .mv (.t 43), none⟩, ⟨some 45, .mv (.t 3), (some (44, true))⟩, ⟨some 46, .bsl 9 1 2 [(.c (.x (.str [97]))), (.c (.x (.str [5])))], (some (44, true))⟩, ⟨some 47, .call (.c (.fn 41 [])) [(.t 45), (.t 46)], (some (44, true))⟩, ⟨some 48, .pick (.t 44) (.t 47) (.c (.x (.bool false))), none⟩, ⟨some 49, .mv (.t 48), none⟩, ⟨some 50, .mv (.t 4), (some (49, true))⟩, ⟨some 51, .bin .eql (.t 50) (.c (.x (.int .i64 (0)))), (some (49, true))⟩, ⟨some 52, .pick (.t 49) (.t 51) (.c (.x (.bool false))), none⟩, ⟨some 53, .mv (.t 52), none⟩, ⟨some 54, .mv (.t 6), (some (53, true))⟩, ⟨some 55, .bin .eql (.t 54) (.c (.x (.int .i64 (5)))), (some (53, true))⟩, ⟨some 56, .pick (.t 53) (.t 55) (.c (.x (.bool false))), none⟩, ⟨some 57, .mv (.t 56), none⟩, ⟨some 58, .mv (.t 8), (some (57, true))⟩, ⟨some 59, .bin .eql (.t 58) (.c (.x (.int .i64 (6)))), (some (57, true))⟩, ⟨some 60, .pick (.t 57) (.t 59) (.c (.x (.bool false))), none⟩, ⟨some 61, .mv (.t 60), none⟩, ⟨some 62, .mv (.t 9), (some (61, true))⟩, ⟨some 63, .call (.c (.fn 35 [])) [(.t 62)], (some (61, true))⟩, ⟨some 64, .bin .eql (.t 63) (.c (.x (.int .i64 (1)))), (some (61, true))⟩, ⟨some 65, .pick (.t 61) (.t 64) (.c (.x (.bool false))), none⟩, ⟨some 66, .mv (.t 65), none⟩, ⟨some 67, .mv (.t 1), (some (66, true))⟩, ⟨some 68, .call (.c (.fn 35 [])) [(.t 67)], (some (66, true))⟩, ⟨some 69, .bin .eql (.t 68) (.c (.x (.int .i64 (2)))), (some (66, true))⟩, ⟨some 70, .pick (.t 66) (.t 69) (.c (.x (.bool false))), none⟩, ⟨some 71, .mv (.t 70), none⟩, ⟨some 72, .mv (.t 1), (some (71, true))⟩, ⟨some 73, .call (.c (.fn 33 [])) [(.t 72), (.c (.x (.int .i64 (1))))], (some (71, true))⟩, ⟨some 74, .bin .eql (.t 73) (.c (.x (.int .i64 (7)))), (some (71, true))⟩, ⟨some 75, .pick (.t 71) (.t 74) (.c (.x (.bool false))), none⟩, ⟨some 76, .mv (.t 75), none⟩, ⟨some 77, .mv (.t 1), (some (76, true))⟩, ⟨some 78, .call (.c (.fn 33 [])) [(.t 77), (.c (.x (.int .i64 (2))))], (some (76, true))⟩, ⟨some 79, .bin .eql (.t 78) (.c (.x (.int .i64 (0)))), (some (76, true))⟩, ⟨some 80, .pick (.t 76) (.t 79) (.c (.x (.bool false))), none⟩, ⟨some 0, .mv (.t 80), none⟩])
  .ret)))))))⟩
theorem c32 : compFn Try.prog Try.f32 = some i32 := by kernel_rfl
/-- bothy/tree.Check -/
def i33 : IFn := ⟨21, [.tmp 4], (.seq (.reg [⟨some 4, .mv (.c (.x (.int .i64 (0)))), none⟩])
  (.seq (.seq (.reg [⟨some 7, .mv (.t 1), none⟩, ⟨some 8, .bin .lss (.t 7) (.c (.x (.int .i64 (1)))), none⟩])
  (.cond (.t 8)
    (.seq (.reg [⟨some 4, .mv (.c (.x (.int .i64 (7)))), none⟩])
    .ret)
    .skip))
  (.seq (.reg [⟨some 10, .mv (.t 0), none⟩, ⟨some 11, .call (.c (.fn 49 [])) [(.t 10)], none⟩, ⟨some 9, .mv (.t 11), none⟩, ⟨some 12, .ext (.t 9) 0, none⟩, ⟨some 13, .ext (.t 9) 1, none⟩, ⟨some 5, .box (.c (.agg [.x (.int .i64 (0)), .x (.str [])])), none⟩, ⟨none, .sto 2 (.t 5) (.t 12), none⟩, ⟨some 6, .mv (.t 13), none⟩])
  (.seq (.seq (.reg [⟨some 14, .mv (.t 6), none⟩, ⟨some 15, .bin .neq (.t 14) (.c (.x (.int .i64 (0)))), none⟩])
  (.cond (.t 15)
    (.seq (.reg [⟨some 16, .mv (.t 6), none⟩, ⟨some 4, .mv (.t 16), none⟩])
    .ret)
    .skip))
  (.seq (.reg [⟨some 17, .ld 2 true (.t 5), none⟩, ⟨some 18, .mv (.t 1), none⟩, ⟨some 19, .mnx false (.t 18) (.c (.x (.int .i64 (64)))), none⟩, ⟨some 20, .call (.c (.fn 50 [])) [(.t 17), (.t 19)], none⟩, ⟨some 4, .mv (.t 20), none⟩])
  .ret)))))⟩
theorem c33 : compFn Try.prog Try.f33 = some i33 := by kernel_rfl
/-- bothy/bothyref03.Check -/
def i34 : IFn := ⟨74, [.tmp 4], (.seq (.reg [⟨some 4, .mv (.c (.x (.int .i64 (0)))), none⟩])
  (.seq (.seq (.reg [⟨some 13, .mv (.t 1), none⟩, ⟨some 14, .bin .lss (.t 13) (.c (.x (.int .i64 (1)))), none⟩])
  (.cond (.t 14)
    (.seq (.reg [⟨some 4, .mv (.c (.x (.int .i64 (7)))), none⟩])
    .ret)
    .skip))
  (.seq (.reg [⟨some 15, .mv (.t 1), none⟩, ⟨some 16, .mnx false (.t 15) (.c (.x (.int .i64 (64)))), none⟩, ⟨some 1, .mv (.t 16), none⟩])
  (.seq (.reg [⟨some 18, .mv (.t 0), none⟩, ⟨some 19, .call (.c (.fn 19 [])) [(.t 18)], none⟩, ⟨some 17, .mv (.t 19), none⟩, ⟨some 20, .ext (.t 17) 0, none⟩, ⟨some 21, .ext (.t 17) 1, none⟩, ⟨some 22, .ext (.t 17) 2, none⟩, ⟨some 5, .box (.c (.agg [.x (.int .i64 (0)), .x (.str [])])), none⟩, ⟨none, .sto 2 (.t 5) (.t 20), none⟩, ⟨some 6, .mv (.t 21), none⟩, ⟨some 7, .mv (.t 22), none⟩])
  (.seq (.block 0
    (.seq (.reg [⟨some 24, .mv (.t 7), none⟩, ⟨some 25, .bin .neq (.t 24) (.c (.x (.int .i64 (0)))), none⟩, ⟨some 23, .mv (.t 25), none⟩])
    (.cond (.t 23)
      (.seq (.reg [⟨some 26, .mv (.t 7), none⟩, ⟨some 4, .mv (.t 26), none⟩])
      .ret)
      (.seq (.reg [⟨some 28, .mv (.t 6), none⟩, ⟨some 29, .mv (.t 0), none⟩, ⟨some 30, .len true (.t 29), none⟩, ⟨some 31, .bin .lss (.t 28) (.t 30), none⟩, ⟨some 27, .mv (.t 31), none⟩])
      (.cond (.t 27)
        (.seq (.reg [⟨some 4, .mv (.c (.x (.int .i64 (5)))), none⟩])
        .ret)
        (.seq (.reg [⟨some 33, .fad 0 (.t 5), none⟩, ⟨some 34, .ld 1 false (.t 33), none⟩, ⟨some 35, .bin .quo (.t 34) (.c (.x (.int .i64 (32)))), none⟩, ⟨some 36, .bin .rem (.t 35) (.c (.x (.int .i64 (2)))), none⟩, ⟨some 37, .bin .eql (.t 36) (.c (.x (.int .i64 (0)))), none⟩, ⟨some 32, .mv (.t 37), none⟩])
        (.cond (.t 32)
          (.seq (.reg [⟨some 4, .mv (.c (.x (.int .i64 (0)))), none⟩])
          .ret)
          .skip)))))))
  (.seq (.reg [⟨some 39, .fad 1 (.t 5), none⟩, ⟨some 40, .ld 1 false (.t 39), none⟩, ⟨some 41, .call (.c (.fn 21 [])) [(.t 40)], none⟩, ⟨some 38, .mv (.t 41), none⟩, ⟨some 42, .ext (.t 38) 0, none⟩, ⟨some 43, .ext (.t 38) 1, none⟩, ⟨some 8, .mv (.t 42), none⟩, ⟨some 7, .mv (.t 43), none⟩])
  (.seq (.seq (.reg [⟨some 44, .mv (.t 7), none⟩, ⟨some 45, .bin .neq (.t 44) (.c (.x (.int .i64 (0)))), none⟩])
  (.cond (.t 45)
    (.seq (.reg [⟨some 46, .mv (.t 7), none⟩, ⟨some 4, .mv (.t 46), none⟩])
    .ret)
    .skip))
  (.seq (.seq (.reg [⟨some 9, .mv (.c (.x (.int .i64 (0)))), none⟩])
  (.block 1
    (.loop
      (.seq (.seq (.reg [⟨some 47, .mv (.t 9), none⟩, ⟨some 48, .mv (.t 8), none⟩, ⟨some 49, .len false (.t 48), none⟩, ⟨some 50, .bin .lss (.t 47) (.t 49), none⟩])
      (.cond (.t 50)
        .skip
        (.exit 1)))
      (.seq (.block 2
        (.seq (.dreg 10 [] [⟨some 54, .mv (.t 8), none⟩, ⟨some 55, .mv (.t 9), none⟩, ⟨some 56, .iad 2 (.t 54) (.t 55), none⟩, ⟨some 57, .fad 0 (.t 56), none⟩, ⟨some 58, .ld 1 false (.t 57), none⟩, ⟨some 59, .mv (.t 8), none⟩, ⟨some 60, .mv (.t 9), none⟩, ⟨some 61, .iad 2 (.t 59) (.t 60), none⟩, ⟨some 62, .fad 1 (.t 61), none⟩, ⟨some 63, .ld 1 false (.t 62), none⟩, ⟨some 64, .call (.c (.fn 15 [])) [(.t 58), (.t 63)], none⟩, ⟨some 53, .mv (.t 64), none⟩, ⟨some 65, .ext (.t 53) 0, none⟩, ⟨some 66, .ext (.t 53) 1, none⟩, ⟨some 10, .mv (.t 65), none⟩, ⟨some 11, .mv (.t 66), none⟩])
        (.seq (.reg [⟨some 67, .mv (.t 10), none⟩, ⟨some 68, .mv (.t 1), none⟩, ⟨some 69, .bin .sub (.t 68) (.c (.x (.int .i64 (1)))), none⟩, ⟨some 70, .call (.c (.fn 34 [])) [(.t 67), (.t 69)], none⟩, ⟨some 12, .mv (.t 70), none⟩])
        (.seq (.reg [⟨some 71, .mv (.t 12), none⟩, ⟨some 72, .bin .neq (.t 71) (.c (.x (.int .i64 (0)))), none⟩])
        (.cond (.t 72)
          (.seq (.reg [⟨some 73, .mv (.t 12), none⟩, ⟨some 4, .mv (.t 73), none⟩])
          .ret)
          .skip)))))
      (.reg [⟨some 51, .mv (.t 9), none⟩, ⟨some 52, .bin .add (.t 51) (.c (.x (.int .i64 (1)))), none⟩, ⟨some 9, .mv (.t 52), none⟩]))))))
  (.seq (.reg [⟨some 4, .mv (.c (.x (.int .i64 (0)))), none⟩])
  .ret)))))))))⟩
theorem c34 : compFn Try.prog Try.f34 = some i34 := by kernel_rfl
/-- bothy/tree.Depth -/
def i35 : IFn := ⟨13, [.tmp 2], (.seq (.reg [⟨some 2, .mv (.c (.x (.int .i64 (0)))), none⟩])
  (.seq (.seq (.reg [⟨some 3, .mv (.c (.x (.int .i64 (1)))), none⟩])
  (.block 0
    (.loop
      (.seq (.seq (.reg [⟨some 4, .mv (.t 3), none⟩, ⟨some 5, .bin .leq (.t 4) (.c (.x (.int .i64 (64)))), none⟩])
      (.cond (.t 5)
        .skip
        (.exit 0)))
      (.seq (.block 1
        (.seq (.reg [⟨some 8, .mv (.t 0), none⟩, ⟨some 9, .mv (.t 3), none⟩, ⟨some 10, .call (.c (.fn 33 [])) [(.t 8), (.t 9)], none⟩, ⟨some 11, .bin .eql (.t 10) (.c (.x (.int .i64 (0)))), none⟩])
        (.cond (.t 11)
          (.seq (.reg [⟨some 12, .mv (.t 3), none⟩, ⟨some 2, .mv (.t 12), none⟩])
          .ret)
          .skip)))
      (.reg [⟨some 6, .mv (.t 3), none⟩, ⟨some 7, .bin .add (.t 6) (.c (.x (.int .i64 (1)))), none⟩, ⟨some 3, .mv (.t 7), none⟩]))))))
  (.seq (.reg [⟨some 2, .mv (.c (.x (.int .i64 (0)))), none⟩])
  .ret)))⟩
theorem c35 : compFn Try.prog Try.f35 = some i35 := by kernel_rfl
/-- bothy/bothyref03.Depth -/
def i36 : IFn := ⟨13, [.tmp 2], (.seq (.reg [⟨some 2, .mv (.c (.x (.int .i64 (0)))), none⟩])
  (.seq (.seq (.reg [⟨some 3, .mv (.c (.x (.int .i64 (1)))), none⟩])
  (.block 0
    (.loop
      (.seq (.seq (.reg [⟨some 4, .mv (.t 3), none⟩, ⟨some 5, .bin .leq (.t 4) (.c (.x (.int .i64 (64)))), none⟩])
      (.cond (.t 5)
        .skip
        (.exit 0)))
      (.seq (.block 1
        (.seq (.reg [⟨some 8, .mv (.t 0), none⟩, ⟨some 9, .mv (.t 3), none⟩, ⟨some 10, .call (.c (.fn 34 [])) [(.t 8), (.t 9)], none⟩, ⟨some 11, .bin .eql (.t 10) (.c (.x (.int .i64 (0)))), none⟩])
        (.cond (.t 11)
          (.seq (.reg [⟨some 12, .mv (.t 3), none⟩, ⟨some 2, .mv (.t 12), none⟩])
          .ret)
          .skip)))
      (.reg [⟨some 6, .mv (.t 3), none⟩, ⟨some 7, .bin .add (.t 6) (.c (.x (.int .i64 (1)))), none⟩, ⟨some 3, .mv (.t 7), none⟩]))))))
  (.seq (.reg [⟨some 2, .mv (.c (.x (.int .i64 (0)))), none⟩])
  .ret)))⟩
theorem c36 : compFn Try.prog Try.f36 = some i36 := by kernel_rfl
/-- bothy/tree.Seq -/
def i37 : IFn := ⟨9, [.tmp 2, .tmp 3], (.seq (.reg [⟨some 2, .mv (.c (.x (.str []))), none⟩, ⟨some 3, .mv (.c (.x (.int .i64 (0)))), none⟩])
  (.seq (.reg [⟨some 4, .mv (.t 0), none⟩, ⟨some 5, .call (.c (.fn 51 [])) [(.t 4), (.c (.x (.str [])))], none⟩, ⟨some 6, .call (.c (.fn 14 [])) [(.c (.x (.int .i64 (48)))), (.t 5)], none⟩, ⟨some 7, .ext (.t 6) 0, none⟩, ⟨some 8, .ext (.t 6) 1, none⟩, ⟨some 2, .mv (.t 7), none⟩, ⟨some 3, .mv (.t 8), none⟩])
  .ret))⟩
theorem c37 : compFn Try.prog Try.f37 = some i37 := by kernel_rfl
/-- bothy/bothyref03.Seq -/
def i38 : IFn := ⟨22, [.tmp 2, .tmp 3], (.seq (.reg [⟨some 2, .mv (.c (.x (.str []))), none⟩, ⟨some 3, .mv (.c (.x (.int .i64 (0)))), none⟩])
  (.seq (.reg [⟨some 4, .mv (.c (.x (.str []))), none⟩])
  (.seq (.seq (.reg [⟨some 5, .mv (.c (.x (.int .i64 (0)))), none⟩])
  (.block 0
    (.loop
      (.seq (.seq (.reg [⟨some 6, .mv (.t 5), none⟩, ⟨some 7, .mv (.t 0), none⟩, ⟨some 8, .len false (.t 7), none⟩, ⟨some 9, .bin .lss (.t 6) (.t 8), none⟩])
      (.cond (.t 9)
        .skip
        (.exit 0)))
      (.seq (.block 1
        (.reg [⟨some 12, .mv (.t 4), none⟩, ⟨some 13, .mv (.t 0), none⟩, ⟨some 14, .mv (.t 5), none⟩, ⟨some 15, .iad 1 (.t 13) (.t 14), none⟩, ⟨some 16, .ld 1 false (.t 15), none⟩, ⟨some 17, .bin .add (.t 12) (.t 16), none⟩, ⟨some 4, .mv (.t 17), none⟩]))
      (.reg [⟨some 10, .mv (.t 5), none⟩, ⟨some 11, .bin .add (.t 10) (.c (.x (.int .i64 (1)))), none⟩, ⟨some 5, .mv (.t 11), none⟩]))))))
  (.seq (.reg [⟨some 18, .mv (.t 4), none⟩, ⟨some 19, .call (.c (.fn 15 [])) [(.c (.x (.int .i64 (48)))), (.t 18)], none⟩, ⟨some 20, .ext (.t 19) 0, none⟩, ⟨some 21, .ext (.t 19) 1, none⟩, ⟨some 2, .mv (.t 20), none⟩, ⟨some 3, .mv (.t 21), none⟩])
  .ret))))⟩
theorem c38 : compFn Try.prog Try.f38 = some i38 := by kernel_rfl
/-- bothy/tree.Parts -/
def i39 : IFn := ⟨69, [.tmp 4, .tmp 5], (.seq (.reg [⟨some 4, .mv (.c (.x .nils)), none⟩, ⟨some 5, .mv (.c (.x (.int .i64 (0)))), none⟩])
  (.seq (.reg [⟨some 14, .mv (.t 0), none⟩, ⟨some 15, .call (.c (.fn 18 [])) [(.t 14)], none⟩, ⟨some 13, .mv (.t 15), none⟩, ⟨some 16, .ext (.t 13) 0, none⟩, ⟨some 17, .ext (.t 13) 1, none⟩, ⟨some 18, .ext (.t 13) 2, none⟩, ⟨some 6, .box (.c (.agg [.x (.int .i64 (0)), .x (.str [])])), none⟩, ⟨none, .sto 2 (.t 6) (.t 16), none⟩, ⟨some 7, .mv (.t 17), none⟩, ⟨some 8, .mv (.t 18), none⟩])
  (.seq (.block 0
    (.seq (.reg [⟨some 20, .mv (.t 8), none⟩, ⟨some 21, .bin .neq (.t 20) (.c (.x (.int .i64 (0)))), none⟩, ⟨some 19, .mv (.t 21), none⟩])
    (.cond (.t 19)
      (.seq (.reg [⟨some 22, .mv (.t 8), none⟩, ⟨some 4, .mv (.c (.x .nils)), none⟩, ⟨some 5, .mv (.t 22), none⟩])
      .ret)
      (.seq (.reg [⟨some 24, .fad 0 (.t 6), none⟩, ⟨some 25, .ld 1 false (.t 24), none⟩, ⟨some 26, .bin .neq (.t 25) (.c (.x (.int .i64 (48)))), none⟩, ⟨some 23, .mv (.t 26), none⟩])
      (.cond (.t 23)
        (.seq (.reg [⟨some 4, .mv (.c (.x .nils)), none⟩, ⟨some 5, .mv (.c (.x (.int .i64 (6)))), none⟩])
        .ret)
        (.seq (.reg [⟨some 28, .mv (.t 7), none⟩, ⟨some 29, .mv (.t 0), none⟩, ⟨some 30, .len true (.t 29), none⟩, ⟨some 31, .bin .lss (.t 28) (.t 30), none⟩, ⟨some 27, .mv (.t 31), none⟩])
        (.cond (.t 27)
          (.seq (.reg [⟨some 4, .mv (.c (.x .nils)), none⟩, ⟨some 5, .mv (.c (.x (.int .i64 (5)))), none⟩])
          .ret)
          .skip)))))))
  (.seq (.reg [⟨some 33, .fad 1 (.t 6), none⟩, ⟨some 34, .ld 1 false (.t 33), none⟩, ⟨some 35, .call (.c (.fn 20 [])) [(.t 34)], none⟩, ⟨some 32, .mv (.t 35), none⟩, ⟨some 36, .ext (.t 32) 0, none⟩, ⟨some 37, .ext (.t 32) 1, none⟩, ⟨some 9, .mv (.t 36), none⟩, ⟨some 8, .mv (.t 37), none⟩])
  (.seq (.block 1
    (.seq (.reg [⟨some 39, .mv (.t 8), none⟩, ⟨some 40, .bin .neq (.t 39) (.c (.x (.int .i64 (0)))), none⟩, ⟨some 38, .mv (.t 40), none⟩])
    (.cond (.t 38)
      (.seq (.reg [⟨some 41, .mv (.t 8), none⟩, ⟨some 4, .mv (.c (.x .nils)), none⟩, ⟨some 5, .mv (.t 41), none⟩])
      .ret)
      (.seq (.reg [⟨some 43, .mv (.t 9), none⟩, ⟨some 44, .len false (.t 43), none⟩, ⟨some 45, .mv (.t 1), none⟩, ⟨some 46, .len false (.t 45), none⟩, ⟨some 47, .bin .neq (.t 44) (.t 46), none⟩, ⟨some 42, .mv (.t 47), none⟩])
      (.cond (.t 42)
        (.seq (.reg [⟨some 4, .mv (.c (.x .nils)), none⟩, ⟨some 5, .mv (.c (.x (.int .i64 (5)))), none⟩])
        .ret)
        .skip)))))
  (.seq (.reg [⟨some 10, .mv (.c (.x .nils)), none⟩])
  (.seq (.seq (.reg [⟨some 48, .mv (.t 9), none⟩, ⟨some 49, .len false (.t 48), none⟩, ⟨some 50, .mv (.c (.x (.int .i64 (0)))), none⟩])
  (.block 2
    (.loop
      (.seq (.reg [⟨some 51, .bin .lss (.t 50) (.t 49), none⟩])
      (.seq (.cond (.t 51)
        .skip
        (.exit 2))
      (.seq (.block 3
        (.seq (.reg [⟨some 52, .mv (.t 50), none⟩, ⟨some 53, .iad 2 (.t 48) (.t 50), none⟩, ⟨some 54, .ld 2 true (.t 53), none⟩, ⟨some 12, .box (.c (.agg [.x (.int .i64 (0)), .x (.str [])])), none⟩, ⟨some 11, .mv (.t 52), none⟩, ⟨none, .sto 2 (.t 12) (.t 54), none⟩])
        (.seq (.seq (.dreg 6 [] [⟨some 55, .fad 0 (.t 12), none⟩, ⟨some 56, .ld 1 false (.t 55), none⟩, ⟨some 57, .mv (.t 1), none⟩, ⟨some 58, .mv (.t 11), none⟩, ⟨some 59, .iad 1 (.t 57) (.t 58), none⟩, ⟨some 60, .ld 1 false (.t 59), none⟩, ⟨some 61, .bin .neq (.t 56) (.t 60), none⟩])
        (.cond (.t 61)
          (.seq (.reg [⟨some 4, .mv (.c (.x .nils)), none⟩, ⟨some 5, .mv (.c (.x (.int .i64 (6)))), none⟩])
          .ret)
          .skip))
        (.reg [⟨some 62, .mv (.t 10), none⟩, ⟨some 63, .fad 1 (.t 12), none⟩, ⟨some 64, .ld 1 false (.t 63), none⟩, ⟨some 65, .bsl 9 1 1 [(.t 64)], none⟩, ⟨some 66, .app 9 1 16 (.t 62) (.t 65), none⟩, ⟨some 10, .mv (.t 66), none⟩]))))
      (.reg [⟨some 67, .bin .add (.t 50) (.c (.x (.int .i64 (1)))), none⟩, ⟨some 50, .mv (.t 67), none⟩])))))))
  (.seq (.reg [⟨some 68, .mv (.t 10), none⟩, ⟨some 4, .mv (.t 68), none⟩, ⟨some 5, .mv (.c (.x (.int .i64 (0)))), none⟩])
  .ret))))))))⟩
theorem c39 : compFn Try.prog Try.f39 = some i39 := by kernel_rfl
/-- bothy/bothyref03.Parts -/
def i40 : IFn := ⟨70, [.tmp 4, .tmp 5], (.seq (.reg [⟨some 4, .mv (.c (.x .nils)), none⟩, ⟨some 5, .mv (.c (.x (.int .i64 (0)))), none⟩])
  (.seq (.reg [⟨some 13, .mv (.t 0), none⟩, ⟨some 14, .call (.c (.fn 19 [])) [(.t 13)], none⟩, ⟨some 12, .mv (.t 14), none⟩, ⟨some 15, .ext (.t 12) 0, none⟩, ⟨some 16, .ext (.t 12) 1, none⟩, ⟨some 17, .ext (.t 12) 2, none⟩, ⟨some 6, .box (.c (.agg [.x (.int .i64 (0)), .x (.str [])])), none⟩, ⟨none, .sto 2 (.t 6) (.t 15), none⟩, ⟨some 7, .mv (.t 16), none⟩, ⟨some 8, .mv (.t 17), none⟩])
  (.seq (.block 0
    (.seq (.reg [⟨some 19, .mv (.t 8), none⟩, ⟨some 20, .bin .neq (.t 19) (.c (.x (.int .i64 (0)))), none⟩, ⟨some 18, .mv (.t 20), none⟩])
    (.cond (.t 18)
      (.seq (.reg [⟨some 21, .mv (.t 8), none⟩, ⟨some 4, .mv (.c (.x .nils)), none⟩, ⟨some 5, .mv (.t 21), none⟩])
      .ret)
      (.seq (.reg [⟨some 23, .fad 0 (.t 6), none⟩, ⟨some 24, .ld 1 false (.t 23), none⟩, ⟨some 25, .bin .neq (.t 24) (.c (.x (.int .i64 (48)))), none⟩, ⟨some 22, .mv (.t 25), none⟩])
      (.cond (.t 22)
        (.seq (.reg [⟨some 4, .mv (.c (.x .nils)), none⟩, ⟨some 5, .mv (.c (.x (.int .i64 (6)))), none⟩])
        .ret)
        (.seq (.reg [⟨some 27, .mv (.t 7), none⟩, ⟨some 28, .mv (.t 0), none⟩, ⟨some 29, .len true (.t 28), none⟩, ⟨some 30, .bin .lss (.t 27) (.t 29), none⟩, ⟨some 26, .mv (.t 30), none⟩])
        (.cond (.t 26)
          (.seq (.reg [⟨some 4, .mv (.c (.x .nils)), none⟩, ⟨some 5, .mv (.c (.x (.int .i64 (5)))), none⟩])
          .ret)
          .skip)))))))
  (.seq (.reg [⟨some 32, .fad 1 (.t 6), none⟩, ⟨some 33, .ld 1 false (.t 32), none⟩, ⟨some 34, .call (.c (.fn 21 [])) [(.t 33)], none⟩, ⟨some 31, .mv (.t 34), none⟩, ⟨some 35, .ext (.t 31) 0, none⟩, ⟨some 36, .ext (.t 31) 1, none⟩, ⟨some 9, .mv (.t 35), none⟩, ⟨some 8, .mv (.t 36), none⟩])
  (.seq (.seq (.reg [⟨some 37, .mv (.t 8), none⟩, ⟨some 38, .bin .neq (.t 37) (.c (.x (.int .i64 (0)))), none⟩])
  (.cond (.t 38)
    (.seq (.reg [⟨some 39, .mv (.t 8), none⟩, ⟨some 4, .mv (.c (.x .nils)), none⟩, ⟨some 5, .mv (.t 39), none⟩])
    .ret)
    .skip))
  (.seq (.seq (.reg [⟨some 40, .mv (.t 9), none⟩, ⟨some 41, .len false (.t 40), none⟩, ⟨some 42, .mv (.t 1), none⟩, ⟨some 43, .len false (.t 42), none⟩, ⟨some 44, .bin .neq (.t 41) (.t 43), none⟩])
  (.cond (.t 44)
    (.seq (.reg [⟨some 4, .mv (.c (.x .nils)), none⟩, ⟨some 5, .mv (.c (.x (.int .i64 (5)))), none⟩])
    .ret)
    .skip))
  (.seq (.reg [⟨some 10, .mv (.c (.x .nils)), none⟩])
  (.seq (.seq (.reg [⟨some 11, .mv (.c (.x (.int .i64 (0)))), none⟩])
  (.block 1
    (.loop
      (.seq (.seq (.reg [⟨some 45, .mv (.t 11), none⟩, ⟨some 46, .mv (.t 9), none⟩, ⟨some 47, .len false (.t 46), none⟩, ⟨some 48, .bin .lss (.t 45) (.t 47), none⟩])
      (.cond (.t 48)
        .skip
        (.exit 1)))
      (.seq (.block 2
        (.seq (.seq (.dreg 9 [] [⟨some 51, .mv (.t 9), none⟩, ⟨some 52, .mv (.t 11), none⟩, ⟨some 53, .iad 2 (.t 51) (.t 52), none⟩, ⟨some 54, .fad 0 (.t 53), none⟩, ⟨some 55, .ld 1 false (.t 54), none⟩, ⟨some 56, .mv (.t 1), none⟩, ⟨some 57, .mv (.t 11), none⟩, ⟨some 58, .iad 1 (.t 56) (.t 57), none⟩, ⟨some 59, .ld 1 false (.t 58), none⟩, ⟨some 60, .bin .neq (.t 55) (.t 59), none⟩])
        (.cond (.t 60)
          (.seq (.reg [⟨some 4, .mv (.c (.x .nils)), none⟩, ⟨some 5, .mv (.c (.x (.int .i64 (6)))), none⟩])
          .ret)
          .skip))
        (.reg [⟨some 61, .mv (.t 10), none⟩, ⟨some 62, .mv (.t 9), none⟩, ⟨some 63, .mv (.t 11), none⟩, ⟨some 64, .iad 2 (.t 62) (.t 63), none⟩, ⟨some 65, .fad 1 (.t 64), none⟩, ⟨some 66, .ld 1 false (.t 65), none⟩, ⟨some 67, .bsl 9 1 1 [(.t 66)], none⟩, ⟨some 68, .app 9 1 16 (.t 61) (.t 67), none⟩, ⟨some 10, .mv (.t 68), none⟩])))
      (.reg [⟨some 49, .mv (.t 11), none⟩, ⟨some 50, .bin .add (.t 49) (.c (.x (.int .i64 (1)))), none⟩, ⟨some 11, .mv (.t 50), none⟩]))))))
  (.seq (.reg [⟨some 69, .mv (.t 10), none⟩, ⟨some 4, .mv (.t 69), none⟩, ⟨some 5, .mv (.c (.x (.int .i64 (0)))), none⟩])
  .ret)))))))))⟩
theorem c40 : compFn Try.prog Try.f40 = some i40 := by kernel_rfl
/-- bothy/bothyref01.Texts -/
def i41 : IFn := ⟨26, [.tmp 4], (.seq (.reg [⟨some 4, .mv (.c (.x (.bool false))), none⟩])
  (.seq (.seq (.reg [⟨some 6, .mv (.t 0), none⟩, ⟨some 7, .len false (.t 6), none⟩, ⟨some 8, .mv (.t 1), none⟩, ⟨some 9, .len false (.t 8), none⟩, ⟨some 10, .bin .neq (.t 7) (.t 9), none⟩])
  (.cond (.t 10)
    (.seq (.reg [⟨some 4, .mv (.c (.x (.bool false))), none⟩])
    .ret)
    .skip))
  (.seq (.seq (.reg [⟨some 5, .mv (.c (.x (.int .i64 (0)))), none⟩])
  (.block 0
    (.loop
      (.seq (.seq (.reg [⟨some 11, .mv (.t 5), none⟩, ⟨some 12, .mv (.t 0), none⟩, ⟨some 13, .len false (.t 12), none⟩, ⟨some 14, .bin .lss (.t 11) (.t 13), none⟩])
      (.cond (.t 14)
        .skip
        (.exit 0)))
      (.seq (.block 1
        (.seq (.dreg 8 [] [⟨some 17, .mv (.t 0), none⟩, ⟨some 18, .mv (.t 5), none⟩, ⟨some 19, .iad 1 (.t 17) (.t 18), none⟩, ⟨some 20, .ld 1 false (.t 19), none⟩, ⟨some 21, .mv (.t 1), none⟩, ⟨some 22, .mv (.t 5), none⟩, ⟨some 23, .iad 1 (.t 21) (.t 22), none⟩, ⟨some 24, .ld 1 false (.t 23), none⟩, ⟨some 25, .bin .neq (.t 20) (.t 24), none⟩])
        (.cond (.t 25)
          (.seq (.reg [⟨some 4, .mv (.c (.x (.bool false))), none⟩])
          .ret)
          .skip)))
      (.reg [⟨some 15, .mv (.t 5), none⟩, ⟨some 16, .bin .add (.t 15) (.c (.x (.int .i64 (1)))), none⟩, ⟨some 5, .mv (.t 16), none⟩]))))))
  (.seq (.reg [⟨some 4, .mv (.c (.x (.bool true))), none⟩])
  .ret))))⟩
theorem c41 : compFn Try.prog Try.f41 = some i41 := by kernel_rfl
/-- bothy/ber.bad -/
def i42 : IFn := ⟨14, [.tmp 2], (.seq (.reg [⟨some 2, .mv (.c (.x (.bool false))), none⟩])
  (.seq (.reg [⟨some 3, .mv (.t 0), none⟩, ⟨some 4, .bin .lss (.t 3) (.c (.x (.int .i64 (0)))), none⟩, ⟨some 5, .mv (.t 4), none⟩, ⟨some 6, .mv (.t 0), (some (5, false))⟩, ⟨some 7, .bin .geq (.t 6) (.c (.x (.int .i64 (255)))), (some (5, false))⟩, ⟨some 8, .pick (.t 5) (.c (.x (.bool true))) (.t 7), none⟩, ⟨some 9, .mv (.t 8), none⟩, ⟨some 10, .mv (.t 0), (some (9, false))⟩, ⟨some 11, .bin .and (.t 10) (.c (.x (.int .i64 (31)))), (some (9, false))⟩, ⟨some 12, .bin .eql (.t 11) (.c (.x (.int .i64 (31)))), (some (9, false))⟩, ⟨some 13, .pick (.t 9) (.c (.x (.bool true))) (.t 12), none⟩, ⟨some 2, .mv (.t 13), none⟩])
  .ret))⟩
theorem c42 : compFn Try.prog Try.f42 = some i42 := by kernel_rfl
/-- bothy/ber.length -/
def i43 : IFn := ⟨27, [.tmp 2], (.seq (.reg [⟨some 2, .mv (.c (.x (.str []))), none⟩])
  (.scope (.seq (.seq (.reg [⟨some 4, .mv (.t 0), none⟩, ⟨some 5, .bin .lss (.t 4) (.c (.x (.int .i64 (128)))), none⟩])
    (.cond (.t 5)
      (.seq (.reg [⟨some 6, .mv (.t 0), none⟩, ⟨some 7, .cvi .u8 (.t 6), none⟩, ⟨some 8, .bsl 5 1 1 [(.t 7)], none⟩, ⟨some 9, .b2s (.t 8), none⟩, ⟨some 2, .mv (.t 9), none⟩])
      .ret)
      .skip))
    (.seq (.reg [⟨some 3, .mv (.c (.x .nils)), none⟩])
    (.seq (.label 0)
    (.seq (.seq (.reg [⟨some 10, .mv (.t 0), none⟩, ⟨some 11, .bin .gtr (.t 10) (.c (.x (.int .i64 (0)))), none⟩])
    (.cond (.t 11)
      (.seq (.reg [⟨some 12, .mv (.t 0), none⟩, ⟨some 13, .cvi .u8 (.t 12), none⟩, ⟨some 14, .bsl 5 1 1 [(.t 13)], none⟩, ⟨some 15, .mv (.t 3), none⟩, ⟨some 16, .app 5 1 1 (.t 14) (.t 15), none⟩, ⟨some 3, .mv (.t 16), none⟩])
      (.seq (.reg [⟨some 17, .mv (.t 0), none⟩, ⟨some 18, .bin .shr (.t 17) (.c (.x (.int .u64 (8)))), none⟩, ⟨some 0, .mv (.t 18), none⟩])
      (.goto 0)))
      .skip))
    (.seq (.reg [⟨some 19, .mv (.t 3), none⟩, ⟨some 20, .len false (.t 19), none⟩, ⟨some 21, .bin .add (.c (.x (.int .i64 (128)))) (.t 20), none⟩, ⟨some 22, .cvi .u8 (.t 21), none⟩, ⟨some 23, .bsl 5 1 1 [(.t 22)], none⟩, ⟨some 24, .mv (.t 3), none⟩, ⟨some 25, .app 5 1 1 (.t 23) (.t 24), none⟩, ⟨some 26, .b2s (.t 25), none⟩, ⟨some 2, .mv (.t 26), none⟩])
    .ret)))))
    (.seq (.seq (.reg [⟨some 4, .mv (.t 0), none⟩, ⟨some 5, .bin .lss (.t 4) (.c (.x (.int .i64 (128)))), none⟩])
    (.cond (.t 5)
      (.seq (.reg [⟨some 6, .mv (.t 0), none⟩, ⟨some 7, .cvi .u8 (.t 6), none⟩, ⟨some 8, .bsl 5 1 1 [(.t 7)], none⟩, ⟨some 9, .b2s (.t 8), none⟩, ⟨some 2, .mv (.t 9), none⟩])
      .ret)
      .skip))
    (.seq (.reg [⟨some 3, .mv (.c (.x .nils)), none⟩])
    (.seq (.label 0)
    (.seq (.seq (.reg [⟨some 10, .mv (.t 0), none⟩, ⟨some 11, .bin .gtr (.t 10) (.c (.x (.int .i64 (0)))), none⟩])
    (.cond (.t 11)
      (.seq (.reg [⟨some 12, .mv (.t 0), none⟩, ⟨some 13, .cvi .u8 (.t 12), none⟩, ⟨some 14, .bsl 5 1 1 [(.t 13)], none⟩, ⟨some 15, .mv (.t 3), none⟩, ⟨some 16, .app 5 1 1 (.t 14) (.t 15), none⟩, ⟨some 3, .mv (.t 16), none⟩])
      (.seq (.reg [⟨some 17, .mv (.t 0), none⟩, ⟨some 18, .bin .shr (.t 17) (.c (.x (.int .u64 (8)))), none⟩, ⟨some 0, .mv (.t 18), none⟩])
      (.goto 0)))
      .skip))
    (.seq (.reg [⟨some 19, .mv (.t 3), none⟩, ⟨some 20, .len false (.t 19), none⟩, ⟨some 21, .bin .add (.c (.x (.int .i64 (128)))) (.t 20), none⟩, ⟨some 22, .cvi .u8 (.t 21), none⟩, ⟨some 23, .bsl 5 1 1 [(.t 22)], none⟩, ⟨some 24, .mv (.t 3), none⟩, ⟨some 25, .app 5 1 1 (.t 23) (.t 24), none⟩, ⟨some 26, .b2s (.t 25), none⟩, ⟨some 2, .mv (.t 26), none⟩])
    .ret)))))))⟩
theorem c43 : compFn Try.prog Try.f43 = some i43 := by kernel_rfl
/-- bothy/bothyref01.tagged -/
def i44 : IFn := ⟨14, [.tmp 2], (.seq (.reg [⟨some 2, .mv (.c (.x (.bool false))), none⟩])
  (.seq (.reg [⟨some 3, .mv (.t 0), none⟩, ⟨some 4, .bin .geq (.t 3) (.c (.x (.int .i64 (0)))), none⟩, ⟨some 5, .mv (.t 4), none⟩, ⟨some 6, .mv (.t 0), (some (5, true))⟩, ⟨some 7, .bin .leq (.t 6) (.c (.x (.int .i64 (254)))), (some (5, true))⟩, ⟨some 8, .pick (.t 5) (.t 7) (.c (.x (.bool false))), none⟩, ⟨some 9, .mv (.t 8), none⟩, ⟨some 10, .mv (.t 0), (some (9, true))⟩, ⟨some 11, .bin .rem (.t 10) (.c (.x (.int .i64 (32)))), (some (9, true))⟩, ⟨some 12, .bin .neq (.t 11) (.c (.x (.int .i64 (31)))), (some (9, true))⟩, ⟨some 13, .pick (.t 9) (.t 12) (.c (.x (.bool false))), none⟩, ⟨some 2, .mv (.t 13), none⟩])
  .ret))⟩
theorem c44 : compFn Try.prog Try.f44 = some i44 := by kernel_rfl
/-- bothy/bothyref01.length -/
def i45 : IFn := ⟨31, [.tmp 2], (.seq (.reg [⟨some 2, .mv (.c (.x (.str []))), none⟩])
  (.seq (.seq (.reg [⟨some 5, .mv (.t 0), none⟩, ⟨some 6, .bin .lss (.t 5) (.c (.x (.int .i64 (128)))), none⟩])
  (.cond (.t 6)
    (.seq (.reg [⟨some 7, .mv (.t 0), none⟩, ⟨some 8, .cvi .u8 (.t 7), none⟩, ⟨some 9, .bsl 5 1 1 [(.t 8)], none⟩, ⟨some 10, .b2s (.t 9), none⟩, ⟨some 2, .mv (.t 10), none⟩])
    .ret)
    .skip))
  (.seq (.reg [⟨some 3, .mv (.c (.x (.str []))), none⟩])
  (.seq (.reg [⟨some 4, .mv (.c (.x (.int .i64 (0)))), none⟩])
  (.seq (.block 0
    (.loop
      (.seq (.seq (.reg [⟨some 11, .mv (.t 0), none⟩, ⟨some 12, .bin .gtr (.t 11) (.c (.x (.int .i64 (0)))), none⟩])
      (.cond (.t 12)
        .skip
        (.exit 0)))
      (.block 1
        (.seq (.reg [⟨some 13, .mv (.t 0), none⟩, ⟨some 14, .bin .rem (.t 13) (.c (.x (.int .i64 (256)))), none⟩, ⟨some 15, .cvi .u8 (.t 14), none⟩, ⟨some 16, .bsl 5 1 1 [(.t 15)], none⟩, ⟨some 17, .b2s (.t 16), none⟩, ⟨some 18, .mv (.t 3), none⟩, ⟨some 19, .bin .add (.t 17) (.t 18), none⟩, ⟨some 3, .mv (.t 19), none⟩])
        (.seq (.reg [⟨some 20, .mv (.t 0), none⟩, ⟨some 21, .bin .quo (.t 20) (.c (.x (.int .i64 (256)))), none⟩, ⟨some 0, .mv (.t 21), none⟩])
        (.reg [⟨some 22, .mv (.t 4), none⟩, ⟨some 23, .bin .add (.t 22) (.c (.x (.int .i64 (1)))), none⟩, ⟨some 4, .mv (.t 23), none⟩])))))))
  (.seq (.reg [⟨some 24, .mv (.t 4), none⟩, ⟨some 25, .bin .add (.c (.x (.int .i64 (128)))) (.t 24), none⟩, ⟨some 26, .cvi .u8 (.t 25), none⟩, ⟨some 27, .bsl 5 1 1 [(.t 26)], none⟩, ⟨some 28, .b2s (.t 27), none⟩, ⟨some 29, .mv (.t 3), none⟩, ⟨some 30, .bin .add (.t 28) (.t 29), none⟩, ⟨some 2, .mv (.t 30), none⟩])
  .ret))))))⟩
theorem c45 : compFn Try.prog Try.f45 = some i45 := by kernel_rfl
/-- bothy/ber.long -/
def i46 : IFn := ⟨56, [.tmp 2, .tmp 3, .tmp 4], (.seq (.reg [⟨some 2, .mv (.c (.x (.int .i64 (0)))), none⟩, ⟨some 3, .mv (.c (.x (.int .i64 (0)))), none⟩, ⟨some 4, .mv (.c (.x (.int .i64 (0)))), none⟩])
  (.seq (.reg [⟨some 9, .mv (.t 0), none⟩, ⟨some 10, .idx (.t 9) (.c (.x (.int .i64 (0)))), none⟩, ⟨some 11, .cvi .i64 (.t 10), none⟩, ⟨some 12, .bin .sub (.t 11) (.c (.x (.int .i64 (128)))), none⟩, ⟨some 5, .mv (.t 12), none⟩])
  (.seq (.block 0
    (.seq (.reg [⟨some 14, .mv (.t 5), none⟩, ⟨some 15, .bin .eql (.t 14) (.c (.x (.int .i64 (0)))), none⟩, ⟨some 16, .mv (.t 15), none⟩, ⟨some 17, .mv (.t 5), (some (16, false))⟩, ⟨some 18, .bin .gtr (.t 17) (.c (.x (.int .i64 (4)))), (some (16, false))⟩, ⟨some 19, .pick (.t 16) (.c (.x (.bool true))) (.t 18), none⟩, ⟨some 13, .mv (.t 19), none⟩])
    (.cond (.t 13)
      (.seq (.reg [⟨some 2, .mv (.c (.x (.int .i64 (0)))), none⟩, ⟨some 3, .mv (.c (.x (.int .i64 (0)))), none⟩, ⟨some 4, .mv (.c (.x (.int .i64 (5)))), none⟩])
      .ret)
      (.seq (.reg [⟨some 21, .mv (.t 0), none⟩, ⟨some 22, .len true (.t 21), none⟩, ⟨some 23, .mv (.t 5), none⟩, ⟨some 24, .bin .add (.c (.x (.int .i64 (1)))) (.t 23), none⟩, ⟨some 25, .bin .lss (.t 22) (.t 24), none⟩, ⟨some 20, .mv (.t 25), none⟩])
      (.cond (.t 20)
        (.seq (.reg [⟨some 2, .mv (.c (.x (.int .i64 (0)))), none⟩, ⟨some 3, .mv (.c (.x (.int .i64 (0)))), none⟩, ⟨some 4, .mv (.c (.x (.int .i64 (4)))), none⟩])
        .ret)
        .skip)))))
  (.seq (.reg [⟨some 6, .mv (.c (.x (.int .i64 (0)))), none⟩])
  (.seq (.seq (.reg [⟨some 26, .mv (.t 0), none⟩, ⟨some 27, .mv (.t 5), none⟩, ⟨some 28, .bin .add (.c (.x (.int .i64 (1)))) (.t 27), none⟩, ⟨some 29, .slc 0 (.t 26) (some (.c (.x (.int .i64 (1))))) (some (.t 28)) none, none⟩, ⟨some 30, .s2b 5 (.t 29), none⟩, ⟨some 31, .len false (.t 30), none⟩, ⟨some 32, .mv (.c (.x (.int .i64 (0)))), none⟩])
  (.block 1
    (.loop
      (.seq (.reg [⟨some 33, .bin .lss (.t 32) (.t 31), none⟩])
      (.seq (.cond (.t 33)
        .skip
        (.exit 1))
      (.seq (.block 2
        (.seq (.reg [⟨some 34, .iad 1 (.t 30) (.t 32), none⟩, ⟨some 35, .ld 1 false (.t 34), none⟩, ⟨some 8, .mv (.t 35), none⟩])
        (.reg [⟨some 36, .mv (.t 6), none⟩, ⟨some 37, .bin .shl (.t 36) (.c (.x (.int .u64 (8)))), none⟩, ⟨some 38, .mv (.t 8), none⟩, ⟨some 39, .cvi .i64 (.t 38), none⟩, ⟨some 40, .bin .or (.t 37) (.t 39), none⟩, ⟨some 6, .mv (.t 40), none⟩])))
      (.reg [⟨some 41, .bin .add (.t 32) (.c (.x (.int .i64 (1)))), none⟩, ⟨some 32, .mv (.t 41), none⟩])))))))
  (.seq (.block 3
    (.seq (.dreg 6 [] [⟨some 43, .mv (.t 6), none⟩, ⟨some 44, .call (.c (.fn 43 [])) [(.t 43)], none⟩, ⟨some 45, .mv (.t 0), none⟩, ⟨some 46, .mv (.t 5), none⟩, ⟨some 47, .bin .add (.c (.x (.int .i64 (1)))) (.t 46), none⟩, ⟨some 48, .slc 0 (.t 45) none (some (.t 47)) none, none⟩, ⟨some 49, .bin .neq (.t 44) (.t 48), none⟩, ⟨some 42, .mv (.t 49), none⟩])
    (.cond (.t 42)
      (.seq (.reg [⟨some 2, .mv (.c (.x (.int .i64 (0)))), none⟩, ⟨some 3, .mv (.c (.x (.int .i64 (0)))), none⟩, ⟨some 4, .mv (.c (.x (.int .i64 (5)))), none⟩])
      .ret)
      (.seq (.reg [⟨some 51, .mv (.t 6), none⟩, ⟨some 52, .bin .gtr (.t 51) (.c (.x (.int .i64 (65536)))), none⟩, ⟨some 50, .mv (.t 52), none⟩])
      (.cond (.t 50)
        (.seq (.reg [⟨some 2, .mv (.c (.x (.int .i64 (0)))), none⟩, ⟨some 3, .mv (.c (.x (.int .i64 (0)))), none⟩, ⟨some 4, .mv (.c (.x (.int .i64 (3)))), none⟩])
        .ret)
        .skip)))))
  (.seq (.reg [⟨some 53, .mv (.t 6), none⟩, ⟨some 54, .mv (.t 5), none⟩, ⟨some 55, .bin .add (.c (.x (.int .i64 (1)))) (.t 54), none⟩, ⟨some 2, .mv (.t 53), none⟩, ⟨some 3, .mv (.t 55), none⟩, ⟨some 4, .mv (.c (.x (.int .i64 (0)))), none⟩])
  .ret)))))))⟩
theorem c46 : compFn Try.prog Try.f46 = some i46 := by kernel_rfl
/-- (*bothy/frame.Framer).look -/
def i47 : IFn := ⟨68, [], (.seq (.seq (.reg [⟨some 6, .mv (.t 0), none⟩, ⟨some 7, .nck (.t 6), none⟩, ⟨some 8, .fad 2 (.t 7), none⟩, ⟨some 9, .ld 1 false (.t 8), none⟩, ⟨some 10, .bin .neq (.t 9) (.c (.x (.int .i64 (0)))), none⟩, ⟨some 11, .mv (.t 10), none⟩, ⟨some 12, .mv (.t 0), (some (11, false))⟩, ⟨some 13, .nck (.t 12), (some (11, false))⟩, ⟨some 14, .fad 1 (.t 13), (some (11, false))⟩, ⟨some 15, .ld 1 false (.t 14), (some (11, false))⟩, ⟨some 16, .len false (.t 15), (some (11, false))⟩, ⟨some 17, .bin .eql (.t 16) (.c (.x (.int .i64 (0)))), (some (11, false))⟩, ⟨some 18, .pick (.t 11) (.c (.x (.bool true))) (.t 17), none⟩])
  (.cond (.t 18)
    .ret
    .skip))
  (.seq (.dreg 9 [] [⟨some 20, .mv (.t 0), none⟩, ⟨some 21, .nck (.t 20), none⟩, ⟨some 22, .fad 1 (.t 21), none⟩, ⟨some 23, .ld 1 false (.t 22), none⟩, ⟨some 24, .mv (.t 0), none⟩, ⟨some 25, .nck (.t 24), none⟩, ⟨some 26, .fad 1 (.t 25), none⟩, ⟨some 27, .ld 1 false (.t 26), none⟩, ⟨some 28, .len false (.t 27), none⟩, ⟨some 29, .mnx false (.t 28) (.c (.x (.int .i64 (8)))), none⟩, ⟨some 30, .slc 1 (.t 23) none (some (.t 29)) none, none⟩, ⟨some 31, .b2s (.t 30), none⟩, ⟨some 32, .call (.c (.fn 16 [])) [(.t 31)], none⟩, ⟨some 19, .mv (.t 32), none⟩, ⟨some 33, .ext (.t 19) 0, none⟩, ⟨some 34, .ext (.t 19) 1, none⟩, ⟨some 35, .ext (.t 19) 2, none⟩, ⟨some 36, .ext (.t 19) 3, none⟩, ⟨some 2, .mv (.t 33), none⟩, ⟨some 3, .mv (.t 34), none⟩, ⟨some 4, .mv (.t 35), none⟩, ⟨some 5, .mv (.t 36), none⟩])
  (.block 0
    (.seq (.reg [⟨some 38, .mv (.t 0), none⟩, ⟨some 39, .nck (.t 38), none⟩, ⟨some 40, .fad 1 (.t 39), none⟩, ⟨some 41, .ld 1 false (.t 40), none⟩, ⟨some 42, .iad 1 (.t 41) (.c (.x (.int .i64 (0)))), none⟩, ⟨some 43, .ld 1 false (.t 42), none⟩, ⟨some 44, .bin .neq (.t 43) (.c (.x (.int .u8 (48)))), none⟩, ⟨some 37, .mv (.t 44), none⟩])
    (.cond (.t 37)
      (.reg [⟨some 45, .mv (.t 0), none⟩, ⟨some 46, .nck (.t 45), none⟩, ⟨some 47, .fad 2 (.t 46), none⟩, ⟨none, .sto 1 (.t 47) (.c (.x (.int .i64 (6)))), none⟩])
      (.seq (.reg [⟨some 49, .mv (.t 5), none⟩, ⟨some 50, .bin .eql (.t 49) (.c (.x (.int .i64 (4)))), none⟩, ⟨some 48, .mv (.t 50), none⟩])
      (.cond (.t 48)
        .skip
        (.seq (.reg [⟨some 52, .mv (.t 5), none⟩, ⟨some 53, .bin .neq (.t 52) (.c (.x (.int .i64 (0)))), none⟩, ⟨some 51, .mv (.t 53), none⟩])
        (.cond (.t 51)
          (.reg [⟨some 54, .mv (.t 0), none⟩, ⟨some 55, .mv (.t 5), none⟩, ⟨some 56, .nck (.t 54), none⟩, ⟨some 57, .fad 2 (.t 56), none⟩, ⟨none, .sto 1 (.t 57) (.t 55), none⟩])
          (.seq (.reg [⟨some 59, .mv (.t 3), none⟩, ⟨some 60, .mv (.t 0), none⟩, ⟨some 61, .nck (.t 60), none⟩, ⟨some 62, .fad 0 (.t 61), none⟩, ⟨some 63, .ld 1 false (.t 62), none⟩, ⟨some 64, .bin .gtr (.t 59) (.t 63), none⟩, ⟨some 58, .mv (.t 64), none⟩])
          (.cond (.t 58)
            (.reg [⟨some 65, .mv (.t 0), none⟩, ⟨some 66, .nck (.t 65), none⟩, ⟨some 67, .fad 2 (.t 66), none⟩, ⟨none, .sto 1 (.t 67) (.c (.x (.int .i64 (3)))), none⟩])
            .skip)))))))))))⟩
theorem c47 : compFn Try.prog Try.f47 = some i47 := by kernel_rfl
/-- (bothy/bothyref04.F).told -/
def i48 : IFn := ⟨50, [.cell 2 3 true], (.seq (.reg [⟨some 1, .box (.t 0), none⟩, ⟨some 2, .box (.c (.agg [.x (.int .i64 (0)), .x (.str []), .x (.int .i64 (0))])), none⟩])
  (.seq (.seq (.reg [⟨some 7, .fad 2 (.t 1), none⟩, ⟨some 8, .ld 1 false (.t 7), none⟩, ⟨some 9, .bin .neq (.t 8) (.c (.x (.int .i64 (0)))), none⟩, ⟨some 10, .mv (.t 9), none⟩, ⟨some 11, .fad 1 (.t 1), (some (10, false))⟩, ⟨some 12, .ld 1 false (.t 11), (some (10, false))⟩, ⟨some 13, .bin .eql (.t 12) (.c (.x (.str []))), (some (10, false))⟩, ⟨some 14, .pick (.t 10) (.c (.x (.bool true))) (.t 13), none⟩])
  (.cond (.t 14)
    (.seq (.reg [⟨some 15, .ld 3 true (.t 1), none⟩, ⟨none, .sto 3 (.t 2) (.t 15), none⟩])
    .ret)
    .skip))
  (.seq (.seq (.reg [⟨some 16, .fad 1 (.t 1), none⟩, ⟨some 17, .ld 1 false (.t 16), none⟩, ⟨some 18, .idx (.t 17) (.c (.x (.int .i64 (0)))), none⟩, ⟨some 19, .bin .neq (.t 18) (.c (.x (.int .u8 (48)))), none⟩])
  (.cond (.t 19)
    (.seq (.reg [⟨some 20, .fad 2 (.t 1), none⟩, ⟨none, .sto 1 (.t 20) (.c (.x (.int .i64 (6)))), none⟩])
    (.seq (.reg [⟨some 21, .ld 3 true (.t 1), none⟩, ⟨none, .sto 3 (.t 2) (.t 21), none⟩])
    .ret))
    .skip))
  (.seq (.reg [⟨some 23, .fad 1 (.t 1), none⟩, ⟨some 24, .ld 1 false (.t 23), none⟩, ⟨some 25, .call (.c (.fn 17 [])) [(.t 24)], none⟩, ⟨some 22, .mv (.t 25), none⟩, ⟨some 26, .ext (.t 22) 0, none⟩, ⟨some 27, .ext (.t 22) 1, none⟩, ⟨some 28, .ext (.t 22) 2, none⟩, ⟨some 29, .ext (.t 22) 3, none⟩, ⟨some 3, .mv (.t 26), none⟩, ⟨some 4, .mv (.t 27), none⟩, ⟨some 5, .mv (.t 28), none⟩, ⟨some 6, .mv (.t 29), none⟩])
  (.seq (.block 0
    (.seq (.reg [⟨some 31, .mv (.t 6), none⟩, ⟨some 32, .bin .eql (.t 31) (.c (.x (.int .i64 (0)))), none⟩, ⟨some 33, .mv (.t 32), none⟩, ⟨some 34, .mv (.t 4), (some (33, true))⟩, ⟨some 35, .fad 0 (.t 1), (some (33, true))⟩, ⟨some 36, .ld 1 false (.t 35), (some (33, true))⟩, ⟨some 37, .bin .gtr (.t 34) (.t 36), (some (33, true))⟩, ⟨some 38, .pick (.t 33) (.t 37) (.c (.x (.bool false))), none⟩, ⟨some 30, .mv (.t 38), none⟩])
    (.cond (.t 30)
      (.reg [⟨some 39, .fad 2 (.t 1), none⟩, ⟨none, .sto 1 (.t 39) (.c (.x (.int .i64 (3)))), none⟩])
      (.seq (.reg [⟨some 41, .mv (.t 6), none⟩, ⟨some 42, .bin .neq (.t 41) (.c (.x (.int .i64 (0)))), none⟩, ⟨some 43, .mv (.t 42), none⟩, ⟨some 44, .mv (.t 6), (some (43, true))⟩, ⟨some 45, .bin .neq (.t 44) (.c (.x (.int .i64 (4)))), (some (43, true))⟩, ⟨some 46, .pick (.t 43) (.t 45) (.c (.x (.bool false))), none⟩, ⟨some 40, .mv (.t 46), none⟩])
      (.cond (.t 40)
        (.reg [⟨some 47, .mv (.t 6), none⟩, ⟨some 48, .fad 2 (.t 1), none⟩, ⟨none, .sto 1 (.t 48) (.t 47), none⟩])
        .skip)))))
  (.seq (.reg [⟨some 49, .ld 3 true (.t 1), none⟩, ⟨none, .sto 3 (.t 2) (.t 49), none⟩])
  .ret))))))⟩
theorem c48 : compFn Try.prog Try.f48 = some i48 := by kernel_rfl
/-- bothy/tree.whole -/
def i49 : IFn := ⟨24, [.cell 2 2 true, .tmp 3], (.seq (.reg [⟨some 2, .box (.c (.agg [.x (.int .i64 (0)), .x (.str [])])), none⟩, ⟨some 3, .mv (.c (.x (.int .i64 (0)))), none⟩])
  (.seq (.reg [⟨some 8, .mv (.t 0), none⟩, ⟨some 9, .call (.c (.fn 18 [])) [(.t 8)], none⟩, ⟨some 7, .mv (.t 9), none⟩, ⟨some 10, .ext (.t 7) 0, none⟩, ⟨some 11, .ext (.t 7) 1, none⟩, ⟨some 12, .ext (.t 7) 2, none⟩, ⟨some 4, .box (.c (.agg [.x (.int .i64 (0)), .x (.str [])])), none⟩, ⟨none, .sto 2 (.t 4) (.t 10), none⟩, ⟨some 5, .mv (.t 11), none⟩, ⟨some 6, .mv (.t 12), none⟩])
  (.seq (.seq (.reg [⟨some 13, .mv (.t 6), none⟩, ⟨some 14, .bin .eql (.t 13) (.c (.x (.int .i64 (0)))), none⟩, ⟨some 15, .mv (.t 14), none⟩, ⟨some 16, .mv (.t 5), (some (15, true))⟩, ⟨some 17, .mv (.t 0), (some (15, true))⟩, ⟨some 18, .len true (.t 17), (some (15, true))⟩, ⟨some 19, .bin .lss (.t 16) (.t 18), (some (15, true))⟩, ⟨some 20, .pick (.t 15) (.t 19) (.c (.x (.bool false))), none⟩])
  (.cond (.t 20)
    (.seq (.reg [⟨some 21, .build [.x (.int .i64 (0)), .x (.str [])] [], none⟩, ⟨none, .sto 2 (.t 2) (.t 21), none⟩, ⟨some 3, .mv (.c (.x (.int .i64 (5)))), none⟩])
    .ret)
    .skip))
  (.seq (.reg [⟨some 22, .ld 2 true (.t 4), none⟩, ⟨some 23, .mv (.t 6), none⟩, ⟨none, .sto 2 (.t 2) (.t 22), none⟩, ⟨some 3, .mv (.t 23), none⟩])
  .ret))))⟩
theorem c49 : compFn Try.prog Try.f49 = some i49 := by kernel_rfl
/-- bothy/tree.check -/
def i50 : IFn := ⟨39, [.tmp 4], (.seq (.reg [⟨some 2, .box (.t 0), none⟩, ⟨some 4, .mv (.c (.x (.int .i64 (0)))), none⟩])
  (.seq (.seq (.reg [⟨some 10, .mv (.t 1), none⟩, ⟨some 11, .bin .lss (.t 10) (.c (.x (.int .i64 (1)))), none⟩])
  (.cond (.t 11)
    (.seq (.reg [⟨some 4, .mv (.c (.x (.int .i64 (7)))), none⟩])
    .ret)
    .skip))
  (.seq (.seq (.reg [⟨some 12, .fad 0 (.t 2), none⟩, ⟨some 13, .ld 1 false (.t 12), none⟩, ⟨some 14, .bin .and (.t 13) (.c (.x (.int .i64 (32)))), none⟩, ⟨some 15, .bin .eql (.t 14) (.c (.x (.int .i64 (0)))), none⟩])
  (.cond (.t 15)
    (.seq (.reg [⟨some 4, .mv (.c (.x (.int .i64 (0)))), none⟩])
    .ret)
    .skip))
  (.seq (.reg [⟨some 17, .fad 1 (.t 2), none⟩, ⟨some 18, .ld 1 false (.t 17), none⟩, ⟨some 19, .call (.c (.fn 20 [])) [(.t 18)], none⟩, ⟨some 16, .mv (.t 19), none⟩, ⟨some 20, .ext (.t 16) 0, none⟩, ⟨some 21, .ext (.t 16) 1, none⟩, ⟨some 5, .mv (.t 20), none⟩, ⟨some 6, .mv (.t 21), none⟩])
  (.seq (.seq (.reg [⟨some 22, .mv (.t 6), none⟩, ⟨some 23, .bin .neq (.t 22) (.c (.x (.int .i64 (0)))), none⟩])
  (.cond (.t 23)
    (.seq (.reg [⟨some 24, .mv (.t 6), none⟩, ⟨some 4, .mv (.t 24), none⟩])
    .ret)
    .skip))
  (.seq (.seq (.reg [⟨some 25, .mv (.t 5), none⟩, ⟨some 26, .len false (.t 25), none⟩, ⟨some 27, .mv (.c (.x (.int .i64 (0)))), none⟩])
  (.block 0
    (.loop
      (.seq (.reg [⟨some 28, .bin .lss (.t 27) (.t 26), none⟩])
      (.seq (.cond (.t 28)
        .skip
        (.exit 0))
      (.seq (.block 1
        (.seq (.reg [⟨some 29, .iad 2 (.t 25) (.t 27), none⟩, ⟨some 30, .ld 2 true (.t 29), none⟩, ⟨some 8, .box (.c (.agg [.x (.int .i64 (0)), .x (.str [])])), none⟩, ⟨none, .sto 2 (.t 8) (.t 30), none⟩])
        (.seq (.reg [⟨some 31, .ld 2 true (.t 8), none⟩, ⟨some 32, .mv (.t 1), none⟩, ⟨some 33, .bin .sub (.t 32) (.c (.x (.int .i64 (1)))), none⟩, ⟨some 34, .call (.c (.fn 50 [])) [(.t 31), (.t 33)], none⟩, ⟨some 9, .mv (.t 34), none⟩])
        (.seq (.reg [⟨some 35, .mv (.t 9), none⟩, ⟨some 36, .bin .neq (.t 35) (.c (.x (.int .i64 (0)))), none⟩])
        (.cond (.t 36)
          (.seq (.reg [⟨some 37, .mv (.t 9), none⟩, ⟨some 4, .mv (.t 37), none⟩])
          .ret)
          .skip)))))
      (.reg [⟨some 38, .bin .add (.t 27) (.c (.x (.int .i64 (1)))), none⟩, ⟨some 27, .mv (.t 38), none⟩])))))))
  (.seq (.reg [⟨some 4, .mv (.c (.x (.int .i64 (0)))), none⟩])
  .ret)))))))⟩
theorem c50 : compFn Try.prog Try.f50 = some i50 := by kernel_rfl
-- 51 strings.Join: makeInterface
-- 52 (*strings.Builder).Grow: makeInterface
-- 53 (*strings.Builder).WriteString: append of another type
-- 54 (*strings.Builder).String: builtin unsafeSliceData
-- 55 (*strings.Builder).copyCheck: convert pointer uptr
-- 56 (*strings.Builder).grow: builtin cap
def G : FuncId → Option IFn
  | 3 => some i3
  | 4 => some i4
  | 5 => some i5
  | 6 => some i6
  | 7 => some i7
  | 8 => some i8
  | 9 => some i9
  | 10 => some i10
  | 11 => some i11
  | 12 => some i12
  | 13 => some i13
  | 14 => some i14
  | 15 => some i15
  | 16 => some i16
  | 17 => some i17
  | 18 => some i18
  | 19 => some i19
  | 20 => some i20
  | 21 => some i21
  | 22 => some i22
  | 23 => some i23
  | 24 => some i24
  | 25 => some i25
  | 26 => some i26
  | 27 => some i27
  | 28 => some i28
  | 29 => some i29
  | 30 => some i30
  | 31 => some i31
  | 32 => some i32
  | 33 => some i33
  | 34 => some i34
  | 35 => some i35
  | 36 => some i36
  | 37 => some i37
  | 38 => some i38
  | 39 => some i39
  | 40 => some i40
  | 41 => some i41
  | 42 => some i42
  | 43 => some i43
  | 44 => some i44
  | 45 => some i45
  | 46 => some i46
  | 47 => some i47
  | 48 => some i48
  | 49 => some i49
  | 50 => some i50
  | _ => none
theorem G_ok : GOk Try.prog G := by
  intro f p h
  unfold G at h
  split at h
  · cases h; exact ⟨Try.f3, Try.func3, by decide, c3⟩
  · cases h; exact ⟨Try.f4, Try.func4, by decide, c4⟩
  · cases h; exact ⟨Try.f5, Try.func5, by decide, c5⟩
  · cases h; exact ⟨Try.f6, Try.func6, by decide, c6⟩
  · cases h; exact ⟨Try.f7, Try.func7, by decide, c7⟩
  · cases h; exact ⟨Try.f8, Try.func8, by decide, c8⟩
  · cases h; exact ⟨Try.f9, Try.func9, by decide, c9⟩
  · cases h; exact ⟨Try.f10, Try.func10, by decide, c10⟩
  · cases h; exact ⟨Try.f11, Try.func11, by decide, c11⟩
  · cases h; exact ⟨Try.f12, Try.func12, by decide, c12⟩
  · cases h; exact ⟨Try.f13, Try.func13, by decide, c13⟩
  · cases h; exact ⟨Try.f14, Try.func14, by decide, c14⟩
  · cases h; exact ⟨Try.f15, Try.func15, by decide, c15⟩
  · cases h; exact ⟨Try.f16, Try.func16, by decide, c16⟩
  · cases h; exact ⟨Try.f17, Try.func17, by decide, c17⟩
  · cases h; exact ⟨Try.f18, Try.func18, by decide, c18⟩
  · cases h; exact ⟨Try.f19, Try.func19, by decide, c19⟩
  · cases h; exact ⟨Try.f20, Try.func20, by decide, c20⟩
  · cases h; exact ⟨Try.f21, Try.func21, by decide, c21⟩
  · cases h; exact ⟨Try.f22, Try.func22, by decide, c22⟩
  · cases h; exact ⟨Try.f23, Try.func23, by decide, c23⟩
  · cases h; exact ⟨Try.f24, Try.func24, by decide, c24⟩
  · cases h; exact ⟨Try.f25, Try.func25, by decide, c25⟩
  · cases h; exact ⟨Try.f26, Try.func26, by decide, c26⟩
  · cases h; exact ⟨Try.f27, Try.func27, by decide, c27⟩
  · cases h; exact ⟨Try.f28, Try.func28, by decide, c28⟩
  · cases h; exact ⟨Try.f29, Try.func29, by decide, c29⟩
  · cases h; exact ⟨Try.f30, Try.func30, by decide, c30⟩
  · cases h; exact ⟨Try.f31, Try.func31, by decide, c31⟩
  · cases h; exact ⟨Try.f32, Try.func32, by decide, c32⟩
  · cases h; exact ⟨Try.f33, Try.func33, by decide, c33⟩
  · cases h; exact ⟨Try.f34, Try.func34, by decide, c34⟩
  · cases h; exact ⟨Try.f35, Try.func35, by decide, c35⟩
  · cases h; exact ⟨Try.f36, Try.func36, by decide, c36⟩
  · cases h; exact ⟨Try.f37, Try.func37, by decide, c37⟩
  · cases h; exact ⟨Try.f38, Try.func38, by decide, c38⟩
  · cases h; exact ⟨Try.f39, Try.func39, by decide, c39⟩
  · cases h; exact ⟨Try.f40, Try.func40, by decide, c40⟩
  · cases h; exact ⟨Try.f41, Try.func41, by decide, c41⟩
  · cases h; exact ⟨Try.f42, Try.func42, by decide, c42⟩
  · cases h; exact ⟨Try.f43, Try.func43, by decide, c43⟩
  · cases h; exact ⟨Try.f44, Try.func44, by decide, c44⟩
  · cases h; exact ⟨Try.f45, Try.func45, by decide, c45⟩
  · cases h; exact ⟨Try.f46, Try.func46, by decide, c46⟩
  · cases h; exact ⟨Try.f47, Try.func47, by decide, c47⟩
  · cases h; exact ⟨Try.f48, Try.func48, by decide, c48⟩
  · cases h; exact ⟨Try.f49, Try.func49, by decide, c49⟩
  · cases h; exact ⟨Try.f50, Try.func50, by decide, c50⟩
  · cases h
end Go.Proofs.Ytogmbfaijmhamaa
