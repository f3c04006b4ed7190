/- The code of functions, as the abstract evaluator reads it. Printed by gen_ic.py. -/
import Derived.Test.YtcffpndhodhncaaProg
import Derived.Test.YtcffpndhodhncaaLA3
namespace Go.Proofs.Ytcffpndhodhncaa
open Go.RowKit Go.Bo Go.Ab
/-- bothy/bothylaw31.ScriptBytes -/
def i3 : IFn := ⟨63, [.tmp 4], (.seq (.reg [⟨some 4, .mv (.c (.x (.bool false))), none⟩])
  (.seq (.seq (.reg [⟨some 13, .mv (.t 0), none⟩, ⟨some 14, .call (.c (.fn 9 [])) [(.t 13)], none⟩, ⟨some 15, .un .not (.t 14), none⟩, ⟨some 16, .mv (.t 15), none⟩, ⟨some 17, .mv (.t 1), (some (16, false))⟩, ⟨some 18, .len true (.t 17), (some (16, false))⟩, ⟨some 19, .bin .gtr (.t 18) (.c (.x (.int .i64 (3000)))), (some (16, false))⟩, ⟨some 20, .pick (.t 16) (.c (.x (.bool true))) (.t 19), none⟩])
  (.cond (.t 20)
    (.seq (.reg [⟨some 21, .call (.c (.fn 10 [])) [], none⟩, ⟨some 4, .mv (.t 21), none⟩])
    .ret)
    .skip))
  (.seq (.reg [⟨some 23, .mv (.t 0), none⟩, ⟨some 24, .call (.c (.fn 11 [])) [(.t 23)], none⟩, ⟨some 22, .mv (.t 24), none⟩, ⟨some 25, .ext (.t 22) 0, none⟩, ⟨some 26, .ext (.t 22) 1, none⟩, ⟨some 5, .mv (.t 25), none⟩, ⟨some 6, .mv (.t 26), none⟩])
  (.seq (.reg [⟨some 28, .mv (.t 0), none⟩, ⟨some 29, .call (.c (.fn 12 [])) [(.t 28)], none⟩, ⟨some 27, .mv (.t 29), none⟩, ⟨some 30, .ext (.t 27) 0, none⟩, ⟨some 31, .ext (.t 27) 1, none⟩, ⟨some 7, .mv (.t 30), none⟩, ⟨some 8, .mv (.t 31), none⟩])
  (.seq (.reg [⟨some 33, .mv (.t 1), none⟩, ⟨some 34, .call (.c (.fn 13 [])) [(.t 33)], none⟩, ⟨some 32, .mv (.t 34), none⟩, ⟨some 35, .ext (.t 32) 0, none⟩, ⟨some 36, .ext (.t 32) 1, none⟩, ⟨some 9, .mv (.t 35), none⟩, ⟨some 10, .mv (.t 36), none⟩])
  (.seq (.reg [⟨some 38, .mv (.t 1), none⟩, ⟨some 39, .call (.c (.fn 14 [])) [(.t 38)], none⟩, ⟨some 37, .mv (.t 39), none⟩, ⟨some 40, .ext (.t 37) 0, none⟩, ⟨some 41, .ext (.t 37) 1, none⟩, ⟨some 11, .mv (.t 40), none⟩, ⟨some 12, .mv (.t 41), none⟩])
  (.seq (.reg [⟨some 42, .mv (.t 5), none⟩, ⟨some 43, .mv (.t 7), none⟩, ⟨some 44, .bin .eql (.t 42) (.t 43), none⟩, ⟨some 45, .mv (.t 44), none⟩, ⟨some 46, .mv (.t 6), (some (45, true))⟩, ⟨some 47, .mv (.t 8), (some (45, true))⟩, ⟨some 48, .bin .eql (.t 46) (.t 47), (some (45, true))⟩, ⟨some 49, .pick (.t 45) (.t 48) (.c (.x (.bool false))), none⟩, ⟨some 50, .mv (.t 49), none⟩, ⟨some 51, .mv (.t 9), (some (50, true))⟩, ⟨some 52, .mv (.t 11), (some (50, true))⟩, ⟨some 53, .call (.c (.fn 15 [])) [(.t 51), (.t 52)], (some (50, true))⟩, ⟨some 54, .pick (.t 50) (.t 53) (.c (.x (.bool false))), none⟩, ⟨some 55, .mv (.t 54), none⟩, ⟨some 56, .mv (.t 10), (some (55, true))⟩, ⟨some 57, .mv (.t 12), (some (55, true))⟩, ⟨some 58, .bin .eql (.t 56) (.t 57), (some (55, true))⟩, ⟨some 59, .pick (.t 55) (.t 58) (.c (.x (.bool false))), none⟩, ⟨some 60, .mv (.t 59), none⟩, ⟨some 61, .call (.c (.fn 10 [])) [], (some (60, true))⟩, ⟨some 62, .pick (.t 60) (.t 61) (.c (.x (.bool false))), none⟩, ⟨some 4, .mv (.t 62), none⟩])
  .ret)))))))⟩
theorem c3 : compFn Try.prog Try.f3 = some i3 := by kernel_rfl
/-- bothy/bothylaw31.ScriptBack -/
def i4 : IFn := ⟨69, [.tmp 4], (.seq (.reg [⟨some 4, .mv (.c (.x (.bool false))), none⟩])
  (.seq (.seq (.reg [⟨some 13, .mv (.t 0), none⟩, ⟨some 14, .call (.c (.fn 9 [])) [(.t 13)], none⟩, ⟨some 15, .un .not (.t 14), none⟩, ⟨some 16, .mv (.t 15), none⟩, ⟨some 17, .mv (.t 1), (some (16, false))⟩, ⟨some 18, .len true (.t 17), (some (16, false))⟩, ⟨some 19, .bin .gtr (.t 18) (.c (.x (.int .i64 (3000)))), (some (16, false))⟩, ⟨some 20, .pick (.t 16) (.c (.x (.bool true))) (.t 19), none⟩])
  (.cond (.t 20)
    (.seq (.reg [⟨some 21, .call (.c (.fn 10 [])) [], none⟩, ⟨some 4, .mv (.t 21), none⟩])
    .ret)
    .skip))
  (.seq (.reg [⟨some 23, .mv (.t 0), none⟩, ⟨some 24, .call (.c (.fn 11 [])) [(.t 23)], none⟩, ⟨some 22, .mv (.t 24), none⟩, ⟨some 25, .ext (.t 22) 0, none⟩, ⟨some 26, .ext (.t 22) 1, none⟩, ⟨some 5, .mv (.t 25), none⟩, ⟨some 6, .mv (.t 26), none⟩])
  (.seq (.reg [⟨some 28, .mv (.t 5), none⟩, ⟨some 29, .call (.c (.fn 13 [])) [(.t 28)], none⟩, ⟨some 27, .mv (.t 29), none⟩, ⟨some 30, .ext (.t 27) 0, none⟩, ⟨some 31, .ext (.t 27) 1, none⟩, ⟨some 7, .mv (.t 30), none⟩, ⟨some 8, .mv (.t 31), none⟩])
  (.seq (.reg [⟨some 33, .mv (.t 1), none⟩, ⟨some 34, .call (.c (.fn 13 [])) [(.t 33)], none⟩, ⟨some 32, .mv (.t 34), none⟩, ⟨some 35, .ext (.t 32) 0, none⟩, ⟨some 36, .ext (.t 32) 1, none⟩, ⟨some 9, .mv (.t 35), none⟩, ⟨some 10, .mv (.t 36), none⟩])
  (.seq (.reg [⟨some 38, .mv (.t 9), none⟩, ⟨some 39, .call (.c (.fn 11 [])) [(.t 38)], none⟩, ⟨some 37, .mv (.t 39), none⟩, ⟨some 40, .ext (.t 37) 0, none⟩, ⟨some 41, .ext (.t 37) 1, none⟩, ⟨some 11, .mv (.t 40), none⟩, ⟨some 12, .mv (.t 41), none⟩])
  (.seq (.reg [⟨some 42, .mv (.t 6), none⟩, ⟨some 43, .bin .neq (.t 42) (.c (.x (.int .i64 (0)))), none⟩, ⟨some 44, .mv (.t 43), none⟩, ⟨some 45, .mv (.t 8), (some (44, false))⟩, ⟨some 46, .bin .eql (.t 45) (.c (.x (.int .i64 (0)))), (some (44, false))⟩, ⟨some 47, .mv (.t 46), (some (44, false))⟩, ⟨some 48, .mv (.t 7), (some (47, true))⟩, ⟨some 49, .mv (.t 0), (some (47, true))⟩, ⟨some 50, .call (.c (.fn 15 [])) [(.t 48), (.t 49)], (some (47, true))⟩, ⟨some 51, .pick (.t 47) (.t 50) (.c (.x (.bool false))), (some (44, false))⟩, ⟨some 52, .pick (.t 44) (.c (.x (.bool true))) (.t 51), none⟩, ⟨some 53, .mv (.t 52), none⟩, ⟨some 54, .mv (.t 10), (some (53, true))⟩, ⟨some 55, .bin .neq (.t 54) (.c (.x (.int .i64 (0)))), (some (53, true))⟩, ⟨some 56, .mv (.t 55), (some (53, true))⟩, ⟨some 57, .mv (.t 11), (some (56, false))⟩, ⟨some 58, .mv (.t 1), (some (56, false))⟩, ⟨some 59, .bin .eql (.t 57) (.t 58), (some (56, false))⟩, ⟨some 60, .mv (.t 59), (some (56, false))⟩, ⟨some 61, .mv (.t 12), (some (60, true))⟩, ⟨some 62, .bin .eql (.t 61) (.c (.x (.int .i64 (0)))), (some (60, true))⟩, ⟨some 63, .pick (.t 60) (.t 62) (.c (.x (.bool false))), (some (56, false))⟩, ⟨some 64, .pick (.t 56) (.c (.x (.bool true))) (.t 63), (some (53, true))⟩, ⟨some 65, .pick (.t 53) (.t 64) (.c (.x (.bool false))), none⟩, ⟨some 66, .mv (.t 65), none⟩, ⟨some 67, .call (.c (.fn 10 [])) [], (some (66, true))⟩, ⟨some 68, .pick (.t 66) (.t 67) (.c (.x (.bool false))), none⟩, ⟨some 4, .mv (.t 68), none⟩])
  .ret)))))))⟩
theorem c4 : compFn Try.prog Try.f4 = some i4 := by kernel_rfl
/-- bothy/bothylaw18.ControlFinds -/
def i8 : IFn := ⟨65, [.tmp 2], (.seq (.reg [⟨some 2, .mv (.c (.x (.bool false))), none⟩])
  (.seq (.seq (.reg [⟨some 10, .mv (.t 0), none⟩, ⟨some 11, .len false (.t 10), none⟩, ⟨some 12, .bin .gtr (.t 11) (.c (.x (.int .i64 (20)))), none⟩])
  (.cond (.t 12)
    (.seq (.reg [⟨some 13, .call (.c (.fn 26 [])) [], none⟩, ⟨some 2, .mv (.t 13), none⟩])
    .ret)
    .skip))
  (.seq (.seq (.reg [⟨some 3, .mv (.c (.x (.int .i64 (0)))), none⟩])
  (.block 0
    (.loop
      (.seq (.seq (.reg [⟨some 14, .mv (.t 3), none⟩, ⟨some 15, .mv (.t 0), none⟩, ⟨some 16, .len false (.t 15), none⟩, ⟨some 17, .bin .lss (.t 14) (.t 16), none⟩])
      (.cond (.t 17)
        .skip
        (.exit 0)))
      (.seq (.block 1
        (.seq (.reg [⟨some 20, .mv (.t 0), none⟩, ⟨some 21, .mv (.t 3), none⟩, ⟨some 22, .iad 3 (.t 20) (.t 21), none⟩, ⟨some 23, .fad 0 (.t 22), none⟩, ⟨some 24, .ld 1 false (.t 23), none⟩, ⟨some 25, .len true (.t 24), none⟩, ⟨some 26, .bin .gtr (.t 25) (.c (.x (.int .i64 (100)))), none⟩, ⟨some 27, .mv (.t 26), none⟩, ⟨some 28, .mv (.t 0), (some (27, false))⟩, ⟨some 29, .mv (.t 3), (some (27, false))⟩, ⟨some 30, .iad 3 (.t 28) (.t 29), (some (27, false))⟩, ⟨some 31, .fad 2 (.t 30), (some (27, false))⟩, ⟨some 32, .ld 1 false (.t 31), (some (27, false))⟩, ⟨some 33, .len true (.t 32), (some (27, false))⟩, ⟨some 34, .bin .gtr (.t 33) (.c (.x (.int .i64 (300)))), (some (27, false))⟩, ⟨some 35, .pick (.t 27) (.c (.x (.bool true))) (.t 34), none⟩])
        (.cond (.t 35)
          (.seq (.reg [⟨some 36, .call (.c (.fn 26 [])) [], none⟩, ⟨some 2, .mv (.t 36), none⟩])
          .ret)
          .skip)))
      (.reg [⟨some 18, .mv (.t 3), none⟩, ⟨some 19, .bin .add (.t 18) (.c (.x (.int .i64 (1)))), none⟩, ⟨some 3, .mv (.t 19), none⟩]))))))
  (.seq (.reg [⟨some 38, .mv (.t 0), none⟩, ⟨some 39, .call (.c (.fn 37 [])) [(.t 38)], none⟩, ⟨some 37, .mv (.t 39), none⟩, ⟨some 40, .ext (.t 37) 0, none⟩, ⟨some 41, .ext (.t 37) 1, none⟩, ⟨some 42, .ext (.t 37) 2, none⟩, ⟨some 4, .box (.c (.agg [.x (.int .i64 (0)), .x (.bool false), .x (.bool false)])), none⟩, ⟨none, .sto 3 (.t 4) (.t 40), none⟩, ⟨some 5, .mv (.t 41), none⟩, ⟨some 6, .mv (.t 42), none⟩])
  (.seq (.reg [⟨some 44, .mv (.t 0), none⟩, ⟨some 45, .call (.c (.fn 38 [])) [(.t 44)], none⟩, ⟨some 43, .mv (.t 45), none⟩, ⟨some 46, .ext (.t 43) 0, none⟩, ⟨some 47, .ext (.t 43) 1, none⟩, ⟨some 48, .ext (.t 43) 2, none⟩, ⟨some 7, .box (.c (.agg [.x (.int .i64 (0)), .x (.bool false), .x (.bool false)])), none⟩, ⟨none, .sto 3 (.t 7) (.t 46), none⟩, ⟨some 8, .mv (.t 47), none⟩, ⟨some 9, .mv (.t 48), none⟩])
  (.seq (.reg [⟨some 49, .ld 3 true (.t 4), none⟩, ⟨some 50, .ld 3 true (.t 7), none⟩, ⟨some 51, .eq (.st [(0, .int .i64), (1, .bool), (2, .bool)]) false (.t 49) (.t 50), none⟩, ⟨some 52, .mv (.t 51), none⟩, ⟨some 53, .mv (.t 5), (some (52, true))⟩, ⟨some 54, .mv (.t 8), (some (52, true))⟩, ⟨some 55, .eq .bool false (.t 53) (.t 54), (some (52, true))⟩, ⟨some 56, .pick (.t 52) (.t 55) (.c (.x (.bool false))), none⟩, ⟨some 57, .mv (.t 56), none⟩, ⟨some 58, .mv (.t 6), (some (57, true))⟩, ⟨some 59, .mv (.t 9), (some (57, true))⟩, ⟨some 60, .bin .eql (.t 58) (.t 59), (some (57, true))⟩, ⟨some 61, .pick (.t 57) (.t 60) (.c (.x (.bool false))), none⟩, ⟨some 62, .mv (.t 61), none⟩, ⟨some 63, .call (.c (.fn 26 [])) [], (some (62, true))⟩, ⟨some 64, .pick (.t 62) (.t 63) (.c (.x (.bool false))), none⟩, ⟨some 2, .mv (.t 64), none⟩])
  .ret))))))⟩
theorem c8 : compFn Try.prog Try.f8 = some i8 := by kernel_rfl
/-- bothy/bothylaw31.few -/
def i9 : IFn := ⟨20, [.tmp 2], (.seq (.reg [⟨some 2, .mv (.c (.x (.bool false))), none⟩])
  (.seq (.seq (.reg [⟨some 4, .mv (.t 0), none⟩, ⟨some 5, .len false (.t 4), none⟩, ⟨some 6, .bin .gtr (.t 5) (.c (.x (.int .i64 (1100)))), none⟩])
  (.cond (.t 6)
    (.seq (.reg [⟨some 2, .mv (.c (.x (.bool false))), none⟩])
    .ret)
    .skip))
  (.seq (.seq (.reg [⟨some 3, .mv (.c (.x (.int .i64 (0)))), none⟩])
  (.block 0
    (.loop
      (.seq (.seq (.reg [⟨some 7, .mv (.t 3), none⟩, ⟨some 8, .mv (.t 0), none⟩, ⟨some 9, .len false (.t 8), none⟩, ⟨some 10, .bin .lss (.t 7) (.t 9), none⟩])
      (.cond (.t 10)
        .skip
        (.exit 0)))
      (.seq (.block 1
        (.seq (.reg [⟨some 13, .mv (.t 0), none⟩, ⟨some 14, .mv (.t 3), none⟩, ⟨some 15, .iad 4 (.t 13) (.t 14), none⟩, ⟨some 16, .fad 2 (.t 15), none⟩, ⟨some 17, .ld 1 false (.t 16), none⟩, ⟨some 18, .len true (.t 17), none⟩, ⟨some 19, .bin .gtr (.t 18) (.c (.x (.int .i64 (4200)))), none⟩])
        (.cond (.t 19)
          (.seq (.reg [⟨some 2, .mv (.c (.x (.bool false))), none⟩])
          .ret)
          .skip)))
      (.reg [⟨some 11, .mv (.t 3), none⟩, ⟨some 12, .bin .add (.t 11) (.c (.x (.int .i64 (1)))), none⟩, ⟨some 3, .mv (.t 12), none⟩]))))))
  (.seq (.reg [⟨some 2, .mv (.c (.x (.bool true))), none⟩])
  .ret))))⟩
theorem c9 : compFn Try.prog Try.f9 = some i9 := by kernel_rfl
/-- bothy/bothylaw31.awake -/
def i10 : IFn := ⟨66, [.tmp 0], (.seq (.reg [⟨some 0, .mv (.c (.x (.bool false))), none⟩])
  (.seq (.reg [⟨some 12, .call (.c (.fn 11 [])) [(.c (.x .nils))], none⟩, ⟨some 11, .mv (.t 12), none⟩, ⟨some 13, .ext (.t 11) 0, none⟩, ⟨some 14, .ext (.t 11) 1, none⟩, ⟨some 1, .mv (.t 13), none⟩, ⟨some 2, .mv (.t 14), none⟩])
  (.seq (.reg [⟨some 16, .build [.x (.int .i64 (0)), .x (.int .i64 (0)), .x (.str []), .x (.int .i64 (0))] [(0, 1, (.c (.x (.int .i64 (3))))), (1, 1, (.c (.x (.int .i64 (1))))), (2, 1, (.c (.x (.str [120]))))], none⟩, ⟨some 17, .bsl 89 4 1 [(.t 16)], none⟩, ⟨some 18, .call (.c (.fn 11 [])) [(.t 17)], none⟩, ⟨some 15, .mv (.t 18), none⟩, ⟨some 19, .ext (.t 15) 0, none⟩, ⟨some 20, .ext (.t 15) 1, none⟩, ⟨some 3, .mv (.t 19), none⟩, ⟨some 4, .mv (.t 20), none⟩])
  (.seq (.reg [⟨some 22, .mv (.t 3), none⟩, ⟨some 23, .call (.c (.fn 13 [])) [(.t 22)], none⟩, ⟨some 21, .mv (.t 23), none⟩, ⟨some 24, .ext (.t 21) 0, none⟩, ⟨some 25, .ext (.t 21) 1, none⟩, ⟨some 5, .mv (.t 24), none⟩, ⟨some 6, .mv (.t 25), none⟩])
  (.seq (.reg [⟨some 27, .mv (.t 3), none⟩, ⟨some 28, .bin .add (.t 27) (.c (.x (.str [120]))), none⟩, ⟨some 29, .call (.c (.fn 13 [])) [(.t 28)], none⟩, ⟨some 26, .mv (.t 29), none⟩, ⟨some 30, .ext (.t 26) 0, none⟩, ⟨some 31, .ext (.t 26) 1, none⟩, ⟨some 7, .mv (.t 30), none⟩, ⟨some 8, .mv (.t 31), none⟩])
  (.seq (.reg [⟨some 33, .build [.x (.int .i64 (0)), .x (.int .i64 (0)), .x (.str []), .x (.int .i64 (0))] [(0, 1, (.c (.x (.int .i64 (6)))))], none⟩, ⟨some 34, .bsl 89 4 1 [(.t 33)], none⟩, ⟨some 35, .call (.c (.fn 11 [])) [(.t 34)], none⟩, ⟨some 32, .mv (.t 35), none⟩, ⟨some 36, .ext (.t 32) 0, none⟩, ⟨some 37, .ext (.t 32) 1, none⟩, ⟨some 9, .mv (.t 36), none⟩, ⟨some 10, .mv (.t 37), none⟩])
  (.seq (.reg [⟨some 38, .mv (.t 1), none⟩, ⟨some 39, .bin .eql (.t 38) (.c (.x (.str [48, 0]))), none⟩, ⟨some 40, .mv (.t 39), none⟩, ⟨some 41, .mv (.t 2), (some (40, true))⟩, ⟨some 42, .bin .eql (.t 41) (.c (.x (.int .i64 (0)))), (some (40, true))⟩, ⟨some 43, .pick (.t 40) (.t 42) (.c (.x (.bool false))), none⟩, ⟨some 44, .mv (.t 43), none⟩, ⟨some 45, .mv (.t 4), (some (44, true))⟩, ⟨some 46, .bin .eql (.t 45) (.c (.x (.int .i64 (0)))), (some (44, true))⟩, ⟨some 47, .pick (.t 44) (.t 46) (.c (.x (.bool false))), none⟩, ⟨some 48, .mv (.t 47), none⟩, ⟨some 49, .mv (.t 5), (some (48, true))⟩, ⟨some 50, .build [.x (.int .i64 (0)), .x (.int .i64 (0)), .x (.str []), .x (.int .i64 (0))] [(0, 1, (.c (.x (.int .i64 (3))))), (1, 1, (.c (.x (.int .i64 (1))))), (2, 1, (.c (.x (.str [120]))))], (some (48, true))⟩, ⟨some 51, .bsl 89 4 1 [(.t 50)], (some (48, true))⟩, ⟨some 52, .call (.c (.fn 15 [])) [(.t 49), (.t 51)], (some (48, true))⟩, ⟨some 53, .pick (.t 48) (.t 52) (.c (.x (.bool false))), none⟩, ⟨some 54, .mv (.t 53), none⟩, ⟨some 55, .mv (.t 6), (some (54, true))⟩, ⟨some 56, .bin .eql (.t 55) (.c (.x (.int .i64 (0)))), (some (54, true))⟩, ⟨some 57, .pick (.t 54) (.t 56) (.c (.x (.bool false))), none⟩, ⟨some 58, .mv (.t 57), none⟩, ⟨some 59, .mv (.t 8), (some (58, true))⟩, ⟨some 60, .bin .eql (.t 59) (.c (.x (.int .i64 (5)))), (some (58, true))⟩, ⟨some 61, .pick (.t 58) (.t 60) (.c (.x (.bool false))), none⟩, ⟨some 62, .mv (.t 61), none⟩, ⟨some 63, .mv (.t 10), (some (62, true))⟩, ⟨some 64, .bin .eql (.t 63) (.c (.x (.int .i64 (1)))), (some (62, true))⟩, ⟨some 65, .pick (.t 62) (.t 64) (.c (.x (.bool false))), none⟩, ⟨some 0, .mv (.t 65), none⟩])
  .ret)))))))⟩
theorem c10 : compFn Try.prog Try.f10 = some i10 := by kernel_rfl
/-- bothy/script.Put -/
def i11 : IFn := ⟨29, [.tmp 2, .tmp 3], (.seq (.reg [⟨some 2, .mv (.c (.x (.str []))), none⟩, ⟨some 3, .mv (.c (.x (.int .i64 (0)))), none⟩])
  (.seq (.seq (.reg [⟨some 7, .mv (.t 0), none⟩, ⟨some 8, .len false (.t 7), none⟩, ⟨some 9, .bin .gtr (.t 8) (.c (.x (.int .i64 (1024)))), none⟩])
  (.cond (.t 9)
    (.seq (.reg [⟨some 2, .mv (.c (.x (.str []))), none⟩, ⟨some 3, .mv (.c (.x (.int .i64 (3)))), none⟩])
    .ret)
    .skip))
  (.seq (.reg [⟨some 4, .mv (.c (.x .nils)), none⟩])
  (.seq (.seq (.reg [⟨some 10, .mv (.t 0), none⟩, ⟨some 11, .len false (.t 10), none⟩, ⟨some 12, .mv (.c (.x (.int .i64 (0)))), none⟩])
  (.block 0
    (.loop
      (.seq (.reg [⟨some 13, .bin .lss (.t 12) (.t 11), none⟩])
      (.seq (.cond (.t 13)
        .skip
        (.exit 0))
      (.seq (.block 1
        (.seq (.reg [⟨some 14, .iad 4 (.t 10) (.t 12), none⟩, ⟨some 15, .ld 4 true (.t 14), none⟩, ⟨some 6, .box (.c (.agg [.x (.int .i64 (0)), .x (.int .i64 (0)), .x (.str []), .x (.int .i64 (0))])), none⟩, ⟨none, .sto 4 (.t 6) (.t 15), none⟩])
        (.seq (.seq (.reg [⟨some 16, .ld 4 true (.t 6), none⟩, ⟨some 17, .call (.c (.fn 39 [])) [(.t 16)], none⟩, ⟨some 18, .un .not (.t 17), none⟩])
        (.cond (.t 18)
          (.seq (.reg [⟨some 2, .mv (.c (.x (.str []))), none⟩, ⟨some 3, .mv (.c (.x (.int .i64 (1)))), none⟩])
          .ret)
          .skip))
        (.reg [⟨some 19, .mv (.t 4), none⟩, ⟨some 20, .ld 4 true (.t 6), none⟩, ⟨some 21, .call (.c (.fn 40 [])) [(.t 20)], none⟩, ⟨some 22, .bsl 9 1 1 [(.t 21)], none⟩, ⟨some 23, .app 9 1 16 (.t 19) (.t 22), none⟩, ⟨some 4, .mv (.t 23), none⟩]))))
      (.reg [⟨some 24, .bin .add (.t 12) (.c (.x (.int .i64 (1)))), none⟩, ⟨some 12, .mv (.t 24), none⟩])))))))
  (.seq (.reg [⟨some 25, .mv (.t 4), none⟩, ⟨some 26, .call (.c (.fn 41 [])) [(.t 25)], none⟩, ⟨some 27, .ext (.t 26) 0, none⟩, ⟨some 28, .ext (.t 26) 1, none⟩, ⟨some 2, .mv (.t 27), none⟩, ⟨some 3, .mv (.t 28), none⟩])
  .ret)))))⟩
theorem c11 : compFn Try.prog Try.f11 = some i11 := by kernel_rfl
/-- bothy/bothyref31.Put -/
def i12 : IFn := ⟨74, [.tmp 2, .tmp 3], (.seq (.reg [⟨some 2, .mv (.c (.x (.str []))), none⟩, ⟨some 3, .mv (.c (.x (.int .i64 (0)))), none⟩])
  (.seq (.seq (.reg [⟨some 11, .mv (.t 0), none⟩, ⟨some 12, .len false (.t 11), none⟩, ⟨some 13, .bin .gtr (.t 12) (.c (.x (.int .i64 (1024)))), none⟩])
  (.cond (.t 13)
    (.seq (.reg [⟨some 2, .mv (.c (.x (.str []))), none⟩, ⟨some 3, .mv (.c (.x (.int .i64 (3)))), none⟩])
    .ret)
    .skip))
  (.seq (.seq (.reg [⟨some 4, .mv (.c (.x (.int .i64 (0)))), none⟩])
  (.block 0
    (.loop
      (.seq (.seq (.reg [⟨some 14, .mv (.t 4), none⟩, ⟨some 15, .mv (.t 0), none⟩, ⟨some 16, .len false (.t 15), none⟩, ⟨some 17, .bin .lss (.t 14) (.t 16), none⟩])
      (.cond (.t 17)
        .skip
        (.exit 0)))
      (.seq (.block 1
        (.seq (.reg [⟨some 20, .mv (.t 0), none⟩, ⟨some 21, .mv (.t 4), none⟩, ⟨some 22, .iad 4 (.t 20) (.t 21), none⟩, ⟨some 23, .ld 4 true (.t 22), none⟩, ⟨some 24, .call (.c (.fn 42 [])) [(.t 23)], none⟩, ⟨some 25, .un .not (.t 24), none⟩])
        (.cond (.t 25)
          (.seq (.reg [⟨some 2, .mv (.c (.x (.str []))), none⟩, ⟨some 3, .mv (.c (.x (.int .i64 (1)))), none⟩])
          .ret)
          .skip)))
      (.reg [⟨some 18, .mv (.t 4), none⟩, ⟨some 19, .bin .add (.t 18) (.c (.x (.int .i64 (1)))), none⟩, ⟨some 4, .mv (.t 19), none⟩]))))))
  (.seq (.reg [⟨some 5, .mv (.c (.x (.str []))), none⟩])
  (.seq (.seq (.reg [⟨some 6, .mv (.c (.x (.int .i64 (0)))), none⟩])
  (.block 2
    (.loop
      (.seq (.seq (.reg [⟨some 26, .mv (.t 6), none⟩, ⟨some 27, .mv (.t 0), none⟩, ⟨some 28, .len false (.t 27), none⟩, ⟨some 29, .bin .lss (.t 26) (.t 28), none⟩])
      (.cond (.t 29)
        .skip
        (.exit 2)))
      (.seq (.block 3
        (.seq (.reg [⟨some 33, .mv (.t 0), none⟩, ⟨some 34, .mv (.t 6), none⟩, ⟨some 35, .iad 4 (.t 33) (.t 34), none⟩, ⟨some 36, .fad 2 (.t 35), none⟩, ⟨some 37, .ld 1 false (.t 36), none⟩, ⟨some 38, .call (.c (.fn 43 [])) [(.c (.x (.int .i64 (4)))), (.t 37)], none⟩, ⟨some 32, .mv (.t 38), none⟩, ⟨some 39, .ext (.t 32) 0, none⟩, ⟨some 40, .ext (.t 32) 1, none⟩, ⟨some 7, .mv (.t 39), none⟩, ⟨some 8, .mv (.t 40), none⟩])
        (.seq (.dreg 20 [] [⟨some 42, .mv (.t 0), none⟩, ⟨some 43, .mv (.t 6), none⟩, ⟨some 44, .iad 4 (.t 42) (.t 43), none⟩, ⟨some 45, .fad 0 (.t 44), none⟩, ⟨some 46, .ld 1 false (.t 45), none⟩, ⟨some 47, .call (.c (.fn 44 [])) [(.c (.x (.int .i64 (10)))), (.t 46)], none⟩, ⟨some 48, .mv (.t 0), none⟩, ⟨some 49, .mv (.t 6), none⟩, ⟨some 50, .iad 4 (.t 48) (.t 49), none⟩, ⟨some 51, .fad 1 (.t 50), none⟩, ⟨some 52, .ld 1 false (.t 51), none⟩, ⟨some 53, .call (.c (.fn 44 [])) [(.c (.x (.int .i64 (2)))), (.t 52)], none⟩, ⟨some 54, .bin .add (.t 47) (.t 53), none⟩, ⟨some 55, .mv (.t 7), none⟩, ⟨some 56, .bin .add (.t 54) (.t 55), none⟩, ⟨some 57, .mv (.t 0), none⟩, ⟨some 58, .mv (.t 6), none⟩, ⟨some 59, .iad 4 (.t 57) (.t 58), none⟩, ⟨some 60, .fad 3 (.t 59), none⟩, ⟨some 61, .ld 1 false (.t 60), none⟩, ⟨some 62, .call (.c (.fn 44 [])) [(.c (.x (.int .i64 (2)))), (.t 61)], none⟩, ⟨some 63, .bin .add (.t 56) (.t 62), none⟩, ⟨some 64, .call (.c (.fn 43 [])) [(.c (.x (.int .i64 (48)))), (.t 63)], none⟩, ⟨some 41, .mv (.t 64), none⟩, ⟨some 65, .ext (.t 41) 0, none⟩, ⟨some 66, .ext (.t 41) 1, none⟩, ⟨some 9, .mv (.t 65), none⟩, ⟨some 10, .mv (.t 66), none⟩])
        (.reg [⟨some 67, .mv (.t 5), none⟩, ⟨some 68, .mv (.t 9), none⟩, ⟨some 69, .bin .add (.t 67) (.t 68), none⟩, ⟨some 5, .mv (.t 69), none⟩]))))
      (.reg [⟨some 30, .mv (.t 6), none⟩, ⟨some 31, .bin .add (.t 30) (.c (.x (.int .i64 (1)))), none⟩, ⟨some 6, .mv (.t 31), none⟩]))))))
  (.seq (.reg [⟨some 70, .mv (.t 5), none⟩, ⟨some 71, .call (.c (.fn 43 [])) [(.c (.x (.int .i64 (48)))), (.t 70)], none⟩, ⟨some 72, .ext (.t 71) 0, none⟩, ⟨some 73, .ext (.t 71) 1, none⟩, ⟨some 2, .mv (.t 72), none⟩, ⟨some 3, .mv (.t 73), none⟩])
  .ret))))))⟩
theorem c12 : compFn Try.prog Try.f12 = some i12 := by kernel_rfl
/-- bothy/script.Read -/
def i13 : IFn := ⟨59, [.tmp 2, .tmp 3], (.seq (.reg [⟨some 2, .mv (.c (.x .nils)), none⟩, ⟨some 3, .mv (.c (.x (.int .i64 (0)))), none⟩])
  (.seq (.reg [⟨some 14, .mv (.t 0), none⟩, ⟨some 15, .call (.c (.fn 45 [])) [(.t 14)], none⟩, ⟨some 13, .mv (.t 15), none⟩, ⟨some 16, .ext (.t 13) 0, none⟩, ⟨some 17, .ext (.t 13) 1, none⟩, ⟨some 18, .ext (.t 13) 2, none⟩, ⟨some 4, .box (.c (.agg [.x (.int .i64 (0)), .x (.str [])])), none⟩, ⟨none, .sto 2 (.t 4) (.t 16), none⟩, ⟨some 5, .mv (.t 17), none⟩, ⟨some 6, .mv (.t 18), none⟩])
  (.seq (.seq (.reg [⟨some 19, .mv (.t 6), none⟩, ⟨some 20, .bin .neq (.t 19) (.c (.x (.int .i64 (0)))), none⟩, ⟨some 21, .mv (.t 20), none⟩, ⟨some 22, .mv (.t 5), (some (21, false))⟩, ⟨some 23, .mv (.t 0), (some (21, false))⟩, ⟨some 24, .len true (.t 23), (some (21, false))⟩, ⟨some 25, .bin .lss (.t 22) (.t 24), (some (21, false))⟩, ⟨some 26, .pick (.t 21) (.c (.x (.bool true))) (.t 25), none⟩, ⟨some 27, .mv (.t 26), none⟩, ⟨some 28, .fad 0 (.t 4), (some (27, false))⟩, ⟨some 29, .ld 1 false (.t 28), (some (27, false))⟩, ⟨some 30, .bin .neq (.t 29) (.c (.x (.int .i64 (48)))), (some (27, false))⟩, ⟨some 31, .pick (.t 27) (.c (.x (.bool true))) (.t 30), none⟩])
  (.cond (.t 31)
    (.seq (.reg [⟨some 2, .mv (.c (.x .nils)), none⟩, ⟨some 3, .mv (.c (.x (.int .i64 (5)))), none⟩])
    .ret)
    .skip))
  (.seq (.reg [⟨some 33, .fad 1 (.t 4), none⟩, ⟨some 34, .ld 1 false (.t 33), none⟩, ⟨some 35, .call (.c (.fn 46 [])) [(.t 34)], none⟩, ⟨some 32, .mv (.t 35), none⟩, ⟨some 36, .ext (.t 32) 0, none⟩, ⟨some 37, .ext (.t 32) 1, none⟩, ⟨some 7, .mv (.t 36), none⟩, ⟨some 6, .mv (.t 37), none⟩])
  (.seq (.seq (.reg [⟨some 38, .mv (.t 6), none⟩, ⟨some 39, .bin .neq (.t 38) (.c (.x (.int .i64 (0)))), none⟩])
  (.cond (.t 39)
    (.seq (.reg [⟨some 2, .mv (.c (.x .nils)), none⟩, ⟨some 3, .mv (.c (.x (.int .i64 (5)))), none⟩])
    .ret)
    .skip))
  (.seq (.reg [⟨some 8, .mv (.c (.x .nils)), none⟩])
  (.seq (.seq (.reg [⟨some 40, .mv (.t 7), none⟩, ⟨some 41, .len false (.t 40), none⟩, ⟨some 42, .mv (.c (.x (.int .i64 (0)))), none⟩])
  (.block 0
    (.loop
      (.seq (.reg [⟨some 43, .bin .lss (.t 42) (.t 41), none⟩])
      (.seq (.cond (.t 43)
        .skip
        (.exit 0))
      (.seq (.block 1
        (.seq (.reg [⟨some 44, .iad 2 (.t 40) (.t 42), none⟩, ⟨some 45, .ld 2 true (.t 44), none⟩, ⟨some 10, .box (.c (.agg [.x (.int .i64 (0)), .x (.str [])])), none⟩, ⟨none, .sto 2 (.t 10) (.t 45), none⟩])
        (.seq (.reg [⟨some 47, .ld 2 true (.t 10), none⟩, ⟨some 48, .call (.c (.fn 47 [])) [(.t 47)], none⟩, ⟨some 46, .mv (.t 48), none⟩, ⟨some 49, .ext (.t 46) 0, none⟩, ⟨some 50, .ext (.t 46) 1, none⟩, ⟨some 11, .box (.c (.agg [.x (.int .i64 (0)), .x (.int .i64 (0)), .x (.str []), .x (.int .i64 (0))])), none⟩, ⟨none, .sto 4 (.t 11) (.t 49), none⟩, ⟨some 12, .mv (.t 50), none⟩])
        (.seq (.seq (.reg [⟨some 51, .mv (.t 12), none⟩, ⟨some 52, .un .not (.t 51), none⟩])
        (.cond (.t 52)
          (.seq (.reg [⟨some 2, .mv (.c (.x .nils)), none⟩, ⟨some 3, .mv (.c (.x (.int .i64 (5)))), none⟩])
          .ret)
          .skip))
        (.reg [⟨some 53, .mv (.t 8), none⟩, ⟨some 54, .ld 4 true (.t 11), none⟩, ⟨some 55, .bsl 89 4 1 [(.t 54)], none⟩, ⟨some 56, .app 89 4 40 (.t 53) (.t 55), none⟩, ⟨some 8, .mv (.t 56), none⟩])))))
      (.reg [⟨some 57, .bin .add (.t 42) (.c (.x (.int .i64 (1)))), none⟩, ⟨some 42, .mv (.t 57), none⟩])))))))
  (.seq (.reg [⟨some 58, .mv (.t 8), none⟩, ⟨some 2, .mv (.t 58), none⟩, ⟨some 3, .mv (.c (.x (.int .i64 (0)))), none⟩])
  .ret))))))))⟩
theorem c13 : compFn Try.prog Try.f13 = some i13 := by kernel_rfl
/-- bothy/bothyref31.Read -/
def i14 : IFn := ⟨109, [.tmp 2, .tmp 3], (.seq (.reg [⟨some 2, .mv (.c (.x .nils)), none⟩, ⟨some 3, .mv (.c (.x (.int .i64 (0)))), none⟩])
  (.seq (.reg [⟨some 22, .mv (.t 0), none⟩, ⟨some 23, .call (.c (.fn 48 [])) [(.t 22)], none⟩, ⟨some 21, .mv (.t 23), none⟩, ⟨some 24, .ext (.t 21) 0, none⟩, ⟨some 25, .ext (.t 21) 1, none⟩, ⟨some 26, .ext (.t 21) 2, none⟩, ⟨some 4, .box (.c (.agg [.x (.int .i64 (0)), .x (.str [])])), none⟩, ⟨none, .sto 2 (.t 4) (.t 24), none⟩, ⟨some 5, .mv (.t 25), none⟩, ⟨some 6, .mv (.t 26), none⟩])
  (.seq (.reg [⟨some 28, .fad 1 (.t 4), none⟩, ⟨some 29, .ld 1 false (.t 28), none⟩, ⟨some 30, .call (.c (.fn 49 [])) [(.t 29)], none⟩, ⟨some 27, .mv (.t 30), none⟩, ⟨some 31, .ext (.t 27) 0, none⟩, ⟨some 32, .ext (.t 27) 1, none⟩, ⟨some 7, .mv (.t 31), none⟩, ⟨some 8, .mv (.t 32), none⟩])
  (.seq (.seq (.reg [⟨some 33, .mv (.t 6), none⟩, ⟨some 34, .bin .neq (.t 33) (.c (.x (.int .i64 (0)))), none⟩, ⟨some 35, .mv (.t 34), none⟩, ⟨some 36, .mv (.t 8), (some (35, false))⟩, ⟨some 37, .bin .neq (.t 36) (.c (.x (.int .i64 (0)))), (some (35, false))⟩, ⟨some 38, .pick (.t 35) (.c (.x (.bool true))) (.t 37), none⟩])
  (.cond (.t 38)
    (.seq (.reg [⟨some 2, .mv (.c (.x .nils)), none⟩, ⟨some 3, .mv (.c (.x (.int .i64 (5)))), none⟩])
    .ret)
    .skip))
  (.seq (.reg [⟨some 9, .mv (.c (.x .nils)), none⟩])
  (.seq (.seq (.reg [⟨some 10, .mv (.c (.x (.int .i64 (0)))), none⟩])
  (.block 0
    (.loop
      (.seq (.seq (.reg [⟨some 39, .mv (.t 10), none⟩, ⟨some 40, .mv (.t 7), none⟩, ⟨some 41, .len false (.t 40), none⟩, ⟨some 42, .bin .lss (.t 39) (.t 41), none⟩])
      (.cond (.t 42)
        .skip
        (.exit 0)))
      (.seq (.block 1
        (.seq (.reg [⟨some 46, .mv (.t 7), none⟩, ⟨some 47, .mv (.t 10), none⟩, ⟨some 48, .iad 2 (.t 46) (.t 47), none⟩, ⟨some 49, .fad 1 (.t 48), none⟩, ⟨some 50, .ld 1 false (.t 49), none⟩, ⟨some 51, .call (.c (.fn 49 [])) [(.t 50)], none⟩, ⟨some 45, .mv (.t 51), none⟩, ⟨some 52, .ext (.t 45) 0, none⟩, ⟨some 53, .ext (.t 45) 1, none⟩, ⟨some 11, .mv (.t 52), none⟩, ⟨some 12, .mv (.t 53), none⟩])
        (.seq (.seq (.reg [⟨some 54, .mv (.t 12), none⟩, ⟨some 55, .bin .neq (.t 54) (.c (.x (.int .i64 (0)))), none⟩, ⟨some 56, .mv (.t 55), none⟩, ⟨some 57, .mv (.t 11), (some (56, false))⟩, ⟨some 58, .len false (.t 57), (some (56, false))⟩, ⟨some 59, .bin .neq (.t 58) (.c (.x (.int .i64 (4)))), (some (56, false))⟩, ⟨some 60, .pick (.t 56) (.c (.x (.bool true))) (.t 59), none⟩])
        (.cond (.t 60)
          (.seq (.reg [⟨some 2, .mv (.c (.x .nils)), none⟩, ⟨some 3, .mv (.c (.x (.int .i64 (5)))), none⟩])
          .ret)
          .skip))
        (.seq (.reg [⟨some 62, .mv (.t 11), none⟩, ⟨some 63, .iad 2 (.t 62) (.c (.x (.int .i64 (0)))), none⟩, ⟨some 64, .fad 1 (.t 63), none⟩, ⟨some 65, .ld 1 false (.t 64), none⟩, ⟨some 66, .call (.c (.fn 50 [])) [(.t 65)], none⟩, ⟨some 61, .mv (.t 66), none⟩, ⟨some 67, .ext (.t 61) 0, none⟩, ⟨some 68, .ext (.t 61) 1, none⟩, ⟨some 13, .mv (.t 67), none⟩, ⟨some 14, .mv (.t 68), none⟩])
        (.seq (.reg [⟨some 70, .mv (.t 11), none⟩, ⟨some 71, .iad 2 (.t 70) (.c (.x (.int .i64 (1)))), none⟩, ⟨some 72, .fad 1 (.t 71), none⟩, ⟨some 73, .ld 1 false (.t 72), none⟩, ⟨some 74, .call (.c (.fn 50 [])) [(.t 73)], none⟩, ⟨some 69, .mv (.t 74), none⟩, ⟨some 75, .ext (.t 69) 0, none⟩, ⟨some 76, .ext (.t 69) 1, none⟩, ⟨some 15, .mv (.t 75), none⟩, ⟨some 16, .mv (.t 76), none⟩])
        (.seq (.reg [⟨some 78, .mv (.t 11), none⟩, ⟨some 79, .iad 2 (.t 78) (.c (.x (.int .i64 (3)))), none⟩, ⟨some 80, .fad 1 (.t 79), none⟩, ⟨some 81, .ld 1 false (.t 80), none⟩, ⟨some 82, .call (.c (.fn 50 [])) [(.t 81)], none⟩, ⟨some 77, .mv (.t 82), none⟩, ⟨some 83, .ext (.t 77) 0, none⟩, ⟨some 84, .ext (.t 77) 1, none⟩, ⟨some 17, .mv (.t 83), none⟩, ⟨some 18, .mv (.t 84), none⟩])
        (.reg [⟨some 85, .mv (.t 9), none⟩, ⟨some 86, .mv (.t 13), none⟩, ⟨some 87, .mv (.t 15), none⟩, ⟨some 88, .mv (.t 11), none⟩, ⟨some 89, .iad 2 (.t 88) (.c (.x (.int .i64 (2)))), none⟩, ⟨some 90, .fad 1 (.t 89), none⟩, ⟨some 91, .ld 1 false (.t 90), none⟩, ⟨some 92, .mv (.t 17), none⟩, ⟨some 93, .build [.x (.int .i64 (0)), .x (.int .i64 (0)), .x (.str []), .x (.int .i64 (0))] [(0, 1, (.t 86)), (1, 1, (.t 87)), (2, 1, (.t 91)), (3, 1, (.t 92))], none⟩, ⟨some 94, .bsl 89 4 1 [(.t 93)], none⟩, ⟨some 95, .app 89 4 40 (.t 85) (.t 94), none⟩, ⟨some 9, .mv (.t 95), none⟩])))))))
      (.reg [⟨some 43, .mv (.t 10), none⟩, ⟨some 44, .bin .add (.t 43) (.c (.x (.int .i64 (1)))), none⟩, ⟨some 10, .mv (.t 44), none⟩]))))))
  (.seq (.seq (.reg [⟨some 97, .mv (.t 9), none⟩, ⟨some 98, .call (.c (.fn 12 [])) [(.t 97)], none⟩, ⟨some 96, .mv (.t 98), none⟩, ⟨some 99, .ext (.t 96) 0, none⟩, ⟨some 100, .ext (.t 96) 1, none⟩, ⟨some 19, .mv (.t 99), none⟩, ⟨some 20, .mv (.t 100), none⟩])
  (.seq (.reg [⟨some 101, .mv (.t 20), none⟩, ⟨some 102, .bin .neq (.t 101) (.c (.x (.int .i64 (0)))), none⟩, ⟨some 103, .mv (.t 102), none⟩, ⟨some 104, .mv (.t 19), (some (103, false))⟩, ⟨some 105, .mv (.t 0), (some (103, false))⟩, ⟨some 106, .bin .neq (.t 104) (.t 105), (some (103, false))⟩, ⟨some 107, .pick (.t 103) (.c (.x (.bool true))) (.t 106), none⟩])
  (.cond (.t 107)
    (.seq (.reg [⟨some 2, .mv (.c (.x .nils)), none⟩, ⟨some 3, .mv (.c (.x (.int .i64 (5)))), none⟩])
    .ret)
    .skip)))
  (.seq (.reg [⟨some 108, .mv (.t 9), none⟩, ⟨some 2, .mv (.t 108), none⟩, ⟨some 3, .mv (.c (.x (.int .i64 (0)))), none⟩])
  .ret))))))))⟩
theorem c14 : compFn Try.prog Try.f14 = some i14 := by kernel_rfl
/-- bothy/bothyref31.Same -/
def i15 : IFn := ⟨26, [.tmp 4], (.seq (.reg [⟨some 4, .mv (.c (.x (.bool false))), none⟩])
  (.seq (.seq (.reg [⟨some 6, .mv (.t 0), none⟩, ⟨some 7, .len false (.t 6), none⟩, ⟨some 8, .mv (.t 1), none⟩, ⟨some 9, .len false (.t 8), none⟩, ⟨some 10, .bin .neq (.t 7) (.t 9), none⟩])
  (.cond (.t 10)
    (.seq (.reg [⟨some 4, .mv (.c (.x (.bool false))), none⟩])
    .ret)
    .skip))
  (.seq (.seq (.reg [⟨some 5, .mv (.c (.x (.int .i64 (0)))), none⟩])
  (.block 0
    (.loop
      (.seq (.seq (.reg [⟨some 11, .mv (.t 5), none⟩, ⟨some 12, .mv (.t 0), none⟩, ⟨some 13, .len false (.t 12), none⟩, ⟨some 14, .bin .lss (.t 11) (.t 13), none⟩])
      (.cond (.t 14)
        .skip
        (.exit 0)))
      (.seq (.block 1
        (.seq (.dreg 8 [] [⟨some 17, .mv (.t 0), none⟩, ⟨some 18, .mv (.t 5), none⟩, ⟨some 19, .iad 4 (.t 17) (.t 18), none⟩, ⟨some 20, .ld 4 true (.t 19), none⟩, ⟨some 21, .mv (.t 1), none⟩, ⟨some 22, .mv (.t 5), none⟩, ⟨some 23, .iad 4 (.t 21) (.t 22), none⟩, ⟨some 24, .ld 4 true (.t 23), none⟩, ⟨some 25, .eq (.st [(0, .int .i64), (1, .int .i64), (2, .str), (3, .int .i64)]) true (.t 20) (.t 24), none⟩])
        (.cond (.t 25)
          (.seq (.reg [⟨some 4, .mv (.c (.x (.bool false))), none⟩])
          .ret)
          .skip)))
      (.reg [⟨some 15, .mv (.t 5), none⟩, ⟨some 16, .bin .add (.t 15) (.c (.x (.int .i64 (1)))), none⟩, ⟨some 5, .mv (.t 16), none⟩]))))))
  (.seq (.reg [⟨some 4, .mv (.c (.x (.bool true))), none⟩])
  .ret))))⟩
theorem c15 : compFn Try.prog Try.f15 = some i15 := by kernel_rfl
/-- bothy/script.check -/
def i39 : IFn := ⟨37, [.tmp 2], (.seq (.reg [⟨some 1, .box (.t 0), none⟩, ⟨some 2, .mv (.c (.x (.bool false))), none⟩])
  (.seq (.reg [⟨some 3, .fad 0 (.t 1), none⟩, ⟨some 4, .ld 1 false (.t 3), none⟩, ⟨some 5, .bin .geq (.t 4) (.c (.x (.int .i64 (1)))), none⟩, ⟨some 6, .mv (.t 5), none⟩, ⟨some 7, .fad 0 (.t 1), (some (6, true))⟩, ⟨some 8, .ld 1 false (.t 7), (some (6, true))⟩, ⟨some 9, .bin .leq (.t 8) (.c (.x (.int .i64 (5)))), (some (6, true))⟩, ⟨some 10, .pick (.t 6) (.t 9) (.c (.x (.bool false))), none⟩, ⟨some 11, .mv (.t 10), none⟩, ⟨some 12, .fad 1 (.t 1), (some (11, true))⟩, ⟨some 13, .ld 1 false (.t 12), (some (11, true))⟩, ⟨some 14, .bin .geq (.t 13) (.c (.x (.int .i64 (0)))), (some (11, true))⟩, ⟨some 15, .pick (.t 11) (.t 14) (.c (.x (.bool false))), none⟩, ⟨some 16, .mv (.t 15), none⟩, ⟨some 17, .fad 1 (.t 1), (some (16, true))⟩, ⟨some 18, .ld 1 false (.t 17), (some (16, true))⟩, ⟨some 19, .bin .leq (.t 18) (.c (.x (.int .i64 (255)))), (some (16, true))⟩, ⟨some 20, .pick (.t 16) (.t 19) (.c (.x (.bool false))), none⟩, ⟨some 21, .mv (.t 20), none⟩, ⟨some 22, .fad 3 (.t 1), (some (21, true))⟩, ⟨some 23, .ld 1 false (.t 22), (some (21, true))⟩, ⟨some 24, .bin .geq (.t 23) (.c (.x (.int .i64 (0)))), (some (21, true))⟩, ⟨some 25, .pick (.t 21) (.t 24) (.c (.x (.bool false))), none⟩, ⟨some 26, .mv (.t 25), none⟩, ⟨some 27, .fad 3 (.t 1), (some (26, true))⟩, ⟨some 28, .ld 1 false (.t 27), (some (26, true))⟩, ⟨some 29, .bin .leq (.t 28) (.c (.x (.int .i64 (2147483647)))), (some (26, true))⟩, ⟨some 30, .pick (.t 26) (.t 29) (.c (.x (.bool false))), none⟩, ⟨some 31, .mv (.t 30), none⟩, ⟨some 32, .fad 2 (.t 1), (some (31, true))⟩, ⟨some 33, .ld 1 false (.t 32), (some (31, true))⟩, ⟨some 34, .len true (.t 33), (some (31, true))⟩, ⟨some 35, .bin .leq (.t 34) (.c (.x (.int .i64 (4096)))), (some (31, true))⟩, ⟨some 36, .pick (.t 31) (.t 35) (.c (.x (.bool false))), none⟩, ⟨some 2, .mv (.t 36), none⟩])
  .ret))⟩
theorem c39 : compFn Try.prog Try.f39 = some i39 := by kernel_rfl
/-- bothy/script.one -/
def i40 : IFn := ⟨59, [.tmp 2], (.seq (.reg [⟨some 1, .box (.t 0), none⟩, ⟨some 2, .mv (.c (.x (.str []))), none⟩])
  (.seq (.reg [⟨some 3, .abx 136 (.c (.agg [.x (.str []), .x (.str []), .x (.str []), .x (.str [])])), none⟩])
  (.seq (.reg [⟨some 12, .fad 0 (.t 1), none⟩, ⟨some 13, .ld 1 false (.t 12), none⟩, ⟨some 14, .call (.c (.fn 69 [])) [(.t 13)], none⟩, ⟨some 11, .mv (.t 14), none⟩, ⟨some 15, .ext (.t 11) 0, none⟩, ⟨some 16, .ext (.t 11) 1, none⟩, ⟨some 17, .iada 1 4 (.t 3) (.c (.x (.int .i64 (0)))), none⟩, ⟨none, .sto 1 (.t 17) (.t 15), none⟩])
  (.seq (.reg [⟨some 19, .fad 1 (.t 1), none⟩, ⟨some 20, .ld 1 false (.t 19), none⟩, ⟨some 21, .call (.c (.fn 69 [])) [(.t 20)], none⟩, ⟨some 18, .mv (.t 21), none⟩, ⟨some 22, .ext (.t 18) 0, none⟩, ⟨some 23, .ext (.t 18) 1, none⟩, ⟨some 24, .iada 1 4 (.t 3) (.c (.x (.int .i64 (1)))), none⟩, ⟨none, .sto 1 (.t 24) (.t 22), none⟩])
  (.seq (.reg [⟨some 25, .fad 2 (.t 1), none⟩, ⟨some 26, .ld 1 false (.t 25), none⟩, ⟨some 27, .iada 1 4 (.t 3) (.c (.x (.int .i64 (2)))), none⟩, ⟨none, .sto 1 (.t 27) (.t 26), none⟩])
  (.seq (.reg [⟨some 29, .fad 3 (.t 1), none⟩, ⟨some 30, .ld 1 false (.t 29), none⟩, ⟨some 31, .call (.c (.fn 69 [])) [(.t 30)], none⟩, ⟨some 28, .mv (.t 31), none⟩, ⟨some 32, .ext (.t 28) 0, none⟩, ⟨some 33, .ext (.t 28) 1, none⟩, ⟨some 34, .iada 1 4 (.t 3) (.c (.x (.int .i64 (3)))), none⟩, ⟨none, .sto 1 (.t 34) (.t 32), none⟩])
  (.seq (.reg [⟨some 4, .mv (.c (.x (.str []))), none⟩])
  (.seq (.seq (.reg [⟨some 35, .call (.c (.fn 70 [])) [], none⟩, ⟨some 36, .mv (.c (.x (.int .i64 (0)))), none⟩])
  (.block 0
    (.loop
      (.seq (.reg [⟨some 37, .bin .lss (.t 36) (.c (.x (.int .i64 (4)))), none⟩])
      (.seq (.cond (.t 37)
        .skip
        (.exit 0))
      (.seq (.block 1
        (.seq (.reg [⟨some 38, .mv (.t 36), none⟩, ⟨some 39, .idxa 1 4 false (.t 35) (.t 36), none⟩, ⟨some 5, .mv (.t 38), none⟩, ⟨some 6, .mv (.t 39), none⟩])
        (.seq (.reg [⟨some 41, .mv (.t 6), none⟩, ⟨some 42, .mv (.t 5), none⟩, ⟨some 43, .iada 1 4 (.t 3) (.t 42), none⟩, ⟨some 44, .ld 1 false (.t 43), none⟩, ⟨some 45, .call (.c (.fn 71 [])) [(.t 41), (.t 44)], none⟩, ⟨some 40, .mv (.t 45), none⟩, ⟨some 46, .ext (.t 40) 0, none⟩, ⟨some 47, .ext (.t 40) 1, none⟩, ⟨some 7, .mv (.t 46), none⟩, ⟨some 8, .mv (.t 47), none⟩])
        (.reg [⟨some 48, .mv (.t 4), none⟩, ⟨some 49, .mv (.t 7), none⟩, ⟨some 50, .bin .add (.t 48) (.t 49), none⟩, ⟨some 4, .mv (.t 50), none⟩]))))
      (.reg [⟨some 51, .bin .add (.t 36) (.c (.x (.int .i64 (1)))), none⟩, ⟨some 36, .mv (.t 51), none⟩])))))))
  (.seq (.reg [⟨some 53, .mv (.t 4), none⟩, ⟨some 54, .bsl 9 1 1 [(.t 53)], none⟩, ⟨some 55, .call (.c (.fn 41 [])) [(.t 54)], none⟩, ⟨some 52, .mv (.t 55), none⟩, ⟨some 56, .ext (.t 52) 0, none⟩, ⟨some 57, .ext (.t 52) 1, none⟩, ⟨some 9, .mv (.t 56), none⟩, ⟨some 10, .mv (.t 57), none⟩])
  (.seq (.reg [⟨some 58, .mv (.t 9), none⟩, ⟨some 2, .mv (.t 58), none⟩])
  .ret))))))))))⟩
theorem c40 : compFn Try.prog Try.f40 = some i40 := by kernel_rfl
/-- bothy/tree.Seq -/
def i41 : IFn := ⟨9, [.tmp 2, .tmp 3], (.seq (.reg [⟨some 2, .mv (.c (.x (.str []))), none⟩, ⟨some 3, .mv (.c (.x (.int .i64 (0)))), none⟩])
  (.seq (.reg [⟨some 4, .mv (.t 0), none⟩, ⟨some 5, .call (.c (.fn 72 [])) [(.t 4), (.c (.x (.str [])))], none⟩, ⟨some 6, .call (.c (.fn 71 [])) [(.c (.x (.int .i64 (48)))), (.t 5)], none⟩, ⟨some 7, .ext (.t 6) 0, none⟩, ⟨some 8, .ext (.t 6) 1, none⟩, ⟨some 2, .mv (.t 7), none⟩, ⟨some 3, .mv (.t 8), none⟩])
  .ret))⟩
theorem c41 : compFn Try.prog Try.f41 = some i41 := by kernel_rfl
/-- bothy/bothyref31.check -/
def i42 : IFn := ⟨37, [.tmp 2], (.seq (.reg [⟨some 1, .box (.t 0), none⟩, ⟨some 2, .mv (.c (.x (.bool false))), none⟩])
  (.seq (.reg [⟨some 3, .fad 0 (.t 1), none⟩, ⟨some 4, .ld 1 false (.t 3), none⟩, ⟨some 5, .bin .geq (.t 4) (.c (.x (.int .i64 (1)))), none⟩, ⟨some 6, .mv (.t 5), none⟩, ⟨some 7, .fad 0 (.t 1), (some (6, true))⟩, ⟨some 8, .ld 1 false (.t 7), (some (6, true))⟩, ⟨some 9, .bin .leq (.t 8) (.c (.x (.int .i64 (5)))), (some (6, true))⟩, ⟨some 10, .pick (.t 6) (.t 9) (.c (.x (.bool false))), none⟩, ⟨some 11, .mv (.t 10), none⟩, ⟨some 12, .fad 1 (.t 1), (some (11, true))⟩, ⟨some 13, .ld 1 false (.t 12), (some (11, true))⟩, ⟨some 14, .bin .geq (.t 13) (.c (.x (.int .i64 (0)))), (some (11, true))⟩, ⟨some 15, .pick (.t 11) (.t 14) (.c (.x (.bool false))), none⟩, ⟨some 16, .mv (.t 15), none⟩, ⟨some 17, .fad 1 (.t 1), (some (16, true))⟩, ⟨some 18, .ld 1 false (.t 17), (some (16, true))⟩, ⟨some 19, .bin .leq (.t 18) (.c (.x (.int .i64 (255)))), (some (16, true))⟩, ⟨some 20, .pick (.t 16) (.t 19) (.c (.x (.bool false))), none⟩, ⟨some 21, .mv (.t 20), none⟩, ⟨some 22, .fad 3 (.t 1), (some (21, true))⟩, ⟨some 23, .ld 1 false (.t 22), (some (21, true))⟩, ⟨some 24, .bin .geq (.t 23) (.c (.x (.int .i64 (0)))), (some (21, true))⟩, ⟨some 25, .pick (.t 21) (.t 24) (.c (.x (.bool false))), none⟩, ⟨some 26, .mv (.t 25), none⟩, ⟨some 27, .fad 3 (.t 1), (some (26, true))⟩, ⟨some 28, .ld 1 false (.t 27), (some (26, true))⟩, ⟨some 29, .bin .leq (.t 28) (.c (.x (.int .i64 (2147483647)))), (some (26, true))⟩, ⟨some 30, .pick (.t 26) (.t 29) (.c (.x (.bool false))), none⟩, ⟨some 31, .mv (.t 30), none⟩, ⟨some 32, .fad 2 (.t 1), (some (31, true))⟩, ⟨some 33, .ld 1 false (.t 32), (some (31, true))⟩, ⟨some 34, .len true (.t 33), (some (31, true))⟩, ⟨some 35, .bin .leq (.t 34) (.c (.x (.int .i64 (4096)))), (some (31, true))⟩, ⟨some 36, .pick (.t 31) (.t 35) (.c (.x (.bool false))), none⟩, ⟨some 2, .mv (.t 36), none⟩])
  .ret))⟩
theorem c42 : compFn Try.prog Try.f42 = some i42 := by kernel_rfl
/-- bothy/bothyref01.Put -/
def i43 : IFn := ⟨24, [.tmp 4, .tmp 5], (.seq (.reg [⟨some 4, .mv (.c (.x (.str []))), none⟩, ⟨some 5, .mv (.c (.x (.int .i64 (0)))), none⟩])
  (.seq (.block 0
    (.seq (.reg [⟨some 7, .mv (.t 0), none⟩, ⟨some 8, .call (.c (.fn 73 [])) [(.t 7)], none⟩, ⟨some 9, .un .not (.t 8), none⟩, ⟨some 6, .mv (.t 9), none⟩])
    (.cond (.t 6)
      (.seq (.reg [⟨some 4, .mv (.c (.x (.str []))), none⟩, ⟨some 5, .mv (.c (.x (.int .i64 (6)))), none⟩])
      .ret)
      (.seq (.reg [⟨some 11, .mv (.t 1), none⟩, ⟨some 12, .len true (.t 11), none⟩, ⟨some 13, .bin .gtr (.t 12) (.c (.x (.int .i64 (65536)))), none⟩, ⟨some 10, .mv (.t 13), none⟩])
      (.cond (.t 10)
        (.seq (.reg [⟨some 4, .mv (.c (.x (.str []))), none⟩, ⟨some 5, .mv (.c (.x (.int .i64 (3)))), none⟩])
        .ret)
        .skip)))))
  (.seq (.dreg 7 [] [⟨some 14, .mv (.t 0), none⟩, ⟨some 15, .cvi .u8 (.t 14), none⟩, ⟨some 16, .bsl 5 1 1 [(.t 15)], none⟩, ⟨some 17, .b2s (.t 16), none⟩, ⟨some 18, .mv (.t 1), none⟩, ⟨some 19, .len true (.t 18), none⟩, ⟨some 20, .call (.c (.fn 74 [])) [(.t 19)], none⟩, ⟨some 21, .bin .add (.t 17) (.t 20), none⟩, ⟨some 22, .mv (.t 1), none⟩, ⟨some 23, .bin .add (.t 21) (.t 22), none⟩, ⟨some 4, .mv (.t 23), none⟩, ⟨some 5, .mv (.c (.x (.int .i64 (0)))), none⟩])
  .ret)))⟩
theorem c43 : compFn Try.prog Try.f43 = some i43 := by kernel_rfl
/-- bothy/bothyref31.num -/
def i44 : IFn := ⟨21, [.tmp 4], (.seq (.reg [⟨some 4, .mv (.c (.x (.str []))), none⟩])
  (.seq (.reg [⟨some 10, .mv (.t 1), none⟩, ⟨some 11, .call (.c (.fn 75 [])) [(.t 10)], none⟩, ⟨some 9, .mv (.t 11), none⟩, ⟨some 12, .ext (.t 9) 0, none⟩, ⟨some 13, .ext (.t 9) 1, none⟩, ⟨some 5, .mv (.t 12), none⟩, ⟨some 6, .mv (.t 13), none⟩])
  (.seq (.reg [⟨some 15, .mv (.t 0), none⟩, ⟨some 16, .mv (.t 5), none⟩, ⟨some 17, .call (.c (.fn 43 [])) [(.t 15), (.t 16)], none⟩, ⟨some 14, .mv (.t 17), none⟩, ⟨some 18, .ext (.t 14) 0, none⟩, ⟨some 19, .ext (.t 14) 1, none⟩, ⟨some 7, .mv (.t 18), none⟩, ⟨some 8, .mv (.t 19), none⟩])
  (.seq (.reg [⟨some 20, .mv (.t 7), none⟩, ⟨some 4, .mv (.t 20), none⟩])
  .ret))))⟩
theorem c44 : compFn Try.prog Try.f44 = some i44 := by kernel_rfl
/-- bothy/ber.Read -/
def i45 : IFn := ⟨40, [.cell 2 2 true, .tmp 3, .tmp 4], (.seq (.reg [⟨some 2, .box (.c (.agg [.x (.int .i64 (0)), .x (.str [])])), none⟩, ⟨some 3, .mv (.c (.x (.int .i64 (0)))), none⟩, ⟨some 4, .mv (.c (.x (.int .i64 (0)))), none⟩])
  (.seq (.reg [⟨some 10, .mv (.t 0), none⟩, ⟨some 11, .call (.c (.fn 76 [])) [(.t 10)], none⟩, ⟨some 9, .mv (.t 11), none⟩, ⟨some 12, .ext (.t 9) 0, none⟩, ⟨some 13, .ext (.t 9) 1, none⟩, ⟨some 14, .ext (.t 9) 2, none⟩, ⟨some 15, .ext (.t 9) 3, none⟩, ⟨some 5, .mv (.t 12), none⟩, ⟨some 6, .mv (.t 13), none⟩, ⟨some 7, .mv (.t 14), none⟩, ⟨some 8, .mv (.t 15), none⟩])
  (.seq (.block 0
    (.seq (.reg [⟨some 17, .mv (.t 8), none⟩, ⟨some 18, .bin .neq (.t 17) (.c (.x (.int .i64 (0)))), none⟩, ⟨some 16, .mv (.t 18), none⟩])
    (.cond (.t 16)
      (.seq (.reg [⟨some 19, .build [.x (.int .i64 (0)), .x (.str [])] [], none⟩, ⟨some 20, .mv (.t 8), none⟩, ⟨none, .sto 2 (.t 2) (.t 19), none⟩, ⟨some 3, .mv (.c (.x (.int .i64 (0)))), none⟩, ⟨some 4, .mv (.t 20), none⟩])
      .ret)
      (.seq (.reg [⟨some 22, .mv (.t 0), none⟩, ⟨some 23, .len true (.t 22), none⟩, ⟨some 24, .mv (.t 7), none⟩, ⟨some 25, .bin .sub (.t 23) (.t 24), none⟩, ⟨some 26, .mv (.t 6), none⟩, ⟨some 27, .bin .lss (.t 25) (.t 26), none⟩, ⟨some 21, .mv (.t 27), none⟩])
      (.cond (.t 21)
        (.seq (.reg [⟨some 28, .build [.x (.int .i64 (0)), .x (.str [])] [], none⟩, ⟨none, .sto 2 (.t 2) (.t 28), none⟩, ⟨some 3, .mv (.c (.x (.int .i64 (0)))), none⟩, ⟨some 4, .mv (.c (.x (.int .i64 (4)))), none⟩])
        .ret)
        .skip)))))
  (.seq (.reg [⟨some 29, .mv (.t 5), none⟩, ⟨some 30, .mv (.t 0), none⟩, ⟨some 31, .mv (.t 7), none⟩, ⟨some 32, .mv (.t 7), none⟩, ⟨some 33, .mv (.t 6), none⟩, ⟨some 34, .bin .add (.t 32) (.t 33), none⟩, ⟨some 35, .slc 0 (.t 30) (some (.t 31)) (some (.t 34)) none, none⟩, ⟨some 36, .build [.x (.int .i64 (0)), .x (.str [])] [(0, 1, (.t 29)), (1, 1, (.t 35))], none⟩, ⟨some 37, .mv (.t 7), none⟩, ⟨some 38, .mv (.t 6), none⟩, ⟨some 39, .bin .add (.t 37) (.t 38), none⟩, ⟨none, .sto 2 (.t 2) (.t 36), none⟩, ⟨some 3, .mv (.t 39), none⟩, ⟨some 4, .mv (.c (.x (.int .i64 (0)))), none⟩])
  .ret))))⟩
theorem c45 : compFn Try.prog Try.f45 = some i45 := by kernel_rfl
/-- bothy/ber.All -/
def i46 : IFn := ⟨32, [.tmp 2, .tmp 3], (.seq (.reg [⟨some 2, .mv (.c (.x .nils)), none⟩, ⟨some 3, .mv (.c (.x (.int .i64 (0)))), none⟩])
  (.seq (.reg [⟨some 4, .mv (.c (.x .nils)), none⟩])
  (.seq (.block 0
    (.loop
      (.seq (.seq (.reg [⟨some 8, .mv (.t 0), none⟩, ⟨some 9, .bin .neq (.t 8) (.c (.x (.str []))), none⟩])
      (.cond (.t 9)
        .skip
        (.exit 0)))
      (.block 1
        (.seq (.reg [⟨some 11, .mv (.t 0), none⟩, ⟨some 12, .call (.c (.fn 45 [])) [(.t 11)], none⟩, ⟨some 10, .mv (.t 12), none⟩, ⟨some 13, .ext (.t 10) 0, none⟩, ⟨some 14, .ext (.t 10) 1, none⟩, ⟨some 15, .ext (.t 10) 2, none⟩, ⟨some 5, .box (.c (.agg [.x (.int .i64 (0)), .x (.str [])])), none⟩, ⟨none, .sto 2 (.t 5) (.t 13), none⟩, ⟨some 6, .mv (.t 14), none⟩, ⟨some 7, .mv (.t 15), none⟩])
        (.seq (.block 2
          (.seq (.reg [⟨some 17, .mv (.t 7), none⟩, ⟨some 18, .bin .neq (.t 17) (.c (.x (.int .i64 (0)))), none⟩, ⟨some 16, .mv (.t 18), none⟩])
          (.cond (.t 16)
            (.seq (.reg [⟨some 19, .mv (.t 7), none⟩, ⟨some 2, .mv (.c (.x .nils)), none⟩, ⟨some 3, .mv (.t 19), none⟩])
            .ret)
            (.seq (.reg [⟨some 21, .mv (.t 4), none⟩, ⟨some 22, .len false (.t 21), none⟩, ⟨some 23, .bin .eql (.t 22) (.c (.x (.int .i64 (1024)))), none⟩, ⟨some 20, .mv (.t 23), none⟩])
            (.cond (.t 20)
              (.seq (.reg [⟨some 2, .mv (.c (.x .nils)), none⟩, ⟨some 3, .mv (.c (.x (.int .i64 (3)))), none⟩])
              .ret)
              .skip)))))
        (.seq (.reg [⟨some 24, .mv (.t 4), none⟩, ⟨some 25, .ld 2 true (.t 5), none⟩, ⟨some 26, .bsl 96 2 1 [(.t 25)], none⟩, ⟨some 27, .app 96 2 24 (.t 24) (.t 26), none⟩, ⟨some 4, .mv (.t 27), none⟩])
        (.reg [⟨some 28, .mv (.t 0), none⟩, ⟨some 29, .mv (.t 6), none⟩, ⟨some 30, .slc 0 (.t 28) (some (.t 29)) none none, none⟩, ⟨some 0, .mv (.t 30), none⟩]))))))))
  (.seq (.reg [⟨some 31, .mv (.t 4), none⟩, ⟨some 2, .mv (.t 31), none⟩, ⟨some 3, .mv (.c (.x (.int .i64 (0)))), none⟩])
  .ret))))⟩
theorem c46 : compFn Try.prog Try.f46 = some i46 := by kernel_rfl
/-- bothy/script.read -/
def i47 : IFn := ⟨77, [.cell 2 4 true, .tmp 3], (.seq (.reg [⟨some 1, .box (.t 0), none⟩, ⟨some 2, .box (.c (.agg [.x (.int .i64 (0)), .x (.int .i64 (0)), .x (.str []), .x (.int .i64 (0))])), none⟩, ⟨some 3, .mv (.c (.x (.bool false))), none⟩])
  (.seq (.reg [⟨some 17, .fad 0 (.t 1), none⟩, ⟨some 18, .ld 1 false (.t 17), none⟩, ⟨some 19, .fad 1 (.t 1), none⟩, ⟨some 20, .ld 1 false (.t 19), none⟩, ⟨some 21, .call (.c (.fn 71 [])) [(.t 18), (.t 20)], none⟩, ⟨some 16, .mv (.t 21), none⟩, ⟨some 22, .ext (.t 16) 0, none⟩, ⟨some 23, .ext (.t 16) 1, none⟩, ⟨some 4, .mv (.t 22), none⟩, ⟨some 5, .mv (.t 23), none⟩])
  (.seq (.reg [⟨some 24, .call (.c (.fn 70 [])) [], none⟩, ⟨some 6, .abx 138 (.c (.agg [.x (.int .i64 (0)), .x (.int .i64 (0)), .x (.int .i64 (0)), .x (.int .i64 (0))])), none⟩, ⟨none, .sto 4 (.t 6) (.t 24), none⟩])
  (.seq (.reg [⟨some 26, .mv (.t 4), none⟩, ⟨some 27, .asl 4 (.t 6) none, none⟩, ⟨some 28, .call (.c (.fn 65 [])) [(.t 26), (.t 27)], none⟩, ⟨some 25, .mv (.t 28), none⟩, ⟨some 29, .ext (.t 25) 0, none⟩, ⟨some 30, .ext (.t 25) 1, none⟩, ⟨some 7, .mv (.t 29), none⟩, ⟨some 8, .mv (.t 30), none⟩])
  (.seq (.seq (.reg [⟨some 31, .mv (.t 8), none⟩, ⟨some 32, .bin .neq (.t 31) (.c (.x (.int .i64 (0)))), none⟩])
  (.cond (.t 32)
    (.seq (.reg [⟨some 33, .build [.x (.int .i64 (0)), .x (.int .i64 (0)), .x (.str []), .x (.int .i64 (0))] [], none⟩, ⟨none, .sto 4 (.t 2) (.t 33), none⟩, ⟨some 3, .mv (.c (.x (.bool false))), none⟩])
    .ret)
    .skip))
  (.seq (.reg [⟨some 35, .mv (.t 7), none⟩, ⟨some 36, .iad 1 (.t 35) (.c (.x (.int .i64 (0)))), none⟩, ⟨some 37, .ld 1 false (.t 36), none⟩, ⟨some 38, .call (.c (.fn 66 [])) [(.t 37)], none⟩, ⟨some 34, .mv (.t 38), none⟩, ⟨some 39, .ext (.t 34) 0, none⟩, ⟨some 40, .ext (.t 34) 1, none⟩, ⟨some 9, .mv (.t 39), none⟩, ⟨some 10, .mv (.t 40), none⟩])
  (.seq (.reg [⟨some 42, .mv (.t 7), none⟩, ⟨some 43, .iad 1 (.t 42) (.c (.x (.int .i64 (1)))), none⟩, ⟨some 44, .ld 1 false (.t 43), none⟩, ⟨some 45, .call (.c (.fn 66 [])) [(.t 44)], none⟩, ⟨some 41, .mv (.t 45), none⟩, ⟨some 46, .ext (.t 41) 0, none⟩, ⟨some 47, .ext (.t 41) 1, none⟩, ⟨some 11, .mv (.t 46), none⟩, ⟨some 12, .mv (.t 47), none⟩])
  (.seq (.reg [⟨some 49, .mv (.t 7), none⟩, ⟨some 50, .iad 1 (.t 49) (.c (.x (.int .i64 (3)))), none⟩, ⟨some 51, .ld 1 false (.t 50), none⟩, ⟨some 52, .call (.c (.fn 66 [])) [(.t 51)], none⟩, ⟨some 48, .mv (.t 52), none⟩, ⟨some 53, .ext (.t 48) 0, none⟩, ⟨some 54, .ext (.t 48) 1, none⟩, ⟨some 13, .mv (.t 53), none⟩, ⟨some 14, .mv (.t 54), none⟩])
  (.seq (.reg [⟨some 55, .mv (.t 9), none⟩, ⟨some 56, .mv (.t 11), none⟩, ⟨some 57, .mv (.t 7), none⟩, ⟨some 58, .iad 1 (.t 57) (.c (.x (.int .i64 (2)))), none⟩, ⟨some 59, .ld 1 false (.t 58), none⟩, ⟨some 60, .mv (.t 13), none⟩, ⟨some 61, .build [.x (.int .i64 (0)), .x (.int .i64 (0)), .x (.str []), .x (.int .i64 (0))] [(0, 1, (.t 55)), (1, 1, (.t 56)), (2, 1, (.t 59)), (3, 1, (.t 60))], none⟩, ⟨some 15, .box (.c (.agg [.x (.int .i64 (0)), .x (.int .i64 (0)), .x (.str []), .x (.int .i64 (0))])), none⟩, ⟨none, .sto 4 (.t 15) (.t 61), none⟩])
  (.seq (.dreg 14 [] [⟨some 62, .ld 4 true (.t 15), none⟩, ⟨some 63, .mv (.t 10), none⟩, ⟨some 64, .bin .eql (.t 63) (.c (.x (.int .i64 (0)))), none⟩, ⟨some 65, .mv (.t 64), none⟩, ⟨some 66, .mv (.t 12), (some (65, true))⟩, ⟨some 67, .bin .eql (.t 66) (.c (.x (.int .i64 (0)))), (some (65, true))⟩, ⟨some 68, .pick (.t 65) (.t 67) (.c (.x (.bool false))), none⟩, ⟨some 69, .mv (.t 68), none⟩, ⟨some 70, .mv (.t 14), (some (69, true))⟩, ⟨some 71, .bin .eql (.t 70) (.c (.x (.int .i64 (0)))), (some (69, true))⟩, ⟨some 72, .pick (.t 69) (.t 71) (.c (.x (.bool false))), none⟩, ⟨some 73, .mv (.t 72), none⟩, ⟨some 74, .ld 4 true (.t 15), (some (73, true))⟩, ⟨some 75, .call (.c (.fn 39 [])) [(.t 74)], (some (73, true))⟩, ⟨some 76, .pick (.t 73) (.t 75) (.c (.x (.bool false))), none⟩, ⟨none, .sto 4 (.t 2) (.t 62), none⟩, ⟨some 3, .mv (.t 76), none⟩])
  .ret))))))))))⟩
theorem c47 : compFn Try.prog Try.f47 = some i47 := by kernel_rfl
/-- bothy/bothyref01.Read -/
def i48 : IFn := ⟨40, [.cell 2 2 true, .tmp 3, .tmp 4], (.seq (.reg [⟨some 2, .box (.c (.agg [.x (.int .i64 (0)), .x (.str [])])), none⟩, ⟨some 3, .mv (.c (.x (.int .i64 (0)))), none⟩, ⟨some 4, .mv (.c (.x (.int .i64 (0)))), none⟩])
  (.seq (.reg [⟨some 10, .mv (.t 0), none⟩, ⟨some 11, .call (.c (.fn 77 [])) [(.t 10)], none⟩, ⟨some 9, .mv (.t 11), none⟩, ⟨some 12, .ext (.t 9) 0, none⟩, ⟨some 13, .ext (.t 9) 1, none⟩, ⟨some 14, .ext (.t 9) 2, none⟩, ⟨some 15, .ext (.t 9) 3, none⟩, ⟨some 5, .mv (.t 12), none⟩, ⟨some 6, .mv (.t 13), none⟩, ⟨some 7, .mv (.t 14), none⟩, ⟨some 8, .mv (.t 15), none⟩])
  (.seq (.block 0
    (.seq (.reg [⟨some 17, .mv (.t 8), none⟩, ⟨some 18, .bin .neq (.t 17) (.c (.x (.int .i64 (0)))), none⟩, ⟨some 16, .mv (.t 18), none⟩])
    (.cond (.t 16)
      (.seq (.reg [⟨some 19, .build [.x (.int .i64 (0)), .x (.str [])] [], none⟩, ⟨some 20, .mv (.t 8), none⟩, ⟨none, .sto 2 (.t 2) (.t 19), none⟩, ⟨some 3, .mv (.c (.x (.int .i64 (0)))), none⟩, ⟨some 4, .mv (.t 20), none⟩])
      .ret)
      (.seq (.reg [⟨some 22, .mv (.t 0), none⟩, ⟨some 23, .len true (.t 22), none⟩, ⟨some 24, .mv (.t 7), none⟩, ⟨some 25, .bin .sub (.t 23) (.t 24), none⟩, ⟨some 26, .mv (.t 6), none⟩, ⟨some 27, .bin .lss (.t 25) (.t 26), none⟩, ⟨some 21, .mv (.t 27), none⟩])
      (.cond (.t 21)
        (.seq (.reg [⟨some 28, .build [.x (.int .i64 (0)), .x (.str [])] [], none⟩, ⟨none, .sto 2 (.t 2) (.t 28), none⟩, ⟨some 3, .mv (.c (.x (.int .i64 (0)))), none⟩, ⟨some 4, .mv (.c (.x (.int .i64 (4)))), none⟩])
        .ret)
        .skip)))))
  (.seq (.reg [⟨some 29, .mv (.t 5), none⟩, ⟨some 30, .mv (.t 0), none⟩, ⟨some 31, .mv (.t 7), none⟩, ⟨some 32, .mv (.t 7), none⟩, ⟨some 33, .mv (.t 6), none⟩, ⟨some 34, .bin .add (.t 32) (.t 33), none⟩, ⟨some 35, .slc 0 (.t 30) (some (.t 31)) (some (.t 34)) none, none⟩, ⟨some 36, .build [.x (.int .i64 (0)), .x (.str [])] [(0, 1, (.t 29)), (1, 1, (.t 35))], none⟩, ⟨some 37, .mv (.t 7), none⟩, ⟨some 38, .mv (.t 6), none⟩, ⟨some 39, .bin .add (.t 37) (.t 38), none⟩, ⟨none, .sto 2 (.t 2) (.t 36), none⟩, ⟨some 3, .mv (.t 39), none⟩, ⟨some 4, .mv (.c (.x (.int .i64 (0)))), none⟩])
  .ret))))⟩
theorem c48 : compFn Try.prog Try.f48 = some i48 := by kernel_rfl
/-- bothy/bothyref01.All -/
def i49 : IFn := ⟨30, [.tmp 2, .tmp 3], (.seq (.reg [⟨some 2, .mv (.c (.x .nils)), none⟩, ⟨some 3, .mv (.c (.x (.int .i64 (0)))), none⟩])
  (.seq (.reg [⟨some 4, .mv (.c (.x .nils)), none⟩])
  (.seq (.block 0
    (.loop
      (.seq (.seq (.reg [⟨some 8, .mv (.t 0), none⟩, ⟨some 9, .bin .neq (.t 8) (.c (.x (.str []))), none⟩])
      (.cond (.t 9)
        .skip
        (.exit 0)))
      (.block 1
        (.seq (.reg [⟨some 11, .mv (.t 0), none⟩, ⟨some 12, .call (.c (.fn 48 [])) [(.t 11)], none⟩, ⟨some 10, .mv (.t 12), none⟩, ⟨some 13, .ext (.t 10) 0, none⟩, ⟨some 14, .ext (.t 10) 1, none⟩, ⟨some 15, .ext (.t 10) 2, none⟩, ⟨some 5, .box (.c (.agg [.x (.int .i64 (0)), .x (.str [])])), none⟩, ⟨none, .sto 2 (.t 5) (.t 13), none⟩, ⟨some 6, .mv (.t 14), none⟩, ⟨some 7, .mv (.t 15), none⟩])
        (.seq (.seq (.reg [⟨some 16, .mv (.t 7), none⟩, ⟨some 17, .bin .neq (.t 16) (.c (.x (.int .i64 (0)))), none⟩])
        (.cond (.t 17)
          (.seq (.reg [⟨some 18, .mv (.t 7), none⟩, ⟨some 2, .mv (.c (.x .nils)), none⟩, ⟨some 3, .mv (.t 18), none⟩])
          .ret)
          .skip))
        (.seq (.seq (.reg [⟨some 19, .mv (.t 4), none⟩, ⟨some 20, .len false (.t 19), none⟩, ⟨some 21, .bin .eql (.t 20) (.c (.x (.int .i64 (1024)))), none⟩])
        (.cond (.t 21)
          (.seq (.reg [⟨some 2, .mv (.c (.x .nils)), none⟩, ⟨some 3, .mv (.c (.x (.int .i64 (3)))), none⟩])
          .ret)
          .skip))
        (.seq (.reg [⟨some 22, .mv (.t 4), none⟩, ⟨some 23, .ld 2 true (.t 5), none⟩, ⟨some 24, .bsl 96 2 1 [(.t 23)], none⟩, ⟨some 25, .app 96 2 24 (.t 22) (.t 24), none⟩, ⟨some 4, .mv (.t 25), none⟩])
        (.reg [⟨some 26, .mv (.t 0), none⟩, ⟨some 27, .mv (.t 6), none⟩, ⟨some 28, .slc 0 (.t 26) (some (.t 27)) none none, none⟩, ⟨some 0, .mv (.t 28), none⟩])))))))))
  (.seq (.reg [⟨some 29, .mv (.t 4), none⟩, ⟨some 2, .mv (.t 29), none⟩, ⟨some 3, .mv (.c (.x (.int .i64 (0)))), none⟩])
  .ret))))⟩
theorem c49 : compFn Try.prog Try.f49 = some i49 := by kernel_rfl
/-- bothy/bothyref02.Read -/
def i50 : IFn := ⟨54, [.tmp 2, .tmp 3], (.seq (.reg [⟨some 2, .mv (.c (.x (.int .i64 (0)))), none⟩, ⟨some 3, .mv (.c (.x (.int .i64 (0)))), none⟩])
  (.seq (.block 0
    (.seq (.reg [⟨some 7, .mv (.t 0), none⟩, ⟨some 8, .bin .eql (.t 7) (.c (.x (.str []))), none⟩, ⟨some 6, .mv (.t 8), none⟩])
    (.cond (.t 6)
      (.seq (.reg [⟨some 2, .mv (.c (.x (.int .i64 (0)))), none⟩, ⟨some 3, .mv (.c (.x (.int .i64 (4)))), none⟩])
      .ret)
      (.seq (.reg [⟨some 10, .mv (.t 0), none⟩, ⟨some 11, .len true (.t 10), none⟩, ⟨some 12, .bin .gtr (.t 11) (.c (.x (.int .i64 (1)))), none⟩, ⟨some 13, .mv (.t 12), none⟩, ⟨some 14, .mv (.t 0), (some (13, true))⟩, ⟨some 15, .idx (.t 14) (.c (.x (.int .i64 (0)))), (some (13, true))⟩, ⟨some 16, .bin .eql (.t 15) (.c (.x (.int .u8 (0)))), (some (13, true))⟩, ⟨some 17, .mv (.t 16), (some (13, true))⟩, ⟨some 18, .mv (.t 0), (some (17, true))⟩, ⟨some 19, .idx (.t 18) (.c (.x (.int .i64 (1)))), (some (17, true))⟩, ⟨some 20, .bin .lss (.t 19) (.c (.x (.int .u8 (128)))), (some (17, true))⟩, ⟨some 21, .pick (.t 17) (.t 20) (.c (.x (.bool false))), (some (13, true))⟩, ⟨some 22, .mv (.t 21), (some (13, true))⟩, ⟨some 23, .mv (.t 0), (some (22, false))⟩, ⟨some 24, .idx (.t 23) (.c (.x (.int .i64 (0)))), (some (22, false))⟩, ⟨some 25, .bin .eql (.t 24) (.c (.x (.int .u8 (255)))), (some (22, false))⟩, ⟨some 26, .mv (.t 25), (some (22, false))⟩, ⟨some 27, .mv (.t 0), (some (26, true))⟩, ⟨some 28, .idx (.t 27) (.c (.x (.int .i64 (1)))), (some (26, true))⟩, ⟨some 29, .bin .geq (.t 28) (.c (.x (.int .u8 (128)))), (some (26, true))⟩, ⟨some 30, .pick (.t 26) (.t 29) (.c (.x (.bool false))), (some (22, false))⟩, ⟨some 31, .pick (.t 22) (.c (.x (.bool true))) (.t 30), (some (13, true))⟩, ⟨some 32, .pick (.t 13) (.t 31) (.c (.x (.bool false))), none⟩, ⟨some 9, .mv (.t 32), none⟩])
      (.cond (.t 9)
        (.seq (.reg [⟨some 2, .mv (.c (.x (.int .i64 (0)))), none⟩, ⟨some 3, .mv (.c (.x (.int .i64 (5)))), none⟩])
        .ret)
        (.seq (.reg [⟨some 34, .mv (.t 0), none⟩, ⟨some 35, .len true (.t 34), none⟩, ⟨some 36, .bin .gtr (.t 35) (.c (.x (.int .i64 (4)))), none⟩, ⟨some 33, .mv (.t 36), none⟩])
        (.cond (.t 33)
          (.seq (.reg [⟨some 2, .mv (.c (.x (.int .i64 (0)))), none⟩, ⟨some 3, .mv (.c (.x (.int .i64 (3)))), none⟩])
          .ret)
          .skip)))))))
  (.seq (.reg [⟨some 4, .mv (.c (.x (.int .i64 (0)))), none⟩])
  (.seq (.seq (.reg [⟨some 37, .mv (.t 0), none⟩, ⟨some 38, .idx (.t 37) (.c (.x (.int .i64 (0)))), none⟩, ⟨some 39, .bin .geq (.t 38) (.c (.x (.int .u8 (128)))), none⟩])
  (.cond (.t 39)
    (.reg [⟨some 4, .mv (.c (.x (.int .i64 (-1)))), none⟩])
    .skip))
  (.seq (.seq (.reg [⟨some 5, .mv (.c (.x (.int .i64 (0)))), none⟩])
  (.block 1
    (.loop
      (.seq (.seq (.reg [⟨some 40, .mv (.t 5), none⟩, ⟨some 41, .mv (.t 0), none⟩, ⟨some 42, .len true (.t 41), none⟩, ⟨some 43, .bin .lss (.t 40) (.t 42), none⟩])
      (.cond (.t 43)
        .skip
        (.exit 1)))
      (.seq (.block 2
        (.reg [⟨some 46, .mv (.t 4), none⟩, ⟨some 47, .bin .mul (.t 46) (.c (.x (.int .i64 (256)))), none⟩, ⟨some 48, .mv (.t 0), none⟩, ⟨some 49, .mv (.t 5), none⟩, ⟨some 50, .idx (.t 48) (.t 49), none⟩, ⟨some 51, .cvi .i64 (.t 50), none⟩, ⟨some 52, .bin .add (.t 47) (.t 51), none⟩, ⟨some 4, .mv (.t 52), none⟩]))
      (.reg [⟨some 44, .mv (.t 5), none⟩, ⟨some 45, .bin .add (.t 44) (.c (.x (.int .i64 (1)))), none⟩, ⟨some 5, .mv (.t 45), none⟩]))))))
  (.seq (.reg [⟨some 53, .mv (.t 4), none⟩, ⟨some 2, .mv (.t 53), none⟩, ⟨some 3, .mv (.c (.x (.int .i64 (0)))), none⟩])
  .ret))))))⟩
theorem c50 : compFn Try.prog Try.f50 = some i50 := by kernel_rfl
/-- bothy/bothyref01.Texts -/
def i56 : IFn := ⟨26, [.tmp 4], (.seq (.reg [⟨some 4, .mv (.c (.x (.bool false))), none⟩])
  (.seq (.seq (.reg [⟨some 6, .mv (.t 0), none⟩, ⟨some 7, .len false (.t 6), none⟩, ⟨some 8, .mv (.t 1), none⟩, ⟨some 9, .len false (.t 8), none⟩, ⟨some 10, .bin .neq (.t 7) (.t 9), none⟩])
  (.cond (.t 10)
    (.seq (.reg [⟨some 4, .mv (.c (.x (.bool false))), none⟩])
    .ret)
    .skip))
  (.seq (.seq (.reg [⟨some 5, .mv (.c (.x (.int .i64 (0)))), none⟩])
  (.block 0
    (.loop
      (.seq (.seq (.reg [⟨some 11, .mv (.t 5), none⟩, ⟨some 12, .mv (.t 0), none⟩, ⟨some 13, .len false (.t 12), none⟩, ⟨some 14, .bin .lss (.t 11) (.t 13), none⟩])
      (.cond (.t 14)
        .skip
        (.exit 0)))
      (.seq (.block 1
        (.seq (.dreg 8 [] [⟨some 17, .mv (.t 0), none⟩, ⟨some 18, .mv (.t 5), none⟩, ⟨some 19, .iad 1 (.t 17) (.t 18), none⟩, ⟨some 20, .ld 1 false (.t 19), none⟩, ⟨some 21, .mv (.t 1), none⟩, ⟨some 22, .mv (.t 5), none⟩, ⟨some 23, .iad 1 (.t 21) (.t 22), none⟩, ⟨some 24, .ld 1 false (.t 23), none⟩, ⟨some 25, .bin .neq (.t 20) (.t 24), none⟩])
        (.cond (.t 25)
          (.seq (.reg [⟨some 4, .mv (.c (.x (.bool false))), none⟩])
          .ret)
          .skip)))
      (.reg [⟨some 15, .mv (.t 5), none⟩, ⟨some 16, .bin .add (.t 15) (.c (.x (.int .i64 (1)))), none⟩, ⟨some 5, .mv (.t 16), none⟩]))))))
  (.seq (.reg [⟨some 4, .mv (.c (.x (.bool true))), none⟩])
  .ret))))⟩
theorem c56 : compFn Try.prog Try.f56 = some i56 := by kernel_rfl
/-- bothy/control.known -/
def i64 : IFn := ⟨17, [.tmp 2], (.seq (.reg [⟨some 2, .mv (.c (.x (.bool false))), none⟩])
  (.seq (.reg [⟨some 3, .mv (.t 0), none⟩, ⟨some 4, .bin .eql (.t 3) (.c (.x (.int .i64 (1)))), none⟩, ⟨some 5, .mv (.t 4), none⟩, ⟨some 6, .mv (.t 0), (some (5, false))⟩, ⟨some 7, .bin .eql (.t 6) (.c (.x (.int .i64 (2)))), (some (5, false))⟩, ⟨some 8, .pick (.t 5) (.c (.x (.bool true))) (.t 7), none⟩, ⟨some 9, .mv (.t 8), none⟩, ⟨some 10, .mv (.t 0), (some (9, false))⟩, ⟨some 11, .bin .eql (.t 10) (.c (.x (.int .i64 (4)))), (some (9, false))⟩, ⟨some 12, .pick (.t 9) (.c (.x (.bool true))) (.t 11), none⟩, ⟨some 13, .mv (.t 12), none⟩, ⟨some 14, .mv (.t 0), (some (13, false))⟩, ⟨some 15, .bin .eql (.t 14) (.c (.x (.int .i64 (8)))), (some (13, false))⟩, ⟨some 16, .pick (.t 13) (.c (.x (.bool true))) (.t 15), none⟩, ⟨some 2, .mv (.t 16), none⟩])
  .ret))⟩
theorem c64 : compFn Try.prog Try.f64 = some i64 := by kernel_rfl
/-- bothy/tree.Parts -/
def i65 : IFn := ⟨69, [.tmp 4, .tmp 5], (.seq (.reg [⟨some 4, .mv (.c (.x .nils)), none⟩, ⟨some 5, .mv (.c (.x (.int .i64 (0)))), none⟩])
  (.seq (.reg [⟨some 14, .mv (.t 0), none⟩, ⟨some 15, .call (.c (.fn 45 [])) [(.t 14)], none⟩, ⟨some 13, .mv (.t 15), none⟩, ⟨some 16, .ext (.t 13) 0, none⟩, ⟨some 17, .ext (.t 13) 1, none⟩, ⟨some 18, .ext (.t 13) 2, none⟩, ⟨some 6, .box (.c (.agg [.x (.int .i64 (0)), .x (.str [])])), none⟩, ⟨none, .sto 2 (.t 6) (.t 16), none⟩, ⟨some 7, .mv (.t 17), none⟩, ⟨some 8, .mv (.t 18), none⟩])
  (.seq (.block 0
    (.seq (.reg [⟨some 20, .mv (.t 8), none⟩, ⟨some 21, .bin .neq (.t 20) (.c (.x (.int .i64 (0)))), none⟩, ⟨some 19, .mv (.t 21), none⟩])
    (.cond (.t 19)
      (.seq (.reg [⟨some 22, .mv (.t 8), none⟩, ⟨some 4, .mv (.c (.x .nils)), none⟩, ⟨some 5, .mv (.t 22), none⟩])
      .ret)
      (.seq (.reg [⟨some 24, .fad 0 (.t 6), none⟩, ⟨some 25, .ld 1 false (.t 24), none⟩, ⟨some 26, .bin .neq (.t 25) (.c (.x (.int .i64 (48)))), none⟩, ⟨some 23, .mv (.t 26), none⟩])
      (.cond (.t 23)
        (.seq (.reg [⟨some 4, .mv (.c (.x .nils)), none⟩, ⟨some 5, .mv (.c (.x (.int .i64 (6)))), none⟩])
        .ret)
        (.seq (.reg [⟨some 28, .mv (.t 7), none⟩, ⟨some 29, .mv (.t 0), none⟩, ⟨some 30, .len true (.t 29), none⟩, ⟨some 31, .bin .lss (.t 28) (.t 30), none⟩, ⟨some 27, .mv (.t 31), none⟩])
        (.cond (.t 27)
          (.seq (.reg [⟨some 4, .mv (.c (.x .nils)), none⟩, ⟨some 5, .mv (.c (.x (.int .i64 (5)))), none⟩])
          .ret)
          .skip)))))))
  (.seq (.reg [⟨some 33, .fad 1 (.t 6), none⟩, ⟨some 34, .ld 1 false (.t 33), none⟩, ⟨some 35, .call (.c (.fn 46 [])) [(.t 34)], none⟩, ⟨some 32, .mv (.t 35), none⟩, ⟨some 36, .ext (.t 32) 0, none⟩, ⟨some 37, .ext (.t 32) 1, none⟩, ⟨some 9, .mv (.t 36), none⟩, ⟨some 8, .mv (.t 37), none⟩])
  (.seq (.block 1
    (.seq (.reg [⟨some 39, .mv (.t 8), none⟩, ⟨some 40, .bin .neq (.t 39) (.c (.x (.int .i64 (0)))), none⟩, ⟨some 38, .mv (.t 40), none⟩])
    (.cond (.t 38)
      (.seq (.reg [⟨some 41, .mv (.t 8), none⟩, ⟨some 4, .mv (.c (.x .nils)), none⟩, ⟨some 5, .mv (.t 41), none⟩])
      .ret)
      (.seq (.reg [⟨some 43, .mv (.t 9), none⟩, ⟨some 44, .len false (.t 43), none⟩, ⟨some 45, .mv (.t 1), none⟩, ⟨some 46, .len false (.t 45), none⟩, ⟨some 47, .bin .neq (.t 44) (.t 46), none⟩, ⟨some 42, .mv (.t 47), none⟩])
      (.cond (.t 42)
        (.seq (.reg [⟨some 4, .mv (.c (.x .nils)), none⟩, ⟨some 5, .mv (.c (.x (.int .i64 (5)))), none⟩])
        .ret)
        .skip)))))
  (.seq (.reg [⟨some 10, .mv (.c (.x .nils)), none⟩])
  (.seq (.seq (.reg [⟨some 48, .mv (.t 9), none⟩, ⟨some 49, .len false (.t 48), none⟩, ⟨some 50, .mv (.c (.x (.int .i64 (0)))), none⟩])
  (.block 2
    (.loop
      (.seq (.reg [⟨some 51, .bin .lss (.t 50) (.t 49), none⟩])
      (.seq (.cond (.t 51)
        .skip
        (.exit 2))
      (.seq (.block 3
        (.seq (.reg [⟨some 52, .mv (.t 50), none⟩, ⟨some 53, .iad 2 (.t 48) (.t 50), none⟩, ⟨some 54, .ld 2 true (.t 53), none⟩, ⟨some 12, .box (.c (.agg [.x (.int .i64 (0)), .x (.str [])])), none⟩, ⟨some 11, .mv (.t 52), none⟩, ⟨none, .sto 2 (.t 12) (.t 54), none⟩])
        (.seq (.seq (.dreg 6 [] [⟨some 55, .fad 0 (.t 12), none⟩, ⟨some 56, .ld 1 false (.t 55), none⟩, ⟨some 57, .mv (.t 1), none⟩, ⟨some 58, .mv (.t 11), none⟩, ⟨some 59, .iad 1 (.t 57) (.t 58), none⟩, ⟨some 60, .ld 1 false (.t 59), none⟩, ⟨some 61, .bin .neq (.t 56) (.t 60), none⟩])
        (.cond (.t 61)
          (.seq (.reg [⟨some 4, .mv (.c (.x .nils)), none⟩, ⟨some 5, .mv (.c (.x (.int .i64 (6)))), none⟩])
          .ret)
          .skip))
        (.reg [⟨some 62, .mv (.t 10), none⟩, ⟨some 63, .fad 1 (.t 12), none⟩, ⟨some 64, .ld 1 false (.t 63), none⟩, ⟨some 65, .bsl 9 1 1 [(.t 64)], none⟩, ⟨some 66, .app 9 1 16 (.t 62) (.t 65), none⟩, ⟨some 10, .mv (.t 66), none⟩]))))
      (.reg [⟨some 67, .bin .add (.t 50) (.c (.x (.int .i64 (1)))), none⟩, ⟨some 50, .mv (.t 67), none⟩])))))))
  (.seq (.reg [⟨some 68, .mv (.t 10), none⟩, ⟨some 4, .mv (.t 68), none⟩, ⟨some 5, .mv (.c (.x (.int .i64 (0)))), none⟩])
  .ret))))))))⟩
theorem c65 : compFn Try.prog Try.f65 = some i65 := by kernel_rfl
/-- bothy/num.Read -/
def i66 : IFn := ⟨54, [.tmp 2, .tmp 3], (.seq (.reg [⟨some 2, .mv (.c (.x (.int .i64 (0)))), none⟩, ⟨some 3, .mv (.c (.x (.int .i64 (0)))), none⟩])
  (.seq (.seq (.reg [⟨some 7, .mv (.t 0), none⟩, ⟨some 8, .bin .eql (.t 7) (.c (.x (.str []))), none⟩])
  (.cond (.t 8)
    (.seq (.reg [⟨some 2, .mv (.c (.x (.int .i64 (0)))), none⟩, ⟨some 3, .mv (.c (.x (.int .i64 (4)))), none⟩])
    .ret)
    .skip))
  (.seq (.reg [⟨some 9, .mv (.t 0), none⟩, ⟨some 10, .idx (.t 9) (.c (.x (.int .i64 (0)))), none⟩, ⟨some 11, .cvi .i8 (.t 10), none⟩, ⟨some 12, .cvi .i64 (.t 11), none⟩, ⟨some 13, .bin .shr (.t 12) (.c (.x (.int .u64 (7)))), none⟩, ⟨some 4, .mv (.t 13), none⟩])
  (.seq (.block 0
    (.seq (.reg [⟨some 15, .mv (.t 0), none⟩, ⟨some 16, .len true (.t 15), none⟩, ⟨some 17, .bin .gtr (.t 16) (.c (.x (.int .i64 (1)))), none⟩, ⟨some 18, .mv (.t 17), none⟩, ⟨some 19, .mv (.t 0), (some (18, true))⟩, ⟨some 20, .idx (.t 19) (.c (.x (.int .i64 (0)))), (some (18, true))⟩, ⟨some 21, .cvi .i64 (.t 20), (some (18, true))⟩, ⟨some 22, .mv (.t 4), (some (18, true))⟩, ⟨some 23, .bin .and (.t 22) (.c (.x (.int .i64 (255)))), (some (18, true))⟩, ⟨some 24, .bin .eql (.t 21) (.t 23), (some (18, true))⟩, ⟨some 25, .pick (.t 18) (.t 24) (.c (.x (.bool false))), none⟩, ⟨some 26, .mv (.t 25), none⟩, ⟨some 27, .mv (.t 0), (some (26, true))⟩, ⟨some 28, .idx (.t 27) (.c (.x (.int .i64 (1)))), (some (26, true))⟩, ⟨some 29, .cvi .i8 (.t 28), (some (26, true))⟩, ⟨some 30, .cvi .i64 (.t 29), (some (26, true))⟩, ⟨some 31, .bin .shr (.t 30) (.c (.x (.int .u64 (7)))), (some (26, true))⟩, ⟨some 32, .mv (.t 4), (some (26, true))⟩, ⟨some 33, .bin .eql (.t 31) (.t 32), (some (26, true))⟩, ⟨some 34, .pick (.t 26) (.t 33) (.c (.x (.bool false))), none⟩, ⟨some 14, .mv (.t 34), none⟩])
    (.cond (.t 14)
      (.seq (.reg [⟨some 2, .mv (.c (.x (.int .i64 (0)))), none⟩, ⟨some 3, .mv (.c (.x (.int .i64 (5)))), none⟩])
      .ret)
      (.seq (.reg [⟨some 36, .mv (.t 0), none⟩, ⟨some 37, .len true (.t 36), none⟩, ⟨some 38, .bin .gtr (.t 37) (.c (.x (.int .i64 (4)))), none⟩, ⟨some 35, .mv (.t 38), none⟩])
      (.cond (.t 35)
        (.seq (.reg [⟨some 2, .mv (.c (.x (.int .i64 (0)))), none⟩, ⟨some 3, .mv (.c (.x (.int .i64 (3)))), none⟩])
        .ret)
        .skip)))))
  (.seq (.reg [⟨some 39, .mv (.t 4), none⟩, ⟨some 5, .mv (.t 39), none⟩])
  (.seq (.seq (.reg [⟨some 40, .mv (.t 0), none⟩, ⟨some 41, .len true (.t 40), none⟩, ⟨some 42, .mv (.c (.x (.int .i64 (0)))), none⟩])
  (.block 1
    (.loop
      (.seq (.reg [⟨some 43, .bin .lss (.t 42) (.t 41), none⟩])
      (.seq (.cond (.t 43)
        .skip
        (.exit 1))
      (.seq (.block 2
        (.seq (.reg [⟨some 44, .mv (.t 42), none⟩, ⟨some 6, .mv (.t 44), none⟩])
        (.reg [⟨some 45, .mv (.t 5), none⟩, ⟨some 46, .bin .shl (.t 45) (.c (.x (.int .u64 (8)))), none⟩, ⟨some 47, .mv (.t 0), none⟩, ⟨some 48, .mv (.t 6), none⟩, ⟨some 49, .idx (.t 47) (.t 48), none⟩, ⟨some 50, .cvi .i64 (.t 49), none⟩, ⟨some 51, .bin .or (.t 46) (.t 50), none⟩, ⟨some 5, .mv (.t 51), none⟩])))
      (.reg [⟨some 52, .bin .add (.t 42) (.c (.x (.int .i64 (1)))), none⟩, ⟨some 42, .mv (.t 52), none⟩])))))))
  (.seq (.reg [⟨some 53, .mv (.t 5), none⟩, ⟨some 2, .mv (.t 53), none⟩, ⟨some 3, .mv (.c (.x (.int .i64 (0)))), none⟩])
  .ret)))))))⟩
theorem c66 : compFn Try.prog Try.f66 = some i66 := by kernel_rfl
/-- bothy/num.Put -/
def i69 : IFn := ⟨49, [.tmp 2, .tmp 3], (.seq (.reg [⟨some 2, .mv (.c (.x (.str []))), none⟩, ⟨some 3, .mv (.c (.x (.int .i64 (0)))), none⟩])
  (.seq (.seq (.reg [⟨some 7, .mv (.t 0), none⟩, ⟨some 8, .bin .lss (.t 7) (.c (.x (.int .i64 (-2147483648)))), none⟩, ⟨some 9, .mv (.t 8), none⟩, ⟨some 10, .mv (.t 0), (some (9, false))⟩, ⟨some 11, .bin .gtr (.t 10) (.c (.x (.int .i64 (2147483647)))), (some (9, false))⟩, ⟨some 12, .pick (.t 9) (.c (.x (.bool true))) (.t 11), none⟩])
  (.cond (.t 12)
    (.seq (.reg [⟨some 2, .mv (.c (.x (.str []))), none⟩, ⟨some 3, .mv (.c (.x (.int .i64 (2)))), none⟩])
    .ret)
    .skip))
  (.seq (.reg [⟨some 4, .mv (.c (.x (.int .i64 (1)))), none⟩])
  (.seq (.block 0
    (.loop
      (.seq (.seq (.reg [⟨some 13, .mv (.t 0), none⟩, ⟨some 14, .mv (.t 4), none⟩, ⟨some 15, .bin .mul (.c (.x (.int .i64 (8)))) (.t 14), none⟩, ⟨some 16, .bin .sub (.t 15) (.c (.x (.int .i64 (1)))), none⟩, ⟨some 17, .bin .shr (.t 13) (.t 16), none⟩, ⟨some 18, .bin .neq (.t 17) (.c (.x (.int .i64 (0)))), none⟩, ⟨some 19, .mv (.t 18), none⟩, ⟨some 20, .mv (.t 0), (some (19, true))⟩, ⟨some 21, .mv (.t 4), (some (19, true))⟩, ⟨some 22, .bin .mul (.c (.x (.int .i64 (8)))) (.t 21), (some (19, true))⟩, ⟨some 23, .bin .sub (.t 22) (.c (.x (.int .i64 (1)))), (some (19, true))⟩, ⟨some 24, .bin .shr (.t 20) (.t 23), (some (19, true))⟩, ⟨some 25, .bin .neq (.t 24) (.c (.x (.int .i64 (-1)))), (some (19, true))⟩, ⟨some 26, .pick (.t 19) (.t 25) (.c (.x (.bool false))), none⟩])
      (.cond (.t 26)
        .skip
        (.exit 0)))
      (.block 1
        (.reg [⟨some 27, .mv (.t 4), none⟩, ⟨some 28, .bin .add (.t 27) (.c (.x (.int .i64 (1)))), none⟩, ⟨some 4, .mv (.t 28), none⟩])))))
  (.seq (.reg [⟨some 29, .mv (.t 4), none⟩, ⟨some 30, .mks 5 1 1 [(.int .u8 (0))] (.t 29) (.t 29), none⟩, ⟨some 5, .mv (.t 30), none⟩])
  (.seq (.seq (.reg [⟨some 31, .mv (.t 4), none⟩, ⟨some 32, .mv (.c (.x (.int .i64 (0)))), none⟩])
  (.block 2
    (.loop
      (.seq (.reg [⟨some 33, .bin .lss (.t 32) (.t 31), none⟩])
      (.seq (.cond (.t 33)
        .skip
        (.exit 2))
      (.seq (.block 3
        (.seq (.reg [⟨some 34, .mv (.t 32), none⟩, ⟨some 6, .mv (.t 34), none⟩])
        (.reg [⟨some 35, .mv (.t 5), none⟩, ⟨some 36, .mv (.t 4), none⟩, ⟨some 37, .bin .sub (.t 36) (.c (.x (.int .i64 (1)))), none⟩, ⟨some 38, .mv (.t 6), none⟩, ⟨some 39, .bin .sub (.t 37) (.t 38), none⟩, ⟨some 40, .mv (.t 0), none⟩, ⟨some 41, .mv (.t 6), none⟩, ⟨some 42, .bin .mul (.c (.x (.int .i64 (8)))) (.t 41), none⟩, ⟨some 43, .bin .shr (.t 40) (.t 42), none⟩, ⟨some 44, .cvi .u8 (.t 43), none⟩, ⟨some 45, .iad 1 (.t 35) (.t 39), none⟩, ⟨none, .sto 1 (.t 45) (.t 44), none⟩])))
      (.reg [⟨some 46, .bin .add (.t 32) (.c (.x (.int .i64 (1)))), none⟩, ⟨some 32, .mv (.t 46), none⟩])))))))
  (.seq (.reg [⟨some 47, .mv (.t 5), none⟩, ⟨some 48, .b2s (.t 47), none⟩, ⟨some 2, .mv (.t 48), none⟩, ⟨some 3, .mv (.c (.x (.int .i64 (0)))), none⟩])
  .ret)))))))⟩
theorem c69 : compFn Try.prog Try.f69 = some i69 := by kernel_rfl
/-- bothy/script.tags -/
def i70 : IFn := ⟨2, [.cell 0 4 true], (.seq (.reg [⟨some 0, .abx 138 (.c (.agg [.x (.int .i64 (0)), .x (.int .i64 (0)), .x (.int .i64 (0)), .x (.int .i64 (0))])), none⟩])
  (.seq (.reg [⟨some 1, .build [.x (.int .i64 (0)), .x (.int .i64 (0)), .x (.int .i64 (0)), .x (.int .i64 (0))] [(0, 1, (.c (.x (.int .i64 (10))))), (1, 1, (.c (.x (.int .i64 (2))))), (2, 1, (.c (.x (.int .i64 (4))))), (3, 1, (.c (.x (.int .i64 (2)))))], none⟩, ⟨none, .sto 4 (.t 0) (.t 1), none⟩])
  .ret))⟩
theorem c70 : compFn Try.prog Try.f70 = some i70 := by kernel_rfl
/-- bothy/ber.Put -/
def i71 : IFn := ⟨23, [.tmp 4, .tmp 5], (.seq (.reg [⟨some 4, .mv (.c (.x (.str []))), none⟩, ⟨some 5, .mv (.c (.x (.int .i64 (0)))), none⟩])
  (.seq (.block 0
    (.seq (.reg [⟨some 7, .mv (.t 0), none⟩, ⟨some 8, .call (.c (.fn 82 [])) [(.t 7)], none⟩, ⟨some 6, .mv (.t 8), none⟩])
    (.cond (.t 6)
      (.seq (.reg [⟨some 4, .mv (.c (.x (.str []))), none⟩, ⟨some 5, .mv (.c (.x (.int .i64 (6)))), none⟩])
      .ret)
      (.seq (.reg [⟨some 10, .mv (.t 1), none⟩, ⟨some 11, .len true (.t 10), none⟩, ⟨some 12, .bin .gtr (.t 11) (.c (.x (.int .i64 (65536)))), none⟩, ⟨some 9, .mv (.t 12), none⟩])
      (.cond (.t 9)
        (.seq (.reg [⟨some 4, .mv (.c (.x (.str []))), none⟩, ⟨some 5, .mv (.c (.x (.int .i64 (3)))), none⟩])
        .ret)
        .skip)))))
  (.seq (.dreg 7 [] [⟨some 13, .mv (.t 0), none⟩, ⟨some 14, .cvi .u8 (.t 13), none⟩, ⟨some 15, .bsl 5 1 1 [(.t 14)], none⟩, ⟨some 16, .b2s (.t 15), none⟩, ⟨some 17, .mv (.t 1), none⟩, ⟨some 18, .len true (.t 17), none⟩, ⟨some 19, .call (.c (.fn 83 [])) [(.t 18)], none⟩, ⟨some 20, .bin .add (.t 16) (.t 19), none⟩, ⟨some 21, .mv (.t 1), none⟩, ⟨some 22, .bin .add (.t 20) (.t 21), none⟩, ⟨some 4, .mv (.t 22), none⟩, ⟨some 5, .mv (.c (.x (.int .i64 (0)))), none⟩])
  .ret)))⟩
theorem c71 : compFn Try.prog Try.f71 = some i71 := by kernel_rfl
/-- bothy/bothyref01.tagged -/
def i73 : IFn := ⟨14, [.tmp 2], (.seq (.reg [⟨some 2, .mv (.c (.x (.bool false))), none⟩])
  (.seq (.reg [⟨some 3, .mv (.t 0), none⟩, ⟨some 4, .bin .geq (.t 3) (.c (.x (.int .i64 (0)))), none⟩, ⟨some 5, .mv (.t 4), none⟩, ⟨some 6, .mv (.t 0), (some (5, true))⟩, ⟨some 7, .bin .leq (.t 6) (.c (.x (.int .i64 (254)))), (some (5, true))⟩, ⟨some 8, .pick (.t 5) (.t 7) (.c (.x (.bool false))), none⟩, ⟨some 9, .mv (.t 8), none⟩, ⟨some 10, .mv (.t 0), (some (9, true))⟩, ⟨some 11, .bin .rem (.t 10) (.c (.x (.int .i64 (32)))), (some (9, true))⟩, ⟨some 12, .bin .neq (.t 11) (.c (.x (.int .i64 (31)))), (some (9, true))⟩, ⟨some 13, .pick (.t 9) (.t 12) (.c (.x (.bool false))), none⟩, ⟨some 2, .mv (.t 13), none⟩])
  .ret))⟩
theorem c73 : compFn Try.prog Try.f73 = some i73 := by kernel_rfl
/-- bothy/bothyref01.length -/
def i74 : IFn := ⟨31, [.tmp 2], (.seq (.reg [⟨some 2, .mv (.c (.x (.str []))), none⟩])
  (.seq (.seq (.reg [⟨some 5, .mv (.t 0), none⟩, ⟨some 6, .bin .lss (.t 5) (.c (.x (.int .i64 (128)))), none⟩])
  (.cond (.t 6)
    (.seq (.reg [⟨some 7, .mv (.t 0), none⟩, ⟨some 8, .cvi .u8 (.t 7), none⟩, ⟨some 9, .bsl 5 1 1 [(.t 8)], none⟩, ⟨some 10, .b2s (.t 9), none⟩, ⟨some 2, .mv (.t 10), none⟩])
    .ret)
    .skip))
  (.seq (.reg [⟨some 3, .mv (.c (.x (.str []))), none⟩])
  (.seq (.reg [⟨some 4, .mv (.c (.x (.int .i64 (0)))), none⟩])
  (.seq (.block 0
    (.loop
      (.seq (.seq (.reg [⟨some 11, .mv (.t 0), none⟩, ⟨some 12, .bin .gtr (.t 11) (.c (.x (.int .i64 (0)))), none⟩])
      (.cond (.t 12)
        .skip
        (.exit 0)))
      (.block 1
        (.seq (.reg [⟨some 13, .mv (.t 0), none⟩, ⟨some 14, .bin .rem (.t 13) (.c (.x (.int .i64 (256)))), none⟩, ⟨some 15, .cvi .u8 (.t 14), none⟩, ⟨some 16, .bsl 5 1 1 [(.t 15)], none⟩, ⟨some 17, .b2s (.t 16), none⟩, ⟨some 18, .mv (.t 3), none⟩, ⟨some 19, .bin .add (.t 17) (.t 18), none⟩, ⟨some 3, .mv (.t 19), none⟩])
        (.seq (.reg [⟨some 20, .mv (.t 0), none⟩, ⟨some 21, .bin .quo (.t 20) (.c (.x (.int .i64 (256)))), none⟩, ⟨some 0, .mv (.t 21), none⟩])
        (.reg [⟨some 22, .mv (.t 4), none⟩, ⟨some 23, .bin .add (.t 22) (.c (.x (.int .i64 (1)))), none⟩, ⟨some 4, .mv (.t 23), none⟩])))))))
  (.seq (.reg [⟨some 24, .mv (.t 4), none⟩, ⟨some 25, .bin .add (.c (.x (.int .i64 (128)))) (.t 24), none⟩, ⟨some 26, .cvi .u8 (.t 25), none⟩, ⟨some 27, .bsl 5 1 1 [(.t 26)], none⟩, ⟨some 28, .b2s (.t 27), none⟩, ⟨some 29, .mv (.t 3), none⟩, ⟨some 30, .bin .add (.t 28) (.t 29), none⟩, ⟨some 2, .mv (.t 30), none⟩])
  .ret))))))⟩
theorem c74 : compFn Try.prog Try.f74 = some i74 := by kernel_rfl
/-- bothy/bothyref02.Put -/
def i75 : IFn := ⟨39, [.tmp 2, .tmp 3], (.seq (.reg [⟨some 2, .mv (.c (.x (.str []))), none⟩, ⟨some 3, .mv (.c (.x (.int .i64 (0)))), none⟩])
  (.seq (.seq (.reg [⟨some 7, .mv (.t 0), none⟩, ⟨some 8, .bin .lss (.t 7) (.c (.x (.int .i64 (-2147483648)))), none⟩, ⟨some 9, .mv (.t 8), none⟩, ⟨some 10, .mv (.t 0), (some (9, false))⟩, ⟨some 11, .bin .gtr (.t 10) (.c (.x (.int .i64 (2147483647)))), (some (9, false))⟩, ⟨some 12, .pick (.t 9) (.c (.x (.bool true))) (.t 11), none⟩])
  (.cond (.t 12)
    (.seq (.reg [⟨some 2, .mv (.c (.x (.str []))), none⟩, ⟨some 3, .mv (.c (.x (.int .i64 (2)))), none⟩])
    .ret)
    .skip))
  (.seq (.seq (.reg [⟨some 4, .mv (.c (.x (.int .i64 (1)))), none⟩])
  (.block 0
    (.loop
      (.seq (.seq (.reg [⟨some 13, .mv (.t 4), none⟩, ⟨some 14, .bin .lss (.t 13) (.c (.x (.int .i64 (4)))), none⟩])
      (.cond (.t 14)
        .skip
        (.exit 0)))
      (.seq (.block 1
        (.seq (.reg [⟨some 5, .mv (.c (.x (.int .i64 (1)))), none⟩])
        (.seq (.seq (.reg [⟨some 6, .mv (.c (.x (.int .i64 (1)))), none⟩])
        (.block 2
          (.loop
            (.seq (.seq (.reg [⟨some 17, .mv (.t 6), none⟩, ⟨some 18, .mv (.t 4), none⟩, ⟨some 19, .bin .mul (.c (.x (.int .i64 (8)))) (.t 18), none⟩, ⟨some 20, .bin .lss (.t 17) (.t 19), none⟩])
            (.cond (.t 20)
              .skip
              (.exit 2)))
            (.seq (.block 3
              (.reg [⟨some 23, .mv (.t 5), none⟩, ⟨some 24, .bin .mul (.t 23) (.c (.x (.int .i64 (2)))), none⟩, ⟨some 5, .mv (.t 24), none⟩]))
            (.reg [⟨some 21, .mv (.t 6), none⟩, ⟨some 22, .bin .add (.t 21) (.c (.x (.int .i64 (1)))), none⟩, ⟨some 6, .mv (.t 22), none⟩]))))))
        (.seq (.reg [⟨some 25, .mv (.t 0), none⟩, ⟨some 26, .mv (.t 5), none⟩, ⟨some 27, .bin .sub (.c (.x (.int .i64 (0)))) (.t 26), none⟩, ⟨some 28, .bin .geq (.t 25) (.t 27), none⟩, ⟨some 29, .mv (.t 28), none⟩, ⟨some 30, .mv (.t 0), (some (29, true))⟩, ⟨some 31, .mv (.t 5), (some (29, true))⟩, ⟨some 32, .bin .lss (.t 30) (.t 31), (some (29, true))⟩, ⟨some 33, .pick (.t 29) (.t 32) (.c (.x (.bool false))), none⟩])
        (.cond (.t 33)
          (.seq (.reg [⟨some 34, .mv (.t 0), none⟩, ⟨some 35, .mv (.t 4), none⟩, ⟨some 36, .call (.c (.fn 87 [])) [(.t 34), (.t 35)], none⟩, ⟨some 2, .mv (.t 36), none⟩, ⟨some 3, .mv (.c (.x (.int .i64 (0)))), none⟩])
          .ret)
          .skip)))))
      (.reg [⟨some 15, .mv (.t 4), none⟩, ⟨some 16, .bin .add (.t 15) (.c (.x (.int .i64 (1)))), none⟩, ⟨some 4, .mv (.t 16), none⟩]))))))
  (.seq (.reg [⟨some 37, .mv (.t 0), none⟩, ⟨some 38, .call (.c (.fn 87 [])) [(.t 37), (.c (.x (.int .i64 (4))))], none⟩, ⟨some 2, .mv (.t 38), none⟩, ⟨some 3, .mv (.c (.x (.int .i64 (0)))), none⟩])
  .ret))))⟩
theorem c75 : compFn Try.prog Try.f75 = some i75 := by kernel_rfl
/-- bothy/ber.Head -/
def i76 : IFn := ⟨47, [.tmp 2, .tmp 3, .tmp 4, .tmp 5], (.seq (.reg [⟨some 2, .mv (.c (.x (.int .i64 (0)))), none⟩, ⟨some 3, .mv (.c (.x (.int .i64 (0)))), none⟩, ⟨some 4, .mv (.c (.x (.int .i64 (0)))), none⟩, ⟨some 5, .mv (.c (.x (.int .i64 (0)))), none⟩])
  (.seq (.block 0
    (.seq (.reg [⟨some 10, .mv (.t 0), none⟩, ⟨some 11, .bin .eql (.t 10) (.c (.x (.str []))), none⟩, ⟨some 9, .mv (.t 11), none⟩])
    (.cond (.t 9)
      (.seq (.reg [⟨some 2, .mv (.c (.x (.int .i64 (0)))), none⟩, ⟨some 3, .mv (.c (.x (.int .i64 (0)))), none⟩, ⟨some 4, .mv (.c (.x (.int .i64 (0)))), none⟩, ⟨some 5, .mv (.c (.x (.int .i64 (4)))), none⟩])
      .ret)
      (.seq (.reg [⟨some 13, .mv (.t 0), none⟩, ⟨some 14, .idx (.t 13) (.c (.x (.int .i64 (0)))), none⟩, ⟨some 15, .cvi .i64 (.t 14), none⟩, ⟨some 16, .call (.c (.fn 82 [])) [(.t 15)], none⟩, ⟨some 12, .mv (.t 16), none⟩])
      (.cond (.t 12)
        (.seq (.reg [⟨some 2, .mv (.c (.x (.int .i64 (0)))), none⟩, ⟨some 3, .mv (.c (.x (.int .i64 (0)))), none⟩, ⟨some 4, .mv (.c (.x (.int .i64 (0)))), none⟩, ⟨some 5, .mv (.c (.x (.int .i64 (6)))), none⟩])
        .ret)
        (.seq (.reg [⟨some 18, .mv (.t 0), none⟩, ⟨some 19, .len true (.t 18), none⟩, ⟨some 20, .bin .eql (.t 19) (.c (.x (.int .i64 (1)))), none⟩, ⟨some 17, .mv (.t 20), none⟩])
        (.cond (.t 17)
          (.seq (.reg [⟨some 2, .mv (.c (.x (.int .i64 (0)))), none⟩, ⟨some 3, .mv (.c (.x (.int .i64 (0)))), none⟩, ⟨some 4, .mv (.c (.x (.int .i64 (0)))), none⟩, ⟨some 5, .mv (.c (.x (.int .i64 (4)))), none⟩])
          .ret)
          (.seq (.reg [⟨some 22, .mv (.t 0), none⟩, ⟨some 23, .idx (.t 22) (.c (.x (.int .i64 (1)))), none⟩, ⟨some 24, .bin .lss (.t 23) (.c (.x (.int .u8 (128)))), none⟩, ⟨some 21, .mv (.t 24), none⟩])
          (.cond (.t 21)
            (.seq (.dreg 0 [] [⟨some 25, .mv (.t 0), none⟩, ⟨some 26, .idx (.t 25) (.c (.x (.int .i64 (0)))), none⟩, ⟨some 27, .cvi .i64 (.t 26), none⟩, ⟨some 28, .mv (.t 0), none⟩, ⟨some 29, .idx (.t 28) (.c (.x (.int .i64 (1)))), none⟩, ⟨some 30, .cvi .i64 (.t 29), none⟩, ⟨some 2, .mv (.t 27), none⟩, ⟨some 3, .mv (.t 30), none⟩, ⟨some 4, .mv (.c (.x (.int .i64 (2)))), none⟩, ⟨some 5, .mv (.c (.x (.int .i64 (0)))), none⟩])
            .ret)
            .skip)))))))))
  (.seq (.reg [⟨some 32, .mv (.t 0), none⟩, ⟨some 33, .slc 0 (.t 32) (some (.c (.x (.int .i64 (1))))) none none, none⟩, ⟨some 34, .call (.c (.fn 88 [])) [(.t 33)], none⟩, ⟨some 31, .mv (.t 34), none⟩, ⟨some 35, .ext (.t 31) 0, none⟩, ⟨some 36, .ext (.t 31) 1, none⟩, ⟨some 37, .ext (.t 31) 2, none⟩, ⟨some 6, .mv (.t 35), none⟩, ⟨some 7, .mv (.t 36), none⟩, ⟨some 8, .mv (.t 37), none⟩])
  (.seq (.seq (.reg [⟨some 38, .mv (.t 8), none⟩, ⟨some 39, .bin .neq (.t 38) (.c (.x (.int .i64 (0)))), none⟩])
  (.cond (.t 39)
    (.seq (.reg [⟨some 40, .mv (.t 8), none⟩, ⟨some 2, .mv (.c (.x (.int .i64 (0)))), none⟩, ⟨some 3, .mv (.c (.x (.int .i64 (0)))), none⟩, ⟨some 4, .mv (.c (.x (.int .i64 (0)))), none⟩, ⟨some 5, .mv (.t 40), none⟩])
    .ret)
    .skip))
  (.seq (.reg [⟨some 41, .mv (.t 0), none⟩, ⟨some 42, .idx (.t 41) (.c (.x (.int .i64 (0)))), none⟩, ⟨some 43, .cvi .i64 (.t 42), none⟩, ⟨some 44, .mv (.t 6), none⟩, ⟨some 45, .mv (.t 7), none⟩, ⟨some 46, .bin .add (.c (.x (.int .i64 (1)))) (.t 45), none⟩, ⟨some 2, .mv (.t 43), none⟩, ⟨some 3, .mv (.t 44), none⟩, ⟨some 4, .mv (.t 46), none⟩, ⟨some 5, .mv (.c (.x (.int .i64 (0)))), none⟩])
  .ret)))))⟩
theorem c76 : compFn Try.prog Try.f76 = some i76 := by kernel_rfl
/-- bothy/bothyref01.Head -/
def i77 : IFn := ⟨80, [.tmp 2, .tmp 3, .tmp 4, .tmp 5], (.seq (.reg [⟨some 2, .mv (.c (.x (.int .i64 (0)))), none⟩, ⟨some 3, .mv (.c (.x (.int .i64 (0)))), none⟩, ⟨some 4, .mv (.c (.x (.int .i64 (0)))), none⟩, ⟨some 5, .mv (.c (.x (.int .i64 (0)))), none⟩])
  (.seq (.block 0
    (.seq (.reg [⟨some 10, .mv (.t 0), none⟩, ⟨some 11, .bin .eql (.t 10) (.c (.x (.str []))), none⟩, ⟨some 9, .mv (.t 11), none⟩])
    (.cond (.t 9)
      (.seq (.reg [⟨some 2, .mv (.c (.x (.int .i64 (0)))), none⟩, ⟨some 3, .mv (.c (.x (.int .i64 (0)))), none⟩, ⟨some 4, .mv (.c (.x (.int .i64 (0)))), none⟩, ⟨some 5, .mv (.c (.x (.int .i64 (4)))), none⟩])
      .ret)
      (.seq (.reg [⟨some 13, .mv (.t 0), none⟩, ⟨some 14, .idx (.t 13) (.c (.x (.int .i64 (0)))), none⟩, ⟨some 15, .cvi .i64 (.t 14), none⟩, ⟨some 16, .call (.c (.fn 73 [])) [(.t 15)], none⟩, ⟨some 17, .un .not (.t 16), none⟩, ⟨some 12, .mv (.t 17), none⟩])
      (.cond (.t 12)
        (.seq (.reg [⟨some 2, .mv (.c (.x (.int .i64 (0)))), none⟩, ⟨some 3, .mv (.c (.x (.int .i64 (0)))), none⟩, ⟨some 4, .mv (.c (.x (.int .i64 (0)))), none⟩, ⟨some 5, .mv (.c (.x (.int .i64 (6)))), none⟩])
        .ret)
        (.seq (.reg [⟨some 19, .mv (.t 0), none⟩, ⟨some 20, .len true (.t 19), none⟩, ⟨some 21, .bin .eql (.t 20) (.c (.x (.int .i64 (1)))), none⟩, ⟨some 18, .mv (.t 21), none⟩])
        (.cond (.t 18)
          (.seq (.reg [⟨some 2, .mv (.c (.x (.int .i64 (0)))), none⟩, ⟨some 3, .mv (.c (.x (.int .i64 (0)))), none⟩, ⟨some 4, .mv (.c (.x (.int .i64 (0)))), none⟩, ⟨some 5, .mv (.c (.x (.int .i64 (4)))), none⟩])
          .ret)
          (.seq (.reg [⟨some 23, .mv (.t 0), none⟩, ⟨some 24, .idx (.t 23) (.c (.x (.int .i64 (1)))), none⟩, ⟨some 25, .bin .lss (.t 24) (.c (.x (.int .u8 (128)))), none⟩, ⟨some 22, .mv (.t 25), none⟩])
          (.cond (.t 22)
            (.seq (.dreg 0 [] [⟨some 26, .mv (.t 0), none⟩, ⟨some 27, .idx (.t 26) (.c (.x (.int .i64 (0)))), none⟩, ⟨some 28, .cvi .i64 (.t 27), none⟩, ⟨some 29, .mv (.t 0), none⟩, ⟨some 30, .idx (.t 29) (.c (.x (.int .i64 (1)))), none⟩, ⟨some 31, .cvi .i64 (.t 30), none⟩, ⟨some 2, .mv (.t 28), none⟩, ⟨some 3, .mv (.t 31), none⟩, ⟨some 4, .mv (.c (.x (.int .i64 (2)))), none⟩, ⟨some 5, .mv (.c (.x (.int .i64 (0)))), none⟩])
            .ret)
            (.seq (.reg [⟨some 33, .mv (.t 0), none⟩, ⟨some 34, .idx (.t 33) (.c (.x (.int .i64 (1)))), none⟩, ⟨some 35, .bin .eql (.t 34) (.c (.x (.int .u8 (128)))), none⟩, ⟨some 36, .mv (.t 35), none⟩, ⟨some 37, .mv (.t 0), (some (36, false))⟩, ⟨some 38, .idx (.t 37) (.c (.x (.int .i64 (1)))), (some (36, false))⟩, ⟨some 39, .bin .gtr (.t 38) (.c (.x (.int .u8 (132)))), (some (36, false))⟩, ⟨some 40, .pick (.t 36) (.c (.x (.bool true))) (.t 39), none⟩, ⟨some 32, .mv (.t 40), none⟩])
            (.cond (.t 32)
              (.seq (.reg [⟨some 2, .mv (.c (.x (.int .i64 (0)))), none⟩, ⟨some 3, .mv (.c (.x (.int .i64 (0)))), none⟩, ⟨some 4, .mv (.c (.x (.int .i64 (0)))), none⟩, ⟨some 5, .mv (.c (.x (.int .i64 (5)))), none⟩])
              .ret)
              .skip)))))))))))
  (.seq (.reg [⟨some 41, .mv (.t 0), none⟩, ⟨some 42, .idx (.t 41) (.c (.x (.int .i64 (1)))), none⟩, ⟨some 43, .cvi .i64 (.t 42), none⟩, ⟨some 44, .bin .sub (.t 43) (.c (.x (.int .i64 (128)))), none⟩, ⟨some 6, .mv (.t 44), none⟩])
  (.seq (.seq (.reg [⟨some 45, .mv (.t 0), none⟩, ⟨some 46, .len true (.t 45), none⟩, ⟨some 47, .mv (.t 6), none⟩, ⟨some 48, .bin .add (.c (.x (.int .i64 (2)))) (.t 47), none⟩, ⟨some 49, .bin .lss (.t 46) (.t 48), none⟩])
  (.cond (.t 49)
    (.seq (.reg [⟨some 2, .mv (.c (.x (.int .i64 (0)))), none⟩, ⟨some 3, .mv (.c (.x (.int .i64 (0)))), none⟩, ⟨some 4, .mv (.c (.x (.int .i64 (0)))), none⟩, ⟨some 5, .mv (.c (.x (.int .i64 (4)))), none⟩])
    .ret)
    .skip))
  (.seq (.reg [⟨some 7, .mv (.c (.x (.int .i64 (0)))), none⟩])
  (.seq (.seq (.reg [⟨some 8, .mv (.c (.x (.int .i64 (2)))), none⟩])
  (.block 1
    (.loop
      (.seq (.seq (.reg [⟨some 50, .mv (.t 8), none⟩, ⟨some 51, .mv (.t 6), none⟩, ⟨some 52, .bin .add (.c (.x (.int .i64 (2)))) (.t 51), none⟩, ⟨some 53, .bin .lss (.t 50) (.t 52), none⟩])
      (.cond (.t 53)
        .skip
        (.exit 1)))
      (.seq (.block 2
        (.reg [⟨some 56, .mv (.t 7), none⟩, ⟨some 57, .bin .mul (.c (.x (.int .i64 (256)))) (.t 56), none⟩, ⟨some 58, .mv (.t 0), none⟩, ⟨some 59, .mv (.t 8), none⟩, ⟨some 60, .idx (.t 58) (.t 59), none⟩, ⟨some 61, .cvi .i64 (.t 60), none⟩, ⟨some 62, .bin .add (.t 57) (.t 61), none⟩, ⟨some 7, .mv (.t 62), none⟩]))
      (.reg [⟨some 54, .mv (.t 8), none⟩, ⟨some 55, .bin .add (.t 54) (.c (.x (.int .i64 (1)))), none⟩, ⟨some 8, .mv (.t 55), none⟩]))))))
  (.seq (.block 3
    (.seq (.dreg 6 [] [⟨some 64, .mv (.t 7), none⟩, ⟨some 65, .call (.c (.fn 74 [])) [(.t 64)], none⟩, ⟨some 66, .mv (.t 0), none⟩, ⟨some 67, .mv (.t 6), none⟩, ⟨some 68, .bin .add (.c (.x (.int .i64 (2)))) (.t 67), none⟩, ⟨some 69, .slc 0 (.t 66) (some (.c (.x (.int .i64 (1))))) (some (.t 68)) none, none⟩, ⟨some 70, .bin .neq (.t 65) (.t 69), none⟩, ⟨some 63, .mv (.t 70), none⟩])
    (.cond (.t 63)
      (.seq (.reg [⟨some 2, .mv (.c (.x (.int .i64 (0)))), none⟩, ⟨some 3, .mv (.c (.x (.int .i64 (0)))), none⟩, ⟨some 4, .mv (.c (.x (.int .i64 (0)))), none⟩, ⟨some 5, .mv (.c (.x (.int .i64 (5)))), none⟩])
      .ret)
      (.seq (.reg [⟨some 72, .mv (.t 7), none⟩, ⟨some 73, .bin .gtr (.t 72) (.c (.x (.int .i64 (65536)))), none⟩, ⟨some 71, .mv (.t 73), none⟩])
      (.cond (.t 71)
        (.seq (.reg [⟨some 2, .mv (.c (.x (.int .i64 (0)))), none⟩, ⟨some 3, .mv (.c (.x (.int .i64 (0)))), none⟩, ⟨some 4, .mv (.c (.x (.int .i64 (0)))), none⟩, ⟨some 5, .mv (.c (.x (.int .i64 (3)))), none⟩])
        .ret)
        .skip)))))
  (.seq (.reg [⟨some 74, .mv (.t 0), none⟩, ⟨some 75, .idx (.t 74) (.c (.x (.int .i64 (0)))), none⟩, ⟨some 76, .cvi .i64 (.t 75), none⟩, ⟨some 77, .mv (.t 7), none⟩, ⟨some 78, .mv (.t 6), none⟩, ⟨some 79, .bin .add (.c (.x (.int .i64 (2)))) (.t 78), none⟩, ⟨some 2, .mv (.t 76), none⟩, ⟨some 3, .mv (.t 77), none⟩, ⟨some 4, .mv (.t 79), none⟩, ⟨some 5, .mv (.c (.x (.int .i64 (0)))), none⟩])
  .ret))))))))⟩
theorem c77 : compFn Try.prog Try.f77 = some i77 := by kernel_rfl
/-- bothy/ber.bad -/
def i82 : IFn := ⟨14, [.tmp 2], (.seq (.reg [⟨some 2, .mv (.c (.x (.bool false))), none⟩])
  (.seq (.reg [⟨some 3, .mv (.t 0), none⟩, ⟨some 4, .bin .lss (.t 3) (.c (.x (.int .i64 (0)))), none⟩, ⟨some 5, .mv (.t 4), none⟩, ⟨some 6, .mv (.t 0), (some (5, false))⟩, ⟨some 7, .bin .geq (.t 6) (.c (.x (.int .i64 (255)))), (some (5, false))⟩, ⟨some 8, .pick (.t 5) (.c (.x (.bool true))) (.t 7), none⟩, ⟨some 9, .mv (.t 8), none⟩, ⟨some 10, .mv (.t 0), (some (9, false))⟩, ⟨some 11, .bin .and (.t 10) (.c (.x (.int .i64 (31)))), (some (9, false))⟩, ⟨some 12, .bin .eql (.t 11) (.c (.x (.int .i64 (31)))), (some (9, false))⟩, ⟨some 13, .pick (.t 9) (.c (.x (.bool true))) (.t 12), none⟩, ⟨some 2, .mv (.t 13), none⟩])
  .ret))⟩
theorem c82 : compFn Try.prog Try.f82 = some i82 := by kernel_rfl
/-- bothy/ber.length -/
def i83 : IFn := ⟨27, [.tmp 2], (.seq (.reg [⟨some 2, .mv (.c (.x (.str []))), none⟩])
  (.scope (.seq (.seq (.reg [⟨some 4, .mv (.t 0), none⟩, ⟨some 5, .bin .lss (.t 4) (.c (.x (.int .i64 (128)))), none⟩])
    (.cond (.t 5)
      (.seq (.reg [⟨some 6, .mv (.t 0), none⟩, ⟨some 7, .cvi .u8 (.t 6), none⟩, ⟨some 8, .bsl 5 1 1 [(.t 7)], none⟩, ⟨some 9, .b2s (.t 8), none⟩, ⟨some 2, .mv (.t 9), none⟩])
      .ret)
      .skip))
    (.seq (.reg [⟨some 3, .mv (.c (.x .nils)), none⟩])
    (.seq (.label 0)
    (.seq (.seq (.reg [⟨some 10, .mv (.t 0), none⟩, ⟨some 11, .bin .gtr (.t 10) (.c (.x (.int .i64 (0)))), none⟩])
    (.cond (.t 11)
      (.seq (.reg [⟨some 12, .mv (.t 0), none⟩, ⟨some 13, .cvi .u8 (.t 12), none⟩, ⟨some 14, .bsl 5 1 1 [(.t 13)], none⟩, ⟨some 15, .mv (.t 3), none⟩, ⟨some 16, .app 5 1 1 (.t 14) (.t 15), none⟩, ⟨some 3, .mv (.t 16), none⟩])
      (.seq (.reg [⟨some 17, .mv (.t 0), none⟩, ⟨some 18, .bin .shr (.t 17) (.c (.x (.int .u64 (8)))), none⟩, ⟨some 0, .mv (.t 18), none⟩])
      (.goto 0)))
      .skip))
    (.seq (.reg [⟨some 19, .mv (.t 3), none⟩, ⟨some 20, .len false (.t 19), none⟩, ⟨some 21, .bin .add (.c (.x (.int .i64 (128)))) (.t 20), none⟩, ⟨some 22, .cvi .u8 (.t 21), none⟩, ⟨some 23, .bsl 5 1 1 [(.t 22)], none⟩, ⟨some 24, .mv (.t 3), none⟩, ⟨some 25, .app 5 1 1 (.t 23) (.t 24), none⟩, ⟨some 26, .b2s (.t 25), none⟩, ⟨some 2, .mv (.t 26), none⟩])
    .ret)))))
    (.seq (.seq (.reg [⟨some 4, .mv (.t 0), none⟩, ⟨some 5, .bin .lss (.t 4) (.c (.x (.int .i64 (128)))), none⟩])
    (.cond (.t 5)
      (.seq (.reg [⟨some 6, .mv (.t 0), none⟩, ⟨some 7, .cvi .u8 (.t 6), none⟩, ⟨some 8, .bsl 5 1 1 [(.t 7)], none⟩, ⟨some 9, .b2s (.t 8), none⟩, ⟨some 2, .mv (.t 9), none⟩])
      .ret)
      .skip))
    (.seq (.reg [⟨some 3, .mv (.c (.x .nils)), none⟩])
    (.seq (.label 0)
    (.seq (.seq (.reg [⟨some 10, .mv (.t 0), none⟩, ⟨some 11, .bin .gtr (.t 10) (.c (.x (.int .i64 (0)))), none⟩])
    (.cond (.t 11)
      (.seq (.reg [⟨some 12, .mv (.t 0), none⟩, ⟨some 13, .cvi .u8 (.t 12), none⟩, ⟨some 14, .bsl 5 1 1 [(.t 13)], none⟩, ⟨some 15, .mv (.t 3), none⟩, ⟨some 16, .app 5 1 1 (.t 14) (.t 15), none⟩, ⟨some 3, .mv (.t 16), none⟩])
      (.seq (.reg [⟨some 17, .mv (.t 0), none⟩, ⟨some 18, .bin .shr (.t 17) (.c (.x (.int .u64 (8)))), none⟩, ⟨some 0, .mv (.t 18), none⟩])
      (.goto 0)))
      .skip))
    (.seq (.reg [⟨some 19, .mv (.t 3), none⟩, ⟨some 20, .len false (.t 19), none⟩, ⟨some 21, .bin .add (.c (.x (.int .i64 (128)))) (.t 20), none⟩, ⟨some 22, .cvi .u8 (.t 21), none⟩, ⟨some 23, .bsl 5 1 1 [(.t 22)], none⟩, ⟨some 24, .mv (.t 3), none⟩, ⟨some 25, .app 5 1 1 (.t 23) (.t 24), none⟩, ⟨some 26, .b2s (.t 25), none⟩, ⟨some 2, .mv (.t 26), none⟩])
    .ret)))))))⟩
theorem c83 : compFn Try.prog Try.f83 = some i83 := by kernel_rfl
/-- bothy/ber.long -/
def i88 : IFn := ⟨56, [.tmp 2, .tmp 3, .tmp 4], (.seq (.reg [⟨some 2, .mv (.c (.x (.int .i64 (0)))), none⟩, ⟨some 3, .mv (.c (.x (.int .i64 (0)))), none⟩, ⟨some 4, .mv (.c (.x (.int .i64 (0)))), none⟩])
  (.seq (.reg [⟨some 9, .mv (.t 0), none⟩, ⟨some 10, .idx (.t 9) (.c (.x (.int .i64 (0)))), none⟩, ⟨some 11, .cvi .i64 (.t 10), none⟩, ⟨some 12, .bin .sub (.t 11) (.c (.x (.int .i64 (128)))), none⟩, ⟨some 5, .mv (.t 12), none⟩])
  (.seq (.block 0
    (.seq (.reg [⟨some 14, .mv (.t 5), none⟩, ⟨some 15, .bin .eql (.t 14) (.c (.x (.int .i64 (0)))), none⟩, ⟨some 16, .mv (.t 15), none⟩, ⟨some 17, .mv (.t 5), (some (16, false))⟩, ⟨some 18, .bin .gtr (.t 17) (.c (.x (.int .i64 (4)))), (some (16, false))⟩, ⟨some 19, .pick (.t 16) (.c (.x (.bool true))) (.t 18), none⟩, ⟨some 13, .mv (.t 19), none⟩])
    (.cond (.t 13)
      (.seq (.reg [⟨some 2, .mv (.c (.x (.int .i64 (0)))), none⟩, ⟨some 3, .mv (.c (.x (.int .i64 (0)))), none⟩, ⟨some 4, .mv (.c (.x (.int .i64 (5)))), none⟩])
      .ret)
      (.seq (.reg [⟨some 21, .mv (.t 0), none⟩, ⟨some 22, .len true (.t 21), none⟩, ⟨some 23, .mv (.t 5), none⟩, ⟨some 24, .bin .add (.c (.x (.int .i64 (1)))) (.t 23), none⟩, ⟨some 25, .bin .lss (.t 22) (.t 24), none⟩, ⟨some 20, .mv (.t 25), none⟩])
      (.cond (.t 20)
        (.seq (.reg [⟨some 2, .mv (.c (.x (.int .i64 (0)))), none⟩, ⟨some 3, .mv (.c (.x (.int .i64 (0)))), none⟩, ⟨some 4, .mv (.c (.x (.int .i64 (4)))), none⟩])
        .ret)
        .skip)))))
  (.seq (.reg [⟨some 6, .mv (.c (.x (.int .i64 (0)))), none⟩])
  (.seq (.seq (.reg [⟨some 26, .mv (.t 0), none⟩, ⟨some 27, .mv (.t 5), none⟩, ⟨some 28, .bin .add (.c (.x (.int .i64 (1)))) (.t 27), none⟩, ⟨some 29, .slc 0 (.t 26) (some (.c (.x (.int .i64 (1))))) (some (.t 28)) none, none⟩, ⟨some 30, .s2b 5 (.t 29), none⟩, ⟨some 31, .len false (.t 30), none⟩, ⟨some 32, .mv (.c (.x (.int .i64 (0)))), none⟩])
  (.block 1
    (.loop
      (.seq (.reg [⟨some 33, .bin .lss (.t 32) (.t 31), none⟩])
      (.seq (.cond (.t 33)
        .skip
        (.exit 1))
      (.seq (.block 2
        (.seq (.reg [⟨some 34, .iad 1 (.t 30) (.t 32), none⟩, ⟨some 35, .ld 1 false (.t 34), none⟩, ⟨some 8, .mv (.t 35), none⟩])
        (.reg [⟨some 36, .mv (.t 6), none⟩, ⟨some 37, .bin .shl (.t 36) (.c (.x (.int .u64 (8)))), none⟩, ⟨some 38, .mv (.t 8), none⟩, ⟨some 39, .cvi .i64 (.t 38), none⟩, ⟨some 40, .bin .or (.t 37) (.t 39), none⟩, ⟨some 6, .mv (.t 40), none⟩])))
      (.reg [⟨some 41, .bin .add (.t 32) (.c (.x (.int .i64 (1)))), none⟩, ⟨some 32, .mv (.t 41), none⟩])))))))
  (.seq (.block 3
    (.seq (.dreg 6 [] [⟨some 43, .mv (.t 6), none⟩, ⟨some 44, .call (.c (.fn 83 [])) [(.t 43)], none⟩, ⟨some 45, .mv (.t 0), none⟩, ⟨some 46, .mv (.t 5), none⟩, ⟨some 47, .bin .add (.c (.x (.int .i64 (1)))) (.t 46), none⟩, ⟨some 48, .slc 0 (.t 45) none (some (.t 47)) none, none⟩, ⟨some 49, .bin .neq (.t 44) (.t 48), none⟩, ⟨some 42, .mv (.t 49), none⟩])
    (.cond (.t 42)
      (.seq (.reg [⟨some 2, .mv (.c (.x (.int .i64 (0)))), none⟩, ⟨some 3, .mv (.c (.x (.int .i64 (0)))), none⟩, ⟨some 4, .mv (.c (.x (.int .i64 (5)))), none⟩])
      .ret)
      (.seq (.reg [⟨some 51, .mv (.t 6), none⟩, ⟨some 52, .bin .gtr (.t 51) (.c (.x (.int .i64 (65536)))), none⟩, ⟨some 50, .mv (.t 52), none⟩])
      (.cond (.t 50)
        (.seq (.reg [⟨some 2, .mv (.c (.x (.int .i64 (0)))), none⟩, ⟨some 3, .mv (.c (.x (.int .i64 (0)))), none⟩, ⟨some 4, .mv (.c (.x (.int .i64 (3)))), none⟩])
        .ret)
        .skip)))))
  (.seq (.reg [⟨some 53, .mv (.t 6), none⟩, ⟨some 54, .mv (.t 5), none⟩, ⟨some 55, .bin .add (.c (.x (.int .i64 (1)))) (.t 54), none⟩, ⟨some 2, .mv (.t 53), none⟩, ⟨some 3, .mv (.t 55), none⟩, ⟨some 4, .mv (.c (.x (.int .i64 (0)))), none⟩])
  .ret)))))))⟩
theorem c88 : compFn Try.prog Try.f88 = some i88 := by kernel_rfl
def G : FuncId → Option IFn
  | 3 => some i3
  | 4 => some i4
  | 8 => some i8
  | 9 => some i9
  | 10 => some i10
  | 11 => some i11
  | 12 => some i12
  | 13 => some i13
  | 14 => some i14
  | 15 => some i15
  | 39 => some i39
  | 40 => some i40
  | 41 => some i41
  | 42 => some i42
  | 43 => some i43
  | 44 => some i44
  | 45 => some i45
  | 46 => some i46
  | 47 => some i47
  | 48 => some i48
  | 49 => some i49
  | 50 => some i50
  | 56 => some i56
  | 64 => some i64
  | 65 => some i65
  | 66 => some i66
  | 69 => some i69
  | 70 => some i70
  | 71 => some i71
  | 73 => some i73
  | 74 => some i74
  | 75 => some i75
  | 76 => some i76
  | 77 => some i77
  | 82 => some i82
  | 83 => some i83
  | 88 => some i88
  | _ => none
theorem G_ok : GOk Try.prog G := by
  intro f p h
  unfold G at h
  split at h
  · cases h; exact ⟨Try.f3, Try.func3, by decide, c3⟩
  · cases h; exact ⟨Try.f4, Try.func4, by decide, c4⟩
  · cases h; exact ⟨Try.f8, Try.func8, by decide, c8⟩
  · cases h; exact ⟨Try.f9, Try.func9, by decide, c9⟩
  · cases h; exact ⟨Try.f10, Try.func10, by decide, c10⟩
  · cases h; exact ⟨Try.f11, Try.func11, by decide, c11⟩
  · cases h; exact ⟨Try.f12, Try.func12, by decide, c12⟩
  · cases h; exact ⟨Try.f13, Try.func13, by decide, c13⟩
  · cases h; exact ⟨Try.f14, Try.func14, by decide, c14⟩
  · cases h; exact ⟨Try.f15, Try.func15, by decide, c15⟩
  · cases h; exact ⟨Try.f39, Try.func39, by decide, c39⟩
  · cases h; exact ⟨Try.f40, Try.func40, by decide, c40⟩
  · cases h; exact ⟨Try.f41, Try.func41, by decide, c41⟩
  · cases h; exact ⟨Try.f42, Try.func42, by decide, c42⟩
  · cases h; exact ⟨Try.f43, Try.func43, by decide, c43⟩
  · cases h; exact ⟨Try.f44, Try.func44, by decide, c44⟩
  · cases h; exact ⟨Try.f45, Try.func45, by decide, c45⟩
  · cases h; exact ⟨Try.f46, Try.func46, by decide, c46⟩
  · cases h; exact ⟨Try.f47, Try.func47, by decide, c47⟩
  · cases h; exact ⟨Try.f48, Try.func48, by decide, c48⟩
  · cases h; exact ⟨Try.f49, Try.func49, by decide, c49⟩
  · cases h; exact ⟨Try.f50, Try.func50, by decide, c50⟩
  · cases h; exact ⟨Try.f56, Try.func56, by decide, c56⟩
  · cases h; exact ⟨Try.f64, Try.func64, by decide, c64⟩
  · cases h; exact ⟨Try.f65, Try.func65, by decide, c65⟩
  · cases h; exact ⟨Try.f66, Try.func66, by decide, c66⟩
  · cases h; exact ⟨Try.f69, Try.func69, by decide, c69⟩
  · cases h; exact ⟨Try.f70, Try.func70, by decide, c70⟩
  · cases h; exact ⟨Try.f71, Try.func71, by decide, c71⟩
  · cases h; exact ⟨Try.f73, Try.func73, by decide, c73⟩
  · cases h; exact ⟨Try.f74, Try.func74, by decide, c74⟩
  · cases h; exact ⟨Try.f75, Try.func75, by decide, c75⟩
  · cases h; exact ⟨Try.f76, Try.func76, by decide, c76⟩
  · cases h; exact ⟨Try.f77, Try.func77, by decide, c77⟩
  · cases h; exact ⟨Try.f82, Try.func82, by decide, c82⟩
  · cases h; exact ⟨Try.f83, Try.func83, by decide, c83⟩
  · cases h; exact ⟨Try.f88, Try.func88, by decide, c88⟩
  · cases h
end Go.Proofs.Ytcffpndhodhncaa
