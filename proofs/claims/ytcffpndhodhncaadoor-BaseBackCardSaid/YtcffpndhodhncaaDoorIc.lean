/- The code of functions, as the abstract evaluator reads it. Printed by gen_ic.py. -/
import Derived.Test.YtcffpndhodhncaaDoorProg
import Derived.Test.YtcffpndhodhncaaDoorLA4
namespace Go.Proofs.YtcffpndhodhncaaDoor
open Go.RowKit Go.Bo Go.Ab
/-- bothy/bothylaw33.BasePuts -/
def i3 : IFn := ⟨15, [.tmp 2], (.seq (.reg [⟨some 2, .mv (.c (.x (.bool false))), none⟩])
  (.seq (.seq (.reg [⟨some 3, .mv (.t 0), none⟩, ⟨some 4, .len true (.t 3), none⟩, ⟨some 5, .bin .gtr (.t 4) (.c (.x (.int .i64 (500)))), none⟩])
  (.cond (.t 5)
    (.seq (.reg [⟨some 6, .call (.c (.fn 5 [])) [], none⟩, ⟨some 2, .mv (.t 6), none⟩])
    .ret)
    .skip))
  (.seq (.reg [⟨some 7, .mv (.t 0), none⟩, ⟨some 8, .call (.c (.fn 6 [])) [(.t 7)], none⟩, ⟨some 9, .mv (.t 0), none⟩, ⟨some 10, .call (.c (.fn 7 [])) [(.t 9)], none⟩, ⟨some 11, .bin .eql (.t 8) (.t 10), none⟩, ⟨some 12, .mv (.t 11), none⟩, ⟨some 13, .call (.c (.fn 5 [])) [], (some (12, true))⟩, ⟨some 14, .pick (.t 12) (.t 13) (.c (.x (.bool false))), none⟩, ⟨some 2, .mv (.t 14), none⟩])
  .ret)))⟩
theorem c3 : compFn Tryd.prog Tryd.f3 = some i3 := by kernel_rfl
/-- bothy/bothylaw33.BaseBack -/
def i4 : IFn := ⟨57, [.tmp 4], (.seq (.reg [⟨some 4, .mv (.c (.x (.bool false))), none⟩])
  (.seq (.seq (.reg [⟨some 9, .mv (.t 0), none⟩, ⟨some 10, .len true (.t 9), none⟩, ⟨some 11, .bin .gtr (.t 10) (.c (.x (.int .i64 (500)))), none⟩, ⟨some 12, .mv (.t 11), none⟩, ⟨some 13, .mv (.t 1), (some (12, false))⟩, ⟨some 14, .len true (.t 13), (some (12, false))⟩, ⟨some 15, .bin .gtr (.t 14) (.c (.x (.int .i64 (500)))), (some (12, false))⟩, ⟨some 16, .pick (.t 12) (.c (.x (.bool true))) (.t 15), none⟩])
  (.cond (.t 16)
    (.seq (.reg [⟨some 17, .call (.c (.fn 5 [])) [], none⟩, ⟨some 4, .mv (.t 17), none⟩])
    .ret)
    .skip))
  (.seq (.reg [⟨some 19, .mv (.t 0), none⟩, ⟨some 20, .call (.c (.fn 6 [])) [(.t 19)], none⟩, ⟨some 21, .call (.c (.fn 8 [])) [(.t 20)], none⟩, ⟨some 18, .mv (.t 21), none⟩, ⟨some 22, .ext (.t 18) 0, none⟩, ⟨some 23, .ext (.t 18) 1, none⟩, ⟨some 5, .mv (.t 22), none⟩, ⟨some 6, .mv (.t 23), none⟩])
  (.seq (.reg [⟨some 25, .mv (.t 1), none⟩, ⟨some 26, .call (.c (.fn 8 [])) [(.t 25)], none⟩, ⟨some 24, .mv (.t 26), none⟩, ⟨some 27, .ext (.t 24) 0, none⟩, ⟨some 28, .ext (.t 24) 1, none⟩, ⟨some 7, .mv (.t 27), none⟩, ⟨some 8, .mv (.t 28), none⟩])
  (.seq (.reg [⟨some 29, .mv (.t 5), none⟩, ⟨some 30, .mv (.t 0), none⟩, ⟨some 31, .bin .eql (.t 29) (.t 30), none⟩, ⟨some 32, .mv (.t 31), none⟩, ⟨some 33, .mv (.t 6), (some (32, true))⟩, ⟨some 34, .bin .eql (.t 33) (.c (.x (.int .i64 (0)))), (some (32, true))⟩, ⟨some 35, .pick (.t 32) (.t 34) (.c (.x (.bool false))), none⟩, ⟨some 36, .mv (.t 35), none⟩, ⟨some 37, .mv (.t 8), (some (36, true))⟩, ⟨some 38, .bin .eql (.t 37) (.c (.x (.int .i64 (0)))), (some (36, true))⟩, ⟨some 39, .mv (.t 38), (some (36, true))⟩, ⟨some 40, .mv (.t 7), (some (39, true))⟩, ⟨some 41, .call (.c (.fn 7 [])) [(.t 40)], (some (39, true))⟩, ⟨some 42, .mv (.t 1), (some (39, true))⟩, ⟨some 43, .bin .eql (.t 41) (.t 42), (some (39, true))⟩, ⟨some 44, .pick (.t 39) (.t 43) (.c (.x (.bool false))), (some (36, true))⟩, ⟨some 45, .mv (.t 44), (some (36, true))⟩, ⟨some 46, .mv (.t 8), (some (45, false))⟩, ⟨some 47, .bin .eql (.t 46) (.c (.x (.int .i64 (5)))), (some (45, false))⟩, ⟨some 48, .mv (.t 47), (some (45, false))⟩, ⟨some 49, .mv (.t 7), (some (48, true))⟩, ⟨some 50, .bin .eql (.t 49) (.c (.x (.str []))), (some (48, true))⟩, ⟨some 51, .pick (.t 48) (.t 50) (.c (.x (.bool false))), (some (45, false))⟩, ⟨some 52, .pick (.t 45) (.c (.x (.bool true))) (.t 51), (some (36, true))⟩, ⟨some 53, .pick (.t 36) (.t 52) (.c (.x (.bool false))), none⟩, ⟨some 54, .mv (.t 53), none⟩, ⟨some 55, .call (.c (.fn 5 [])) [], (some (54, true))⟩, ⟨some 56, .pick (.t 54) (.t 55) (.c (.x (.bool false))), none⟩, ⟨some 4, .mv (.t 56), none⟩])
  .ret)))))⟩
theorem c4 : compFn Tryd.prog Tryd.f4 = some i4 := by kernel_rfl
/-- bothy/bothylaw33.awake -/
def i5 : IFn := ⟨45, [.tmp 0], (.seq (.reg [⟨some 0, .mv (.c (.x (.bool false))), none⟩])
  (.seq (.reg [⟨some 8, .call (.c (.fn 8 [])) [(.c (.x (.str [89, 81, 61, 61])))], none⟩, ⟨some 7, .mv (.t 8), none⟩, ⟨some 9, .ext (.t 7) 0, none⟩, ⟨some 10, .ext (.t 7) 1, none⟩, ⟨some 1, .mv (.t 9), none⟩, ⟨some 2, .mv (.t 10), none⟩])
  (.seq (.reg [⟨some 12, .call (.c (.fn 8 [])) [(.c (.x (.str [89, 81, 61])))], none⟩, ⟨some 11, .mv (.t 12), none⟩, ⟨some 13, .ext (.t 11) 0, none⟩, ⟨some 14, .ext (.t 11) 1, none⟩, ⟨some 3, .mv (.t 13), none⟩, ⟨some 4, .mv (.t 14), none⟩])
  (.seq (.reg [⟨some 16, .call (.c (.fn 8 [])) [(.c (.x (.str [89, 82, 61, 61])))], none⟩, ⟨some 15, .mv (.t 16), none⟩, ⟨some 17, .ext (.t 15) 0, none⟩, ⟨some 18, .ext (.t 15) 1, none⟩, ⟨some 5, .mv (.t 17), none⟩, ⟨some 6, .mv (.t 18), none⟩])
  (.seq (.reg [⟨some 19, .call (.c (.fn 6 [])) [(.c (.x (.str [97])))], none⟩, ⟨some 20, .bin .eql (.t 19) (.c (.x (.str [89, 81, 61, 61]))), none⟩, ⟨some 21, .mv (.t 20), none⟩, ⟨some 22, .call (.c (.fn 6 [])) [(.c (.x (.str [97, 98, 99])))], (some (21, true))⟩, ⟨some 23, .bin .eql (.t 22) (.c (.x (.str [89, 87, 74, 106]))), (some (21, true))⟩, ⟨some 24, .pick (.t 21) (.t 23) (.c (.x (.bool false))), none⟩, ⟨some 25, .mv (.t 24), none⟩, ⟨some 26, .mv (.t 1), (some (25, true))⟩, ⟨some 27, .bin .eql (.t 26) (.c (.x (.str [97]))), (some (25, true))⟩, ⟨some 28, .pick (.t 25) (.t 27) (.c (.x (.bool false))), none⟩, ⟨some 29, .mv (.t 28), none⟩, ⟨some 30, .mv (.t 2), (some (29, true))⟩, ⟨some 31, .bin .eql (.t 30) (.c (.x (.int .i64 (0)))), (some (29, true))⟩, ⟨some 32, .pick (.t 29) (.t 31) (.c (.x (.bool false))), none⟩, ⟨some 33, .mv (.t 32), none⟩, ⟨some 34, .mv (.t 4), (some (33, true))⟩, ⟨some 35, .bin .eql (.t 34) (.c (.x (.int .i64 (5)))), (some (33, true))⟩, ⟨some 36, .pick (.t 33) (.t 35) (.c (.x (.bool false))), none⟩, ⟨some 37, .mv (.t 36), none⟩, ⟨some 38, .mv (.t 6), (some (37, true))⟩, ⟨some 39, .bin .eql (.t 38) (.c (.x (.int .i64 (5)))), (some (37, true))⟩, ⟨some 40, .pick (.t 37) (.t 39) (.c (.x (.bool false))), none⟩, ⟨some 41, .mv (.t 40), none⟩, ⟨some 42, .call (.c (.fn 6 [])) [(.c (.x (.str [])))], (some (41, true))⟩, ⟨some 43, .bin .eql (.t 42) (.c (.x (.str []))), (some (41, true))⟩, ⟨some 44, .pick (.t 41) (.t 43) (.c (.x (.bool false))), none⟩, ⟨some 0, .mv (.t 44), none⟩])
  .ret)))))⟩
theorem c5 : compFn Tryd.prog Tryd.f5 = some i5 := by kernel_rfl
/-- bothy/base.Put -/
def i6 : IFn := ⟨50, [.tmp 2], (.seq (.reg [⟨some 2, .mv (.c (.x (.str []))), none⟩])
  (.seq (.reg [⟨some 3, .box (.c (.agg [.x .nilp, .x .nils])), none⟩])
  (.seq (.reg [⟨some 4, .mv (.c (.x (.int .i64 (0)))), none⟩, ⟨some 5, .mv (.c (.x (.int .i64 (0)))), none⟩])
  (.seq (.seq (.reg [⟨some 7, .mv (.t 0), none⟩, ⟨some 8, .len true (.t 7), none⟩, ⟨some 9, .mv (.c (.x (.int .i64 (0)))), none⟩])
  (.block 0
    (.loop
      (.seq (.reg [⟨some 10, .bin .lss (.t 9) (.t 8), none⟩])
      (.seq (.cond (.t 10)
        .skip
        (.exit 0))
      (.seq (.block 1
        (.seq (.reg [⟨some 11, .mv (.t 9), none⟩, ⟨some 6, .mv (.t 11), none⟩])
        (.seq (.reg [⟨some 12, .mv (.t 4), none⟩, ⟨some 13, .bin .shl (.t 12) (.c (.x (.int .u64 (8)))), none⟩, ⟨some 14, .mv (.t 0), none⟩, ⟨some 15, .mv (.t 6), none⟩, ⟨some 16, .idx (.t 14) (.t 15), none⟩, ⟨some 17, .cvi .i64 (.t 16), none⟩, ⟨some 18, .bin .or (.t 13) (.t 17), none⟩, ⟨some 19, .mv (.t 5), none⟩, ⟨some 20, .bin .add (.t 19) (.c (.x (.int .i64 (8)))), none⟩, ⟨some 4, .mv (.t 18), none⟩, ⟨some 5, .mv (.t 20), none⟩])
        (.seq (.block 2
          (.loop
            (.seq (.seq (.reg [⟨some 21, .mv (.t 5), none⟩, ⟨some 22, .bin .geq (.t 21) (.c (.x (.int .i64 (6)))), none⟩])
            (.cond (.t 22)
              .skip
              (.exit 2)))
            (.block 3
              (.seq (.reg [⟨some 23, .mv (.t 5), none⟩, ⟨some 24, .bin .sub (.t 23) (.c (.x (.int .i64 (6)))), none⟩, ⟨some 5, .mv (.t 24), none⟩])
              (.reg [⟨some 25, .mv (.t 4), none⟩, ⟨some 26, .mv (.t 5), none⟩, ⟨some 27, .bin .shr (.t 25) (.t 26), none⟩, ⟨some 28, .bin .and (.t 27) (.c (.x (.int .i64 (63)))), none⟩, ⟨some 29, .idx (.c (.x (.str [65, 66, 67, 68, 69, 70, 71, 72, 73, 74, 75, 76, 77, 78, 79, 80, 81, 82, 83, 84, 85, 86, 87, 88, 89, 90, 97, 98, 99, 100, 101, 102, 103, 104, 105, 106, 107, 108, 109, 110, 111, 112, 113, 114, 115, 116, 117, 118, 119, 120, 121, 122, 48, 49, 50, 51, 52, 53, 54, 55, 56, 57, 43, 47]))) (.t 28), none⟩, ⟨some 30, .call (.c (.fn 9 [])) [(.t 3), (.t 29)], none⟩]))))))
        (.reg [⟨some 31, .mv (.t 4), none⟩, ⟨some 32, .mv (.t 5), none⟩, ⟨some 33, .bin .shl (.c (.x (.int .i64 (1)))) (.t 32), none⟩, ⟨some 34, .bin .sub (.t 33) (.c (.x (.int .i64 (1)))), none⟩, ⟨some 35, .bin .and (.t 31) (.t 34), none⟩, ⟨some 4, .mv (.t 35), none⟩])))))
      (.reg [⟨some 36, .bin .add (.t 9) (.c (.x (.int .i64 (1)))), none⟩, ⟨some 9, .mv (.t 36), none⟩])))))))
  (.seq (.seq (.reg [⟨some 37, .mv (.t 5), none⟩, ⟨some 38, .bin .gtr (.t 37) (.c (.x (.int .i64 (0)))), none⟩])
  (.cond (.t 38)
    (.reg [⟨some 39, .mv (.t 4), none⟩, ⟨some 40, .mv (.t 5), none⟩, ⟨some 41, .bin .sub (.c (.x (.int .i64 (6)))) (.t 40), none⟩, ⟨some 42, .bin .shl (.t 39) (.t 41), none⟩, ⟨some 43, .idx (.c (.x (.str [65, 66, 67, 68, 69, 70, 71, 72, 73, 74, 75, 76, 77, 78, 79, 80, 81, 82, 83, 84, 85, 86, 87, 88, 89, 90, 97, 98, 99, 100, 101, 102, 103, 104, 105, 106, 107, 108, 109, 110, 111, 112, 113, 114, 115, 116, 117, 118, 119, 120, 121, 122, 48, 49, 50, 51, 52, 53, 54, 55, 56, 57, 43, 47]))) (.t 42), none⟩, ⟨some 44, .call (.c (.fn 9 [])) [(.t 3), (.t 43)], none⟩])
    .skip))
  (.seq (.block 4
    (.loop
      (.seq (.seq (.reg [⟨some 45, .call (.c (.fn 10 [])) [(.t 3)], none⟩, ⟨some 46, .bin .rem (.t 45) (.c (.x (.int .i64 (4)))), none⟩, ⟨some 47, .bin .neq (.t 46) (.c (.x (.int .i64 (0)))), none⟩])
      (.cond (.t 47)
        .skip
        (.exit 4)))
      (.block 5
        (.reg [⟨some 48, .call (.c (.fn 9 [])) [(.t 3), (.c (.x (.int .u8 (61))))], none⟩])))))
  (.seq (.reg [⟨some 49, .call (.c (.fn 11 [])) [(.t 3)], none⟩, ⟨some 2, .mv (.t 49), none⟩])
  .ret)))))))⟩
theorem c6 : compFn Tryd.prog Tryd.f6 = some i6 := by kernel_rfl
/-- bothy/bothylaw33.put -/
def i7 : IFn := ⟨56, [.tmp 2], (.seq (.reg [⟨some 2, .mv (.c (.x (.str []))), none⟩])
  (.seq (.reg [⟨some 3, .mv (.c (.x (.str [65, 66, 67, 68, 69, 70, 71, 72, 73, 74, 75, 76, 77, 78, 79, 80, 81, 82, 83, 84, 85, 86, 87, 88, 89, 90, 97, 98, 99, 100, 101, 102, 103, 104, 105, 106, 107, 108, 109, 110, 111, 112, 113, 114, 115, 116, 117, 118, 119, 120, 121, 122, 48, 49, 50, 51, 52, 53, 54, 55, 56, 57, 43, 47]))), none⟩])
  (.seq (.reg [⟨some 4, .mv (.c (.x (.str []))), none⟩])
  (.seq (.seq (.reg [⟨some 5, .mv (.c (.x (.int .i64 (0)))), none⟩])
  (.block 0
    (.loop
      (.seq (.seq (.reg [⟨some 8, .mv (.t 5), none⟩, ⟨some 9, .mv (.t 0), none⟩, ⟨some 10, .len true (.t 9), none⟩, ⟨some 11, .bin .mul (.c (.x (.int .i64 (8)))) (.t 10), none⟩, ⟨some 12, .bin .lss (.t 8) (.t 11), none⟩])
      (.cond (.t 12)
        .skip
        (.exit 0)))
      (.seq (.block 1
        (.seq (.reg [⟨some 6, .mv (.c (.x (.int .i64 (0)))), none⟩])
        (.seq (.seq (.reg [⟨some 15, .mv (.t 5), none⟩, ⟨some 7, .mv (.t 15), none⟩])
        (.block 2
          (.loop
            (.seq (.seq (.reg [⟨some 16, .mv (.t 7), none⟩, ⟨some 17, .mv (.t 5), none⟩, ⟨some 18, .bin .add (.t 17) (.c (.x (.int .i64 (6)))), none⟩, ⟨some 19, .bin .lss (.t 16) (.t 18), none⟩])
            (.cond (.t 19)
              .skip
              (.exit 2)))
            (.seq (.block 3
              (.seq (.reg [⟨some 22, .mv (.t 6), none⟩, ⟨some 23, .bin .mul (.t 22) (.c (.x (.int .i64 (2)))), none⟩, ⟨some 6, .mv (.t 23), none⟩])
              (.seq (.reg [⟨some 24, .mv (.t 7), none⟩, ⟨some 25, .mv (.t 0), none⟩, ⟨some 26, .len true (.t 25), none⟩, ⟨some 27, .bin .mul (.c (.x (.int .i64 (8)))) (.t 26), none⟩, ⟨some 28, .bin .lss (.t 24) (.t 27), none⟩])
              (.cond (.t 28)
                (.reg [⟨some 29, .mv (.t 6), none⟩, ⟨some 30, .mv (.t 0), none⟩, ⟨some 31, .mv (.t 7), none⟩, ⟨some 32, .bin .quo (.t 31) (.c (.x (.int .i64 (8)))), none⟩, ⟨some 33, .idx (.t 30) (.t 32), none⟩, ⟨some 34, .mv (.t 7), none⟩, ⟨some 35, .bin .rem (.t 34) (.c (.x (.int .i64 (8)))), none⟩, ⟨some 36, .bin .sub (.c (.x (.int .i64 (7)))) (.t 35), none⟩, ⟨some 37, .cvi .u64 (.t 36), none⟩, ⟨some 38, .bin .shr (.t 33) (.t 37), none⟩, ⟨some 39, .bin .rem (.t 38) (.c (.x (.int .u8 (2)))), none⟩, ⟨some 40, .cvi .i64 (.t 39), none⟩, ⟨some 41, .bin .add (.t 29) (.t 40), none⟩, ⟨some 6, .mv (.t 41), none⟩])
                .skip))))
            (.reg [⟨some 20, .mv (.t 7), none⟩, ⟨some 21, .bin .add (.t 20) (.c (.x (.int .i64 (1)))), none⟩, ⟨some 7, .mv (.t 21), none⟩]))))))
        (.reg [⟨some 42, .mv (.t 4), none⟩, ⟨some 43, .mv (.t 3), none⟩, ⟨some 44, .mv (.t 6), none⟩, ⟨some 45, .mv (.t 6), none⟩, ⟨some 46, .bin .add (.t 45) (.c (.x (.int .i64 (1)))), none⟩, ⟨some 47, .slc 0 (.t 43) (some (.t 44)) (some (.t 46)) none, none⟩, ⟨some 48, .bin .add (.t 42) (.t 47), none⟩, ⟨some 4, .mv (.t 48), none⟩]))))
      (.reg [⟨some 13, .mv (.t 5), none⟩, ⟨some 14, .bin .add (.t 13) (.c (.x (.int .i64 (6)))), none⟩, ⟨some 5, .mv (.t 14), none⟩]))))))
  (.seq (.block 4
    (.loop
      (.seq (.seq (.reg [⟨some 49, .mv (.t 4), none⟩, ⟨some 50, .len true (.t 49), none⟩, ⟨some 51, .bin .rem (.t 50) (.c (.x (.int .i64 (4)))), none⟩, ⟨some 52, .bin .gtr (.t 51) (.c (.x (.int .i64 (0)))), none⟩])
      (.cond (.t 52)
        .skip
        (.exit 4)))
      (.block 5
        (.reg [⟨some 53, .mv (.t 4), none⟩, ⟨some 54, .bin .add (.t 53) (.c (.x (.str [61]))), none⟩, ⟨some 4, .mv (.t 54), none⟩])))))
  (.seq (.reg [⟨some 55, .mv (.t 4), none⟩, ⟨some 2, .mv (.t 55), none⟩])
  .ret))))))⟩
theorem c7 : compFn Tryd.prog Tryd.f7 = some i7 := by kernel_rfl
/-- bothy/base.Read -/
def i8 : IFn := ⟨68, [.tmp 2, .tmp 3], (.seq (.reg [⟨some 2, .mv (.c (.x (.str []))), none⟩, ⟨some 3, .mv (.c (.x (.int .i64 (0)))), none⟩])
  (.seq (.seq (.reg [⟨some 11, .mv (.t 0), none⟩, ⟨some 12, .len true (.t 11), none⟩, ⟨some 13, .bin .rem (.t 12) (.c (.x (.int .i64 (4)))), none⟩, ⟨some 14, .bin .neq (.t 13) (.c (.x (.int .i64 (0)))), none⟩])
  (.cond (.t 14)
    (.seq (.reg [⟨some 2, .mv (.c (.x (.str []))), none⟩, ⟨some 3, .mv (.c (.x (.int .i64 (5)))), none⟩])
    .ret)
    .skip))
  (.seq (.reg [⟨some 15, .mv (.t 0), none⟩, ⟨some 16, .call (.c (.fn 12 [])) [(.t 15), (.c (.x (.str [61])))], none⟩, ⟨some 4, .mv (.t 16), none⟩])
  (.seq (.seq (.reg [⟨some 17, .mv (.t 0), none⟩, ⟨some 18, .len true (.t 17), none⟩, ⟨some 19, .mv (.t 4), none⟩, ⟨some 20, .len true (.t 19), none⟩, ⟨some 21, .bin .sub (.t 18) (.t 20), none⟩, ⟨some 22, .bin .gtr (.t 21) (.c (.x (.int .i64 (2)))), none⟩])
  (.cond (.t 22)
    (.seq (.reg [⟨some 2, .mv (.c (.x (.str []))), none⟩, ⟨some 3, .mv (.c (.x (.int .i64 (5)))), none⟩])
    .ret)
    .skip))
  (.seq (.reg [⟨some 5, .mv (.c (.x .nils)), none⟩])
  (.seq (.reg [⟨some 6, .mv (.c (.x (.int .i64 (0)))), none⟩, ⟨some 7, .mv (.c (.x (.int .i64 (0)))), none⟩])
  (.seq (.seq (.reg [⟨some 23, .mv (.t 4), none⟩, ⟨some 24, .len true (.t 23), none⟩, ⟨some 25, .mv (.c (.x (.int .i64 (0)))), none⟩])
  (.block 0
    (.loop
      (.seq (.reg [⟨some 26, .bin .lss (.t 25) (.t 24), none⟩])
      (.seq (.cond (.t 26)
        .skip
        (.exit 0))
      (.seq (.block 1
        (.seq (.reg [⟨some 27, .mv (.t 25), none⟩, ⟨some 8, .mv (.t 27), none⟩])
        (.seq (.reg [⟨some 29, .mv (.t 4), none⟩, ⟨some 30, .mv (.t 8), none⟩, ⟨some 31, .idx (.t 29) (.t 30), none⟩, ⟨some 32, .call (.c (.fn 13 [])) [(.t 31)], none⟩, ⟨some 28, .mv (.t 32), none⟩, ⟨some 33, .ext (.t 28) 0, none⟩, ⟨some 34, .ext (.t 28) 1, none⟩, ⟨some 9, .mv (.t 33), none⟩, ⟨some 10, .mv (.t 34), none⟩])
        (.seq (.seq (.reg [⟨some 35, .mv (.t 10), none⟩, ⟨some 36, .un .not (.t 35), none⟩])
        (.cond (.t 36)
          (.seq (.reg [⟨some 2, .mv (.c (.x (.str []))), none⟩, ⟨some 3, .mv (.c (.x (.int .i64 (5)))), none⟩])
          .ret)
          .skip))
        (.seq (.reg [⟨some 37, .mv (.t 6), none⟩, ⟨some 38, .bin .shl (.t 37) (.c (.x (.int .u64 (6)))), none⟩, ⟨some 39, .mv (.t 9), none⟩, ⟨some 40, .bin .or (.t 38) (.t 39), none⟩, ⟨some 41, .mv (.t 7), none⟩, ⟨some 42, .bin .add (.t 41) (.c (.x (.int .i64 (6)))), none⟩, ⟨some 6, .mv (.t 40), none⟩, ⟨some 7, .mv (.t 42), none⟩])
        (.seq (.reg [⟨some 43, .mv (.t 7), none⟩, ⟨some 44, .bin .geq (.t 43) (.c (.x (.int .i64 (8)))), none⟩])
        (.cond (.t 44)
          (.seq (.reg [⟨some 45, .mv (.t 7), none⟩, ⟨some 46, .bin .sub (.t 45) (.c (.x (.int .i64 (8)))), none⟩, ⟨some 7, .mv (.t 46), none⟩])
          (.seq (.reg [⟨some 47, .mv (.t 5), none⟩, ⟨some 48, .mv (.t 6), none⟩, ⟨some 49, .mv (.t 7), none⟩, ⟨some 50, .bin .shr (.t 48) (.t 49), none⟩, ⟨some 51, .cvi .u8 (.t 50), none⟩, ⟨some 52, .bsl 5 1 1 [(.t 51)], none⟩, ⟨some 53, .app 5 1 1 (.t 47) (.t 52), none⟩, ⟨some 5, .mv (.t 53), none⟩])
          (.reg [⟨some 54, .mv (.t 6), none⟩, ⟨some 55, .mv (.t 7), none⟩, ⟨some 56, .bin .shl (.c (.x (.int .i64 (1)))) (.t 55), none⟩, ⟨some 57, .bin .sub (.t 56) (.c (.x (.int .i64 (1)))), none⟩, ⟨some 58, .bin .and (.t 54) (.t 57), none⟩, ⟨some 6, .mv (.t 58), none⟩])))
          .skip)))))))
      (.reg [⟨some 59, .bin .add (.t 25) (.c (.x (.int .i64 (1)))), none⟩, ⟨some 25, .mv (.t 59), none⟩])))))))
  (.seq (.seq (.reg [⟨some 60, .mv (.t 6), none⟩, ⟨some 61, .bin .neq (.t 60) (.c (.x (.int .i64 (0)))), none⟩, ⟨some 62, .mv (.t 61), none⟩, ⟨some 63, .mv (.t 7), (some (62, false))⟩, ⟨some 64, .bin .geq (.t 63) (.c (.x (.int .i64 (6)))), (some (62, false))⟩, ⟨some 65, .pick (.t 62) (.c (.x (.bool true))) (.t 64), none⟩])
  (.cond (.t 65)
    (.seq (.reg [⟨some 2, .mv (.c (.x (.str []))), none⟩, ⟨some 3, .mv (.c (.x (.int .i64 (5)))), none⟩])
    .ret)
    .skip))
  (.seq (.reg [⟨some 66, .mv (.t 5), none⟩, ⟨some 67, .b2s (.t 66), none⟩, ⟨some 2, .mv (.t 67), none⟩, ⟨some 3, .mv (.c (.x (.int .i64 (0)))), none⟩])
  .ret)))))))))⟩
theorem c8 : compFn Tryd.prog Tryd.f8 = some i8 := by kernel_rfl
/-- (*strings.Builder).WriteByte -/
def i9 : IFn := ⟨17, [.tmp 4], (.seq (.reg [⟨some 4, .mv (.c (.und)), none⟩])
  (.seq (.reg [⟨some 5, .mv (.t 0), none⟩, ⟨some 6, .call (.c (.fn 14 [])) [(.t 5)], none⟩])
  (.seq (.reg [⟨some 7, .mv (.t 0), none⟩, ⟨some 8, .mv (.t 0), none⟩, ⟨some 9, .nck (.t 8), none⟩, ⟨some 10, .fad 1 (.t 9), none⟩, ⟨some 11, .ld 1 false (.t 10), none⟩, ⟨some 12, .mv (.t 1), none⟩, ⟨some 13, .bsl 5 1 1 [(.t 12)], none⟩, ⟨some 14, .app 5 1 1 (.t 11) (.t 13), none⟩, ⟨some 15, .nck (.t 7), none⟩, ⟨some 16, .fad 1 (.t 15), none⟩, ⟨none, .sto 1 (.t 16) (.t 14), none⟩])
  (.seq (.reg [⟨some 4, .mv (.c (.und)), none⟩])
  .ret))))⟩
theorem c9 : compFn Tryd.prog Tryd.f9 = some i9 := by kernel_rfl
/-- (*strings.Builder).Len -/
def i10 : IFn := ⟨8, [.tmp 2], (.seq (.reg [⟨some 2, .mv (.c (.x (.int .i64 (0)))), none⟩])
  (.seq (.reg [⟨some 3, .mv (.t 0), none⟩, ⟨some 4, .nck (.t 3), none⟩, ⟨some 5, .fad 1 (.t 4), none⟩, ⟨some 6, .ld 1 false (.t 5), none⟩, ⟨some 7, .len false (.t 6), none⟩, ⟨some 2, .mv (.t 7), none⟩])
  .ret))⟩
theorem c10 : compFn Tryd.prog Tryd.f10 = some i10 := by kernel_rfl
/-- (*strings.Builder).String -/
def i11 : IFn := ⟨14, [.tmp 2], (.seq (.reg [⟨some 2, .mv (.c (.x (.str []))), none⟩])
  (.seq .dead
  .ret))⟩
theorem c11 : compFn Tryd.prog Tryd.f11 = some i11 := by kernel_rfl
/-- strings.TrimRight -/
def i12 : IFn := ⟨37, [.tmp 4], (.seq (.reg [⟨some 4, .mv (.c (.x (.str []))), none⟩])
  (.seq (.seq (.reg [⟨some 7, .mv (.t 0), none⟩, ⟨some 8, .bin .eql (.t 7) (.c (.x (.str []))), none⟩, ⟨some 9, .mv (.t 8), none⟩, ⟨some 10, .mv (.t 1), (some (9, false))⟩, ⟨some 11, .bin .eql (.t 10) (.c (.x (.str []))), (some (9, false))⟩, ⟨some 12, .pick (.t 9) (.c (.x (.bool true))) (.t 11), none⟩])
  (.cond (.t 12)
    (.seq (.reg [⟨some 13, .mv (.t 0), none⟩, ⟨some 4, .mv (.t 13), none⟩])
    .ret)
    .skip))
  (.seq (.seq (.reg [⟨some 14, .mv (.t 1), none⟩, ⟨some 15, .len true (.t 14), none⟩, ⟨some 16, .bin .eql (.t 15) (.c (.x (.int .i64 (1)))), none⟩, ⟨some 17, .mv (.t 16), none⟩, ⟨some 18, .mv (.t 1), (some (17, true))⟩, ⟨some 19, .idx (.t 18) (.c (.x (.int .i64 (0)))), (some (17, true))⟩, ⟨some 20, .bin .lss (.t 19) (.c (.x (.int .u8 (128)))), (some (17, true))⟩, ⟨some 21, .pick (.t 17) (.t 20) (.c (.x (.bool false))), none⟩])
  (.cond (.t 21)
    (.seq (.reg [⟨some 22, .mv (.t 0), none⟩, ⟨some 23, .mv (.t 1), none⟩, ⟨some 24, .idx (.t 23) (.c (.x (.int .i64 (0)))), none⟩, ⟨some 25, .call (.c (.fn 15 [])) [(.t 22), (.t 24)], none⟩, ⟨some 4, .mv (.t 25), none⟩])
    .ret)
    .skip))
  (.seq (.seq (.reg [⟨some 27, .mv (.t 1), none⟩, ⟨some 28, .call (.c (.fn 16 [])) [(.t 27)], none⟩, ⟨some 26, .mv (.t 28), none⟩, ⟨some 29, .ext (.t 26) 0, none⟩, ⟨some 30, .ext (.t 26) 1, none⟩, ⟨some 5, .abx 45 (.c (.agg [.x (.bool false), .x (.bool false), .x (.bool false), .x (.bool false), .x (.bool false), .x (.bool false), .x (.bool false), .x (.bool false), .x (.bool false), .x (.bool false), .x (.bool false), .x (.bool false), .x (.bool false), .x (.bool false), .x (.bool false), .x (.bool false), .x (.bool false), .x (.bool false), .x (.bool false), .x (.bool false), .x (.bool false), .x (.bool false), .x (.bool false), .x (.bool false), .x (.bool false), .x (.bool false), .x (.bool false), .x (.bool false), .x (.bool false), .x (.bool false), .x (.bool false), .x (.bool false), .x (.bool false), .x (.bool false), .x (.bool false), .x (.bool false), .x (.bool false), .x (.bool false), .x (.bool false), .x (.bool false), .x (.bool false), .x (.bool false), .x (.bool false), .x (.bool false), .x (.bool false), .x (.bool false), .x (.bool false), .x (.bool false), .x (.bool false), .x (.bool false), .x (.bool false), .x (.bool false), .x (.bool false), .x (.bool false), .x (.bool false), .x (.bool false), .x (.bool false), .x (.bool false), .x (.bool false), .x (.bool false), .x (.bool false), .x (.bool false), .x (.bool false), .x (.bool false), .x (.bool false), .x (.bool false), .x (.bool false), .x (.bool false), .x (.bool false), .x (.bool false), .x (.bool false), .x (.bool false), .x (.bool false), .x (.bool false), .x (.bool false), .x (.bool false), .x (.bool false), .x (.bool false), .x (.bool false), .x (.bool false), .x (.bool false), .x (.bool false), .x (.bool false), .x (.bool false), .x (.bool false), .x (.bool false), .x (.bool false), .x (.bool false), .x (.bool false), .x (.bool false), .x (.bool false), .x (.bool false), .x (.bool false), .x (.bool false), .x (.bool false), .x (.bool false), .x (.bool false), .x (.bool false), .x (.bool false), .x (.bool false), .x (.bool false), .x (.bool false), .x (.bool false), .x (.bool false), .x (.bool false), .x (.bool false), .x (.bool false), .x (.bool false), .x (.bool false), .x (.bool false), .x (.bool false), .x (.bool false), .x (.bool false), .x (.bool false), .x (.bool false), .x (.bool false), .x (.bool false), .x (.bool false), .x (.bool false), .x (.bool false), .x (.bool false), .x (.bool false), .x (.bool false), .x (.bool false), .x (.bool false), .x (.bool false), .x (.bool false), .x (.bool false), .x (.bool false), .x (.bool false), .x (.bool false), .x (.bool false), .x (.bool false), .x (.bool false), .x (.bool false), .x (.bool false), .x (.bool false), .x (.bool false), .x (.bool false), .x (.bool false), .x (.bool false), .x (.bool false), .x (.bool false), .x (.bool false), .x (.bool false), .x (.bool false), .x (.bool false), .x (.bool false), .x (.bool false), .x (.bool false), .x (.bool false), .x (.bool false), .x (.bool false), .x (.bool false), .x (.bool false), .x (.bool false), .x (.bool false), .x (.bool false), .x (.bool false), .x (.bool false), .x (.bool false), .x (.bool false), .x (.bool false), .x (.bool false), .x (.bool false), .x (.bool false), .x (.bool false), .x (.bool false), .x (.bool false), .x (.bool false), .x (.bool false), .x (.bool false), .x (.bool false), .x (.bool false), .x (.bool false), .x (.bool false), .x (.bool false), .x (.bool false), .x (.bool false), .x (.bool false), .x (.bool false), .x (.bool false), .x (.bool false), .x (.bool false), .x (.bool false), .x (.bool false), .x (.bool false), .x (.bool false), .x (.bool false), .x (.bool false), .x (.bool false), .x (.bool false), .x (.bool false), .x (.bool false), .x (.bool false), .x (.bool false), .x (.bool false), .x (.bool false), .x (.bool false), .x (.bool false), .x (.bool false), .x (.bool false), .x (.bool false), .x (.bool false), .x (.bool false), .x (.bool false), .x (.bool false), .x (.bool false), .x (.bool false), .x (.bool false), .x (.bool false), .x (.bool false), .x (.bool false), .x (.bool false), .x (.bool false), .x (.bool false), .x (.bool false), .x (.bool false), .x (.bool false), .x (.bool false), .x (.bool false), .x (.bool false), .x (.bool false), .x (.bool false), .x (.bool false), .x (.bool false), .x (.bool false), .x (.bool false), .x (.bool false), .x (.bool false), .x (.bool false), .x (.bool false), .x (.bool false), .x (.bool false), .x (.bool false), .x (.bool false), .x (.bool false), .x (.bool false), .x (.bool false), .x (.bool false), .x (.bool false), .x (.bool false), .x (.bool false), .x (.bool false), .x (.bool false), .x (.bool false), .x (.bool false), .x (.bool false), .x (.bool false), .x (.bool false), .x (.bool false), .x (.bool false), .x (.bool false), .x (.bool false), .x (.bool false), .x (.bool false)])), none⟩, ⟨none, .sto 256 (.t 5) (.t 29), none⟩, ⟨some 6, .mv (.t 30), none⟩])
  (.seq (.reg [⟨some 31, .mv (.t 6), none⟩])
  (.cond (.t 31)
    (.seq (.reg [⟨some 32, .mv (.t 0), none⟩, ⟨some 33, .call (.c (.fn 17 [])) [(.t 32), (.t 5)], none⟩, ⟨some 4, .mv (.t 33), none⟩])
    .ret)
    .skip)))
  (.seq (.reg [⟨some 34, .mv (.t 0), none⟩, ⟨some 35, .mv (.t 1), none⟩, ⟨some 36, .call (.c (.fn 18 [])) [(.t 34), (.t 35)], none⟩, ⟨some 4, .mv (.t 36), none⟩])
  .ret)))))⟩
theorem c12 : compFn Tryd.prog Tryd.f12 = some i12 := by kernel_rfl
/-- bothy/base.number -/
def i13 : IFn := ⟨14, [.tmp 2, .tmp 3], (.seq (.reg [⟨some 2, .mv (.c (.x (.int .i64 (0)))), none⟩, ⟨some 3, .mv (.c (.x (.bool false))), none⟩])
  (.seq (.seq (.reg [⟨some 5, .mv (.c (.x (.int .i64 (0)))), none⟩])
  (.block 0
    (.loop
      (.seq (.reg [⟨some 6, .bin .lss (.t 5) (.c (.x (.int .i64 (64)))), none⟩])
      (.seq (.cond (.t 6)
        .skip
        (.exit 0))
      (.seq (.block 1
        (.seq (.reg [⟨some 7, .mv (.t 5), none⟩, ⟨some 4, .mv (.t 7), none⟩])
        (.seq (.reg [⟨some 8, .mv (.t 4), none⟩, ⟨some 9, .idx (.c (.x (.str [65, 66, 67, 68, 69, 70, 71, 72, 73, 74, 75, 76, 77, 78, 79, 80, 81, 82, 83, 84, 85, 86, 87, 88, 89, 90, 97, 98, 99, 100, 101, 102, 103, 104, 105, 106, 107, 108, 109, 110, 111, 112, 113, 114, 115, 116, 117, 118, 119, 120, 121, 122, 48, 49, 50, 51, 52, 53, 54, 55, 56, 57, 43, 47]))) (.t 8), none⟩, ⟨some 10, .mv (.t 0), none⟩, ⟨some 11, .bin .eql (.t 9) (.t 10), none⟩])
        (.cond (.t 11)
          (.seq (.reg [⟨some 12, .mv (.t 4), none⟩, ⟨some 2, .mv (.t 12), none⟩, ⟨some 3, .mv (.c (.x (.bool true))), none⟩])
          .ret)
          .skip))))
      (.reg [⟨some 13, .bin .add (.t 5) (.c (.x (.int .i64 (1)))), none⟩, ⟨some 5, .mv (.t 13), none⟩])))))))
  (.seq (.reg [⟨some 2, .mv (.c (.x (.int .i64 (0)))), none⟩, ⟨some 3, .mv (.c (.x (.bool false))), none⟩])
  .ret)))⟩
theorem c13 : compFn Tryd.prog Tryd.f13 = some i13 := by kernel_rfl
/-- (*strings.Builder).copyCheck -/
def i14 : IFn := ⟨20, [], (.seq (.reg [⟨some 2, .mv (.t 0), none⟩, ⟨some 3, .nck (.t 2), none⟩, ⟨some 4, .fad 0 (.t 3), none⟩, ⟨some 5, .ld 1 false (.t 4), none⟩, ⟨some 6, .eq .ptr false (.t 5) (.c (.x .nilp)), none⟩])
  (.cond (.t 6)
    .dead
    (.seq (.reg [⟨some 14, .mv (.t 0), none⟩, ⟨some 15, .nck (.t 14), none⟩, ⟨some 16, .fad 0 (.t 15), none⟩, ⟨some 17, .ld 1 false (.t 16), none⟩, ⟨some 18, .mv (.t 0), none⟩, ⟨some 19, .eq .ptr true (.t 17) (.t 18), none⟩])
    (.cond (.t 19)
      .dead
      .skip))))⟩
theorem c14 : compFn Tryd.prog Tryd.f14 = some i14 := by kernel_rfl
/-- strings.trimRightByte -/
def i15 : IFn := ⟨23, [.tmp 4], (.seq (.reg [⟨some 4, .mv (.c (.x (.str []))), none⟩])
  (.seq (.block 0
    (.loop
      (.seq (.seq (.reg [⟨some 5, .mv (.t 0), none⟩, ⟨some 6, .len true (.t 5), none⟩, ⟨some 7, .bin .gtr (.t 6) (.c (.x (.int .i64 (0)))), none⟩, ⟨some 8, .mv (.t 7), none⟩, ⟨some 9, .mv (.t 0), (some (8, true))⟩, ⟨some 10, .mv (.t 0), (some (8, true))⟩, ⟨some 11, .len true (.t 10), (some (8, true))⟩, ⟨some 12, .bin .sub (.t 11) (.c (.x (.int .i64 (1)))), (some (8, true))⟩, ⟨some 13, .idx (.t 9) (.t 12), (some (8, true))⟩, ⟨some 14, .mv (.t 1), (some (8, true))⟩, ⟨some 15, .bin .eql (.t 13) (.t 14), (some (8, true))⟩, ⟨some 16, .pick (.t 8) (.t 15) (.c (.x (.bool false))), none⟩])
      (.cond (.t 16)
        .skip
        (.exit 0)))
      (.block 1
        (.reg [⟨some 17, .mv (.t 0), none⟩, ⟨some 18, .mv (.t 0), none⟩, ⟨some 19, .len true (.t 18), none⟩, ⟨some 20, .bin .sub (.t 19) (.c (.x (.int .i64 (1)))), none⟩, ⟨some 21, .slc 0 (.t 17) none (some (.t 20)) none, none⟩, ⟨some 0, .mv (.t 21), none⟩])))))
  (.seq (.reg [⟨some 22, .mv (.t 0), none⟩, ⟨some 4, .mv (.t 22), none⟩])
  .ret)))⟩
theorem c15 : compFn Tryd.prog Tryd.f15 = some i15 := by kernel_rfl
/-- strings.makeASCIISet -/
def i16 : IFn := ⟨21, [.cell 2 256 true, .tmp 3], (.seq (.reg [⟨some 2, .abx 45 (.c (.agg [.x (.bool false), .x (.bool false), .x (.bool false), .x (.bool false), .x (.bool false), .x (.bool false), .x (.bool false), .x (.bool false), .x (.bool false), .x (.bool false), .x (.bool false), .x (.bool false), .x (.bool false), .x (.bool false), .x (.bool false), .x (.bool false), .x (.bool false), .x (.bool false), .x (.bool false), .x (.bool false), .x (.bool false), .x (.bool false), .x (.bool false), .x (.bool false), .x (.bool false), .x (.bool false), .x (.bool false), .x (.bool false), .x (.bool false), .x (.bool false), .x (.bool false), .x (.bool false), .x (.bool false), .x (.bool false), .x (.bool false), .x (.bool false), .x (.bool false), .x (.bool false), .x (.bool false), .x (.bool false), .x (.bool false), .x (.bool false), .x (.bool false), .x (.bool false), .x (.bool false), .x (.bool false), .x (.bool false), .x (.bool false), .x (.bool false), .x (.bool false), .x (.bool false), .x (.bool false), .x (.bool false), .x (.bool false), .x (.bool false), .x (.bool false), .x (.bool false), .x (.bool false), .x (.bool false), .x (.bool false), .x (.bool false), .x (.bool false), .x (.bool false), .x (.bool false), .x (.bool false), .x (.bool false), .x (.bool false), .x (.bool false), .x (.bool false), .x (.bool false), .x (.bool false), .x (.bool false), .x (.bool false), .x (.bool false), .x (.bool false), .x (.bool false), .x (.bool false), .x (.bool false), .x (.bool false), .x (.bool false), .x (.bool false), .x (.bool false), .x (.bool false), .x (.bool false), .x (.bool false), .x (.bool false), .x (.bool false), .x (.bool false), .x (.bool false), .x (.bool false), .x (.bool false), .x (.bool false), .x (.bool false), .x (.bool false), .x (.bool false), .x (.bool false), .x (.bool false), .x (.bool false), .x (.bool false), .x (.bool false), .x (.bool false), .x (.bool false), .x (.bool false), .x (.bool false), .x (.bool false), .x (.bool false), .x (.bool false), .x (.bool false), .x (.bool false), .x (.bool false), .x (.bool false), .x (.bool false), .x (.bool false), .x (.bool false), .x (.bool false), .x (.bool false), .x (.bool false), .x (.bool false), .x (.bool false), .x (.bool false), .x (.bool false), .x (.bool false), .x (.bool false), .x (.bool false), .x (.bool false), .x (.bool false), .x (.bool false), .x (.bool false), .x (.bool false), .x (.bool false), .x (.bool false), .x (.bool false), .x (.bool false), .x (.bool false), .x (.bool false), .x (.bool false), .x (.bool false), .x (.bool false), .x (.bool false), .x (.bool false), .x (.bool false), .x (.bool false), .x (.bool false), .x (.bool false), .x (.bool false), .x (.bool false), .x (.bool false), .x (.bool false), .x (.bool false), .x (.bool false), .x (.bool false), .x (.bool false), .x (.bool false), .x (.bool false), .x (.bool false), .x (.bool false), .x (.bool false), .x (.bool false), .x (.bool false), .x (.bool false), .x (.bool false), .x (.bool false), .x (.bool false), .x (.bool false), .x (.bool false), .x (.bool false), .x (.bool false), .x (.bool false), .x (.bool false), .x (.bool false), .x (.bool false), .x (.bool false), .x (.bool false), .x (.bool false), .x (.bool false), .x (.bool false), .x (.bool false), .x (.bool false), .x (.bool false), .x (.bool false), .x (.bool false), .x (.bool false), .x (.bool false), .x (.bool false), .x (.bool false), .x (.bool false), .x (.bool false), .x (.bool false), .x (.bool false), .x (.bool false), .x (.bool false), .x (.bool false), .x (.bool false), .x (.bool false), .x (.bool false), .x (.bool false), .x (.bool false), .x (.bool false), .x (.bool false), .x (.bool false), .x (.bool false), .x (.bool false), .x (.bool false), .x (.bool false), .x (.bool false), .x (.bool false), .x (.bool false), .x (.bool false), .x (.bool false), .x (.bool false), .x (.bool false), .x (.bool false), .x (.bool false), .x (.bool false), .x (.bool false), .x (.bool false), .x (.bool false), .x (.bool false), .x (.bool false), .x (.bool false), .x (.bool false), .x (.bool false), .x (.bool false), .x (.bool false), .x (.bool false), .x (.bool false), .x (.bool false), .x (.bool false), .x (.bool false), .x (.bool false), .x (.bool false), .x (.bool false), .x (.bool false), .x (.bool false), .x (.bool false), .x (.bool false), .x (.bool false), .x (.bool false), .x (.bool false), .x (.bool false), .x (.bool false), .x (.bool false), .x (.bool false), .x (.bool false), .x (.bool false), .x (.bool false), .x (.bool false), .x (.bool false), .x (.bool false), .x (.bool false), .x (.bool false), .x (.bool false), .x (.bool false), .x (.bool false), .x (.bool false), .x (.bool false)])), none⟩, ⟨some 3, .mv (.c (.x (.bool false))), none⟩])
  (.seq (.seq (.reg [⟨some 4, .mv (.c (.x (.int .i64 (0)))), none⟩])
  (.block 0
    (.loop
      (.seq (.seq (.reg [⟨some 6, .mv (.t 4), none⟩, ⟨some 7, .mv (.t 0), none⟩, ⟨some 8, .len true (.t 7), none⟩, ⟨some 9, .bin .lss (.t 6) (.t 8), none⟩])
      (.cond (.t 9)
        .skip
        (.exit 0)))
      (.seq (.block 1
        (.seq (.reg [⟨some 12, .mv (.t 0), none⟩, ⟨some 13, .mv (.t 4), none⟩, ⟨some 14, .idx (.t 12) (.t 13), none⟩, ⟨some 5, .mv (.t 14), none⟩])
        (.seq (.seq (.reg [⟨some 15, .mv (.t 5), none⟩, ⟨some 16, .bin .geq (.t 15) (.c (.x (.int .u8 (128)))), none⟩])
        (.cond (.t 16)
          (.seq (.reg [⟨some 17, .ld 256 true (.t 2), none⟩, ⟨none, .sto 256 (.t 2) (.t 17), none⟩, ⟨some 3, .mv (.c (.x (.bool false))), none⟩])
          .ret)
          .skip))
        (.reg [⟨some 18, .mv (.t 5), none⟩, ⟨some 19, .iada 1 256 (.t 2) (.t 18), none⟩, ⟨none, .sto 1 (.t 19) (.c (.x (.bool true))), none⟩]))))
      (.reg [⟨some 10, .mv (.t 4), none⟩, ⟨some 11, .bin .add (.t 10) (.c (.x (.int .i64 (1)))), none⟩, ⟨some 4, .mv (.t 11), none⟩]))))))
  (.seq (.reg [⟨some 20, .ld 256 true (.t 2), none⟩, ⟨none, .sto 256 (.t 2) (.t 20), none⟩, ⟨some 3, .mv (.c (.x (.bool true))), none⟩])
  .ret)))⟩
theorem c16 : compFn Tryd.prog Tryd.f16 = some i16 := by kernel_rfl
/-- strings.trimRightASCII -/
def i17 : IFn := ⟨22, [.tmp 4], (.seq (.reg [⟨some 4, .mv (.c (.x (.str []))), none⟩])
  (.seq (.block 0
    (.loop
      (.seq (.seq (.reg [⟨some 5, .mv (.t 0), none⟩, ⟨some 6, .len true (.t 5), none⟩, ⟨some 7, .bin .gtr (.t 6) (.c (.x (.int .i64 (0)))), none⟩])
      (.cond (.t 7)
        .skip
        (.exit 0)))
      (.block 1
        (.seq (.seq (.reg [⟨some 8, .mv (.t 1), none⟩, ⟨some 9, .mv (.t 0), none⟩, ⟨some 10, .mv (.t 0), none⟩, ⟨some 11, .len true (.t 10), none⟩, ⟨some 12, .bin .sub (.t 11) (.c (.x (.int .i64 (1)))), none⟩, ⟨some 13, .idx (.t 9) (.t 12), none⟩, ⟨some 14, .call (.c (.fn 20 [])) [(.t 8), (.t 13)], none⟩, ⟨some 15, .un .not (.t 14), none⟩])
        (.cond (.t 15)
          (.exit 0)
          .skip))
        (.reg [⟨some 16, .mv (.t 0), none⟩, ⟨some 17, .mv (.t 0), none⟩, ⟨some 18, .len true (.t 17), none⟩, ⟨some 19, .bin .sub (.t 18) (.c (.x (.int .i64 (1)))), none⟩, ⟨some 20, .slc 0 (.t 16) none (some (.t 19)) none, none⟩, ⟨some 0, .mv (.t 20), none⟩]))))))
  (.seq (.reg [⟨some 21, .mv (.t 0), none⟩, ⟨some 4, .mv (.t 21), none⟩])
  .ret)))⟩
theorem c17 : compFn Tryd.prog Tryd.f17 = some i17 := by kernel_rfl
/-- strings.trimRightUnicode -/
def i18 : IFn := ⟨34, [.tmp 4], (.seq (.reg [⟨some 4, .mv (.c (.x (.str []))), none⟩])
  (.seq (.block 0
    (.loop
      (.seq (.seq (.reg [⟨some 7, .mv (.t 0), none⟩, ⟨some 8, .len true (.t 7), none⟩, ⟨some 9, .bin .gtr (.t 8) (.c (.x (.int .i64 (0)))), none⟩])
      (.cond (.t 9)
        .skip
        (.exit 0)))
      (.block 1
        (.seq (.reg [⟨some 10, .mv (.t 0), none⟩, ⟨some 11, .mv (.t 0), none⟩, ⟨some 12, .len true (.t 11), none⟩, ⟨some 13, .bin .sub (.t 12) (.c (.x (.int .i64 (1)))), none⟩, ⟨some 14, .idx (.t 10) (.t 13), none⟩, ⟨some 15, .cvi .i32 (.t 14), none⟩, ⟨some 5, .mv (.t 15), none⟩, ⟨some 6, .mv (.c (.x (.int .i64 (1)))), none⟩])
        (.seq (.seq (.reg [⟨some 16, .mv (.t 5), none⟩, ⟨some 17, .bin .geq (.t 16) (.c (.x (.int .i32 (128)))), none⟩])
        (.cond (.t 17)
          (.reg [⟨some 19, .mv (.t 0), none⟩, ⟨some 20, .call (.c (.fn 21 [])) [(.t 19)], none⟩, ⟨some 18, .mv (.t 20), none⟩, ⟨some 21, .ext (.t 18) 0, none⟩, ⟨some 22, .ext (.t 18) 1, none⟩, ⟨some 5, .mv (.t 21), none⟩, ⟨some 6, .mv (.t 22), none⟩])
          .skip))
        (.seq (.seq (.reg [⟨some 23, .mv (.t 1), none⟩, ⟨some 24, .mv (.t 5), none⟩, ⟨some 25, .call (.c (.fn 22 [])) [(.t 23), (.t 24)], none⟩, ⟨some 26, .un .not (.t 25), none⟩])
        (.cond (.t 26)
          (.exit 0)
          .skip))
        (.reg [⟨some 27, .mv (.t 0), none⟩, ⟨some 28, .mv (.t 0), none⟩, ⟨some 29, .len true (.t 28), none⟩, ⟨some 30, .mv (.t 6), none⟩, ⟨some 31, .bin .sub (.t 29) (.t 30), none⟩, ⟨some 32, .slc 0 (.t 27) none (some (.t 31)) none, none⟩, ⟨some 0, .mv (.t 32), none⟩]))))))))
  (.seq (.reg [⟨some 33, .mv (.t 0), none⟩, ⟨some 4, .mv (.t 33), none⟩])
  .ret)))⟩
theorem c18 : compFn Tryd.prog Tryd.f18 = some i18 := by kernel_rfl
/-- (*strings.asciiSet).contains -/
def i20 : IFn := ⟨10, [.tmp 4], (.seq (.reg [⟨some 4, .mv (.c (.x (.bool false))), none⟩])
  (.seq (.reg [⟨some 5, .mv (.t 0), none⟩, ⟨some 6, .mv (.t 1), none⟩, ⟨some 7, .nck (.t 5), none⟩, ⟨some 8, .iada 1 256 (.t 7) (.t 6), none⟩, ⟨some 9, .ld 1 false (.t 8), none⟩, ⟨some 4, .mv (.t 9), none⟩])
  .ret))⟩
theorem c20 : compFn Tryd.prog Tryd.f20 = some i20 := by kernel_rfl
/-- unicode/utf8.DecodeLastRuneInString -/
def i21 : IFn := ⟨51, [.tmp 2, .tmp 3], (.seq (.reg [⟨some 2, .mv (.c (.x (.int .i32 (0)))), none⟩, ⟨some 3, .mv (.c (.x (.int .i64 (0)))), none⟩])
  (.seq (.reg [⟨some 7, .mv (.t 0), none⟩, ⟨some 8, .len true (.t 7), none⟩, ⟨some 4, .mv (.t 8), none⟩])
  (.seq (.seq (.reg [⟨some 9, .mv (.t 4), none⟩, ⟨some 10, .bin .eql (.t 9) (.c (.x (.int .i64 (0)))), none⟩])
  (.cond (.t 10)
    (.seq (.reg [⟨some 2, .mv (.c (.x (.int .i32 (65533)))), none⟩, ⟨some 3, .mv (.c (.x (.int .i64 (0)))), none⟩])
    .ret)
    .skip))
  (.seq (.reg [⟨some 11, .mv (.t 4), none⟩, ⟨some 12, .bin .sub (.t 11) (.c (.x (.int .i64 (1)))), none⟩, ⟨some 5, .mv (.t 12), none⟩])
  (.seq (.reg [⟨some 13, .mv (.t 0), none⟩, ⟨some 14, .mv (.t 5), none⟩, ⟨some 15, .idx (.t 13) (.t 14), none⟩, ⟨some 16, .cvi .i32 (.t 15), none⟩, ⟨some 2, .mv (.t 16), none⟩])
  (.seq (.seq (.reg [⟨some 17, .mv (.t 2), none⟩, ⟨some 18, .bin .lss (.t 17) (.c (.x (.int .i32 (128)))), none⟩])
  (.cond (.t 18)
    (.seq (.reg [⟨some 19, .mv (.t 2), none⟩, ⟨some 2, .mv (.t 19), none⟩, ⟨some 3, .mv (.c (.x (.int .i64 (1)))), none⟩])
    .ret)
    .skip))
  (.seq (.reg [⟨some 20, .mv (.t 4), none⟩, ⟨some 21, .bin .sub (.t 20) (.c (.x (.int .i64 (4)))), none⟩, ⟨some 22, .mnx true (.t 21) (.c (.x (.int .i64 (0)))), none⟩, ⟨some 6, .mv (.t 22), none⟩])
  (.seq (.seq (.reg [⟨some 23, .mv (.t 5), none⟩, ⟨some 24, .bin .sub (.t 23) (.c (.x (.int .i64 (1)))), none⟩, ⟨some 5, .mv (.t 24), none⟩])
  (.block 0
    (.loop
      (.seq (.seq (.reg [⟨some 25, .mv (.t 5), none⟩, ⟨some 26, .mv (.t 6), none⟩, ⟨some 27, .bin .geq (.t 25) (.t 26), none⟩])
      (.cond (.t 27)
        .skip
        (.exit 0)))
      (.seq (.block 1
        (.seq (.reg [⟨some 30, .mv (.t 0), none⟩, ⟨some 31, .mv (.t 5), none⟩, ⟨some 32, .idx (.t 30) (.t 31), none⟩, ⟨some 33, .call (.c (.fn 23 [])) [(.t 32)], none⟩])
        (.cond (.t 33)
          (.exit 0)
          .skip)))
      (.reg [⟨some 28, .mv (.t 5), none⟩, ⟨some 29, .bin .sub (.t 28) (.c (.x (.int .i64 (1)))), none⟩, ⟨some 5, .mv (.t 29), none⟩]))))))
  (.seq (.seq (.reg [⟨some 34, .mv (.t 5), none⟩, ⟨some 35, .bin .lss (.t 34) (.c (.x (.int .i64 (0)))), none⟩])
  (.cond (.t 35)
    (.reg [⟨some 5, .mv (.c (.x (.int .i64 (0)))), none⟩])
    .skip))
  (.seq (.reg [⟨some 37, .mv (.t 0), none⟩, ⟨some 38, .mv (.t 5), none⟩, ⟨some 39, .mv (.t 4), none⟩, ⟨some 40, .slc 0 (.t 37) (some (.t 38)) (some (.t 39)) none, none⟩, ⟨some 41, .call (.c (.fn 24 [])) [(.t 40)], none⟩, ⟨some 36, .mv (.t 41), none⟩, ⟨some 42, .ext (.t 36) 0, none⟩, ⟨some 43, .ext (.t 36) 1, none⟩, ⟨some 2, .mv (.t 42), none⟩, ⟨some 3, .mv (.t 43), none⟩])
  (.seq (.seq (.reg [⟨some 44, .mv (.t 5), none⟩, ⟨some 45, .mv (.t 3), none⟩, ⟨some 46, .bin .add (.t 44) (.t 45), none⟩, ⟨some 47, .mv (.t 4), none⟩, ⟨some 48, .bin .neq (.t 46) (.t 47), none⟩])
  (.cond (.t 48)
    (.seq (.reg [⟨some 2, .mv (.c (.x (.int .i32 (65533)))), none⟩, ⟨some 3, .mv (.c (.x (.int .i64 (1)))), none⟩])
    .ret)
    .skip))
  (.seq (.reg [⟨some 49, .mv (.t 2), none⟩, ⟨some 50, .mv (.t 3), none⟩, ⟨some 2, .mv (.t 49), none⟩, ⟨some 3, .mv (.t 50), none⟩])
  .ret))))))))))))⟩
theorem c21 : compFn Tryd.prog Tryd.f21 = some i21 := by kernel_rfl
/-- strings.ContainsRune -/
def i22 : IFn := ⟨9, [.tmp 4], (.seq (.reg [⟨some 4, .mv (.c (.x (.bool false))), none⟩])
  (.seq (.reg [⟨some 5, .mv (.t 0), none⟩, ⟨some 6, .mv (.t 1), none⟩, ⟨some 7, .call (.c (.fn 25 [])) [(.t 5), (.t 6)], none⟩, ⟨some 8, .bin .geq (.t 7) (.c (.x (.int .i64 (0)))), none⟩, ⟨some 4, .mv (.t 8), none⟩])
  .ret))⟩
theorem c22 : compFn Tryd.prog Tryd.f22 = some i22 := by kernel_rfl
/-- unicode/utf8.RuneStart -/
def i23 : IFn := ⟨6, [.tmp 2], (.seq (.reg [⟨some 2, .mv (.c (.x (.bool false))), none⟩])
  (.seq (.reg [⟨some 3, .mv (.t 0), none⟩, ⟨some 4, .bin .and (.t 3) (.c (.x (.int .u8 (192)))), none⟩, ⟨some 5, .bin .neq (.t 4) (.c (.x (.int .u8 (128)))), none⟩, ⟨some 2, .mv (.t 5), none⟩])
  .ret))⟩
theorem c23 : compFn Tryd.prog Tryd.f23 = some i23 := by kernel_rfl
/-- unicode/utf8.DecodeRuneInString -/
def i24 : IFn := ⟨19, [.tmp 2, .tmp 3], (.seq (.reg [⟨some 2, .mv (.c (.x (.int .i32 (0)))), none⟩, ⟨some 3, .mv (.c (.x (.int .i64 (0)))), none⟩])
  (.seq (.seq (.reg [⟨some 4, .mv (.t 0), none⟩, ⟨some 5, .bin .neq (.t 4) (.c (.x (.str []))), none⟩, ⟨some 6, .mv (.t 5), none⟩, ⟨some 7, .mv (.t 0), (some (6, true))⟩, ⟨some 8, .idx (.t 7) (.c (.x (.int .i64 (0)))), (some (6, true))⟩, ⟨some 9, .bin .lss (.t 8) (.c (.x (.int .u8 (128)))), (some (6, true))⟩, ⟨some 10, .pick (.t 6) (.t 9) (.c (.x (.bool false))), none⟩])
  (.cond (.t 10)
    (.seq (.reg [⟨some 11, .mv (.t 0), none⟩, ⟨some 12, .idx (.t 11) (.c (.x (.int .i64 (0)))), none⟩, ⟨some 13, .cvi .i32 (.t 12), none⟩, ⟨some 2, .mv (.t 13), none⟩, ⟨some 3, .mv (.c (.x (.int .i64 (1)))), none⟩])
    .ret)
    (.reg [⟨some 15, .mv (.t 0), none⟩, ⟨some 16, .call (.c (.fn 26 [])) [(.t 15)], none⟩, ⟨some 14, .mv (.t 16), none⟩, ⟨some 17, .ext (.t 14) 0, none⟩, ⟨some 18, .ext (.t 14) 1, none⟩, ⟨some 2, .mv (.t 17), none⟩, ⟨some 3, .mv (.t 18), none⟩])))
  .ret))⟩
theorem c24 : compFn Tryd.prog Tryd.f24 = some i24 := by kernel_rfl
/-- strings.IndexRune -/
def i25 : IFn := ⟨187, [.tmp 4], (.seq (.reg [⟨some 4, .mv (.c (.x (.int .i64 (0)))), none⟩])
  (.block 0
    (.seq (.reg [⟨some 161, .mv (.t 1), none⟩, ⟨some 162, .bin .leq (.c (.x (.int .i32 (0)))) (.t 161), none⟩, ⟨some 163, .mv (.t 162), none⟩, ⟨some 164, .mv (.t 1), (some (163, true))⟩, ⟨some 165, .bin .lss (.t 164) (.c (.x (.int .i32 (128)))), (some (163, true))⟩, ⟨some 166, .pick (.t 163) (.t 165) (.c (.x (.bool false))), none⟩, ⟨some 160, .mv (.t 166), none⟩])
    (.cond (.t 160)
      (.seq (.reg [⟨some 167, .mv (.t 0), none⟩, ⟨some 168, .mv (.t 1), none⟩, ⟨some 169, .cvi .u8 (.t 168), none⟩, ⟨some 170, .call (.c (.fn 27 [])) [(.t 167), (.t 169)], none⟩, ⟨some 4, .mv (.t 170), none⟩])
      .ret)
      (.seq (.reg [⟨some 172, .mv (.t 1), none⟩, ⟨some 173, .bin .eql (.t 172) (.c (.x (.int .i32 (65533)))), none⟩, ⟨some 171, .mv (.t 173), none⟩])
      (.cond (.t 171)
        (.seq (.seq (.reg [⟨some 174, .mv (.t 0), none⟩, ⟨some 175, .rgs (.t 174), none⟩])
        (.block 9
          (.loop
            (.seq (.reg [⟨some 176, .nxt true (.t 175), none⟩, ⟨some 177, .ext (.t 176) 0, none⟩])
            (.seq (.cond (.t 177)
              .skip
              (.exit 9))
            (.block 10
              (.seq (.reg [⟨some 178, .ext (.t 176) 1, none⟩, ⟨some 179, .ext (.t 176) 2, none⟩, ⟨some 5, .mv (.t 178), none⟩, ⟨some 6, .mv (.t 179), none⟩])
              (.seq (.reg [⟨some 180, .mv (.t 6), none⟩, ⟨some 181, .bin .eql (.t 180) (.c (.x (.int .i32 (65533)))), none⟩])
              (.cond (.t 181)
                (.seq (.reg [⟨some 182, .mv (.t 5), none⟩, ⟨some 4, .mv (.t 182), none⟩])
                .ret)
                .skip)))))))))
        (.seq (.reg [⟨some 4, .mv (.c (.x (.int .i64 (-1)))), none⟩])
        .ret))
        (.seq (.reg [⟨some 184, .mv (.t 1), none⟩, ⟨some 185, .call (.c (.fn 28 [])) [(.t 184)], none⟩, ⟨some 186, .un .not (.t 185), none⟩, ⟨some 183, .mv (.t 186), none⟩])
        (.cond (.t 183)
          (.seq (.reg [⟨some 4, .mv (.c (.x (.int .i64 (-1)))), none⟩])
          .ret)
          (.scope (.seq .dead
            (.seq (.reg [⟨some 19, .mv (.t 7), none⟩, ⟨some 20, .len true (.t 19), none⟩, ⟨some 21, .bin .sub (.t 20) (.c (.x (.int .i64 (1)))), none⟩, ⟨some 8, .mv (.t 21), none⟩])
            (.seq (.reg [⟨some 22, .mv (.t 8), none⟩, ⟨some 9, .mv (.t 22), none⟩])
            (.seq (.reg [⟨some 10, .mv (.c (.x (.int .i64 (0)))), none⟩])
            (.seq (.block 1
              (.loop
                (.seq (.seq (.reg [⟨some 23, .mv (.t 9), none⟩, ⟨some 24, .mv (.t 0), none⟩, ⟨some 25, .len true (.t 24), none⟩, ⟨some 26, .bin .lss (.t 23) (.t 25), none⟩])
                (.cond (.t 26)
                  .skip
                  (.exit 1)))
                (.block 2
                  (.scope (.seq (.seq (.dreg 0 [] [⟨some 27, .mv (.t 0), none⟩, ⟨some 28, .mv (.t 9), none⟩, ⟨some 29, .idx (.t 27) (.t 28), none⟩, ⟨some 30, .mv (.t 7), none⟩, ⟨some 31, .mv (.t 8), none⟩, ⟨some 32, .idx (.t 30) (.t 31), none⟩, ⟨some 33, .bin .neq (.t 29) (.t 32), none⟩])
                    (.cond (.t 33)
                      (.seq (.dreg 0 [] [⟨some 34, .mv (.t 0), none⟩, ⟨some 35, .mv (.t 9), none⟩, ⟨some 36, .bin .add (.t 35) (.c (.x (.int .i64 (1)))), none⟩, ⟨some 37, .slc 0 (.t 34) (some (.t 36)) none none, none⟩, ⟨some 38, .mv (.t 7), none⟩, ⟨some 39, .mv (.t 8), none⟩, ⟨some 40, .idx (.t 38) (.t 39), none⟩, ⟨some 41, .call (.c (.fn 27 [])) [(.t 37), (.t 40)], none⟩, ⟨some 11, .mv (.t 41), none⟩])
                      (.seq (.seq (.reg [⟨some 42, .mv (.t 11), none⟩, ⟨some 43, .bin .lss (.t 42) (.c (.x (.int .i64 (0)))), none⟩])
                      (.cond (.t 43)
                        (.seq (.reg [⟨some 4, .mv (.c (.x (.int .i64 (-1)))), none⟩])
                        .ret)
                        .skip))
                      (.reg [⟨some 44, .mv (.t 9), none⟩, ⟨some 45, .mv (.t 11), none⟩, ⟨some 46, .bin .add (.t 45) (.c (.x (.int .i64 (1)))), none⟩, ⟨some 47, .bin .add (.t 44) (.t 46), none⟩, ⟨some 9, .mv (.t 47), none⟩])))
                      .skip))
                    (.seq (.seq (.reg [⟨some 12, .mv (.c (.x (.int .i64 (1)))), none⟩])
                    (.block 3
                      (.loop
                        (.seq (.seq (.reg [⟨some 48, .mv (.t 12), none⟩, ⟨some 49, .mv (.t 7), none⟩, ⟨some 50, .len true (.t 49), none⟩, ⟨some 51, .bin .lss (.t 48) (.t 50), none⟩])
                        (.cond (.t 51)
                          .skip
                          (.exit 3)))
                        (.seq (.block 4
                          (.seq (.dreg 0 [] [⟨some 54, .mv (.t 0), none⟩, ⟨some 55, .mv (.t 9), none⟩, ⟨some 56, .mv (.t 12), none⟩, ⟨some 57, .bin .sub (.t 55) (.t 56), none⟩, ⟨some 58, .idx (.t 54) (.t 57), none⟩, ⟨some 59, .mv (.t 7), none⟩, ⟨some 60, .mv (.t 8), none⟩, ⟨some 61, .mv (.t 12), none⟩, ⟨some 62, .bin .sub (.t 60) (.t 61), none⟩, ⟨some 63, .idx (.t 59) (.t 62), none⟩, ⟨some 64, .bin .neq (.t 58) (.t 63), none⟩])
                          (.cond (.t 64)
                            (.goto 0)
                            .skip)))
                        (.reg [⟨some 52, .mv (.t 12), none⟩, ⟨some 53, .bin .add (.t 52) (.c (.x (.int .i64 (1)))), none⟩, ⟨some 12, .mv (.t 53), none⟩]))))))
                    (.seq (.seq (.reg [⟨some 65, .mv (.t 9), none⟩, ⟨some 66, .mv (.t 8), none⟩, ⟨some 67, .bin .sub (.t 65) (.t 66), none⟩, ⟨some 4, .mv (.t 67), none⟩])
                    .ret)
                    (.seq (.label 0)
                    (.seq (.reg [⟨some 68, .mv (.t 10), none⟩, ⟨some 69, .bin .add (.t 68) (.c (.x (.int .i64 (1)))), none⟩, ⟨some 10, .mv (.t 69), none⟩])
                    (.seq (.reg [⟨some 70, .mv (.t 9), none⟩, ⟨some 71, .bin .add (.t 70) (.c (.x (.int .i64 (1)))), none⟩, ⟨some 9, .mv (.t 71), none⟩])
                    (.seq (.reg [⟨some 72, .mv (.c (.x (.bool true))), none⟩, ⟨some 73, .mv (.t 10), (some (72, true))⟩, ⟨some 74, .mv (.t 9), (some (72, true))⟩, ⟨some 75, .call (.c (.fn 29 [])) [(.t 74)], (some (72, true))⟩, ⟨some 76, .bin .gtr (.t 73) (.t 75), (some (72, true))⟩, ⟨some 77, .pick (.t 72) (.t 76) (.c (.x (.bool false))), none⟩, ⟨some 78, .mv (.t 77), none⟩, ⟨some 79, .mv (.t 9), (some (78, true))⟩, ⟨some 80, .mv (.t 0), (some (78, true))⟩, ⟨some 81, .len true (.t 80), (some (78, true))⟩, ⟨some 82, .bin .lss (.t 79) (.t 81), (some (78, true))⟩, ⟨some 83, .pick (.t 78) (.t 82) (.c (.x (.bool false))), none⟩, ⟨some 84, .mv (.t 83), none⟩, ⟨some 85, .mv (.c (.x (.bool false))), (some (84, false))⟩, ⟨some 86, .mv (.t 10), (some (85, true))⟩, ⟨some 87, .mv (.t 9), (some (85, true))⟩, ⟨some 88, .bin .shr (.t 87) (.c (.x (.int .u64 (4)))), (some (85, true))⟩, ⟨some 89, .bin .add (.c (.x (.int .i64 (4)))) (.t 88), (some (85, true))⟩, ⟨some 90, .bin .geq (.t 86) (.t 89), (some (85, true))⟩, ⟨some 91, .pick (.t 85) (.t 90) (.c (.x (.bool false))), (some (84, false))⟩, ⟨some 92, .mv (.t 91), (some (84, false))⟩, ⟨some 93, .mv (.t 9), (some (92, true))⟩, ⟨some 94, .mv (.t 0), (some (92, true))⟩, ⟨some 95, .len true (.t 94), (some (92, true))⟩, ⟨some 96, .bin .lss (.t 93) (.t 95), (some (92, true))⟩, ⟨some 97, .pick (.t 92) (.t 96) (.c (.x (.bool false))), (some (84, false))⟩, ⟨some 98, .pick (.t 84) (.c (.x (.bool true))) (.t 97), none⟩])
                    (.cond (.t 98)
                      (.goto 1)
                      .skip))))))))
                    (.seq (.seq (.dreg 0 [] [⟨some 27, .mv (.t 0), none⟩, ⟨some 28, .mv (.t 9), none⟩, ⟨some 29, .idx (.t 27) (.t 28), none⟩, ⟨some 30, .mv (.t 7), none⟩, ⟨some 31, .mv (.t 8), none⟩, ⟨some 32, .idx (.t 30) (.t 31), none⟩, ⟨some 33, .bin .neq (.t 29) (.t 32), none⟩])
                    (.cond (.t 33)
                      (.seq (.dreg 0 [] [⟨some 34, .mv (.t 0), none⟩, ⟨some 35, .mv (.t 9), none⟩, ⟨some 36, .bin .add (.t 35) (.c (.x (.int .i64 (1)))), none⟩, ⟨some 37, .slc 0 (.t 34) (some (.t 36)) none none, none⟩, ⟨some 38, .mv (.t 7), none⟩, ⟨some 39, .mv (.t 8), none⟩, ⟨some 40, .idx (.t 38) (.t 39), none⟩, ⟨some 41, .call (.c (.fn 27 [])) [(.t 37), (.t 40)], none⟩, ⟨some 11, .mv (.t 41), none⟩])
                      (.seq (.seq (.reg [⟨some 42, .mv (.t 11), none⟩, ⟨some 43, .bin .lss (.t 42) (.c (.x (.int .i64 (0)))), none⟩])
                      (.cond (.t 43)
                        (.seq (.reg [⟨some 4, .mv (.c (.x (.int .i64 (-1)))), none⟩])
                        .ret)
                        .skip))
                      (.reg [⟨some 44, .mv (.t 9), none⟩, ⟨some 45, .mv (.t 11), none⟩, ⟨some 46, .bin .add (.t 45) (.c (.x (.int .i64 (1)))), none⟩, ⟨some 47, .bin .add (.t 44) (.t 46), none⟩, ⟨some 9, .mv (.t 47), none⟩])))
                      .skip))
                    (.seq (.seq (.reg [⟨some 12, .mv (.c (.x (.int .i64 (1)))), none⟩])
                    (.block 3
                      (.loop
                        (.seq (.seq (.reg [⟨some 48, .mv (.t 12), none⟩, ⟨some 49, .mv (.t 7), none⟩, ⟨some 50, .len true (.t 49), none⟩, ⟨some 51, .bin .lss (.t 48) (.t 50), none⟩])
                        (.cond (.t 51)
                          .skip
                          (.exit 3)))
                        (.seq (.block 4
                          (.seq (.dreg 0 [] [⟨some 54, .mv (.t 0), none⟩, ⟨some 55, .mv (.t 9), none⟩, ⟨some 56, .mv (.t 12), none⟩, ⟨some 57, .bin .sub (.t 55) (.t 56), none⟩, ⟨some 58, .idx (.t 54) (.t 57), none⟩, ⟨some 59, .mv (.t 7), none⟩, ⟨some 60, .mv (.t 8), none⟩, ⟨some 61, .mv (.t 12), none⟩, ⟨some 62, .bin .sub (.t 60) (.t 61), none⟩, ⟨some 63, .idx (.t 59) (.t 62), none⟩, ⟨some 64, .bin .neq (.t 58) (.t 63), none⟩])
                          (.cond (.t 64)
                            (.goto 0)
                            .skip)))
                        (.reg [⟨some 52, .mv (.t 12), none⟩, ⟨some 53, .bin .add (.t 52) (.c (.x (.int .i64 (1)))), none⟩, ⟨some 12, .mv (.t 53), none⟩]))))))
                    (.seq (.seq (.reg [⟨some 65, .mv (.t 9), none⟩, ⟨some 66, .mv (.t 8), none⟩, ⟨some 67, .bin .sub (.t 65) (.t 66), none⟩, ⟨some 4, .mv (.t 67), none⟩])
                    .ret)
                    (.seq (.label 0)
                    (.seq (.reg [⟨some 68, .mv (.t 10), none⟩, ⟨some 69, .bin .add (.t 68) (.c (.x (.int .i64 (1)))), none⟩, ⟨some 10, .mv (.t 69), none⟩])
                    (.seq (.reg [⟨some 70, .mv (.t 9), none⟩, ⟨some 71, .bin .add (.t 70) (.c (.x (.int .i64 (1)))), none⟩, ⟨some 9, .mv (.t 71), none⟩])
                    (.seq (.reg [⟨some 72, .mv (.c (.x (.bool true))), none⟩, ⟨some 73, .mv (.t 10), (some (72, true))⟩, ⟨some 74, .mv (.t 9), (some (72, true))⟩, ⟨some 75, .call (.c (.fn 29 [])) [(.t 74)], (some (72, true))⟩, ⟨some 76, .bin .gtr (.t 73) (.t 75), (some (72, true))⟩, ⟨some 77, .pick (.t 72) (.t 76) (.c (.x (.bool false))), none⟩, ⟨some 78, .mv (.t 77), none⟩, ⟨some 79, .mv (.t 9), (some (78, true))⟩, ⟨some 80, .mv (.t 0), (some (78, true))⟩, ⟨some 81, .len true (.t 80), (some (78, true))⟩, ⟨some 82, .bin .lss (.t 79) (.t 81), (some (78, true))⟩, ⟨some 83, .pick (.t 78) (.t 82) (.c (.x (.bool false))), none⟩, ⟨some 84, .mv (.t 83), none⟩, ⟨some 85, .mv (.c (.x (.bool false))), (some (84, false))⟩, ⟨some 86, .mv (.t 10), (some (85, true))⟩, ⟨some 87, .mv (.t 9), (some (85, true))⟩, ⟨some 88, .bin .shr (.t 87) (.c (.x (.int .u64 (4)))), (some (85, true))⟩, ⟨some 89, .bin .add (.c (.x (.int .i64 (4)))) (.t 88), (some (85, true))⟩, ⟨some 90, .bin .geq (.t 86) (.t 89), (some (85, true))⟩, ⟨some 91, .pick (.t 85) (.t 90) (.c (.x (.bool false))), (some (84, false))⟩, ⟨some 92, .mv (.t 91), (some (84, false))⟩, ⟨some 93, .mv (.t 9), (some (92, true))⟩, ⟨some 94, .mv (.t 0), (some (92, true))⟩, ⟨some 95, .len true (.t 94), (some (92, true))⟩, ⟨some 96, .bin .lss (.t 93) (.t 95), (some (92, true))⟩, ⟨some 97, .pick (.t 92) (.t 96) (.c (.x (.bool false))), (some (84, false))⟩, ⟨some 98, .pick (.t 84) (.c (.x (.bool true))) (.t 97), none⟩])
                    (.cond (.t 98)
                      (.goto 1)
                      .skip)))))))))))))
            (.seq (.seq (.reg [⟨some 4, .mv (.c (.x (.int .i64 (-1)))), none⟩])
            .ret)
            (.seq (.label 1)
            (.seq (.cond (.c (.x (.bool true)))
              (.seq .dead
              (.seq (.reg [⟨some 107, .mv (.t 13), none⟩, ⟨some 108, .bin .geq (.t 107) (.c (.x (.int .i64 (0)))), none⟩])
              (.cond (.t 108)
                (.seq (.reg [⟨some 109, .mv (.t 9), none⟩, ⟨some 110, .mv (.t 13), none⟩, ⟨some 111, .bin .add (.t 109) (.t 110), none⟩, ⟨some 112, .mv (.t 8), none⟩, ⟨some 113, .bin .sub (.t 111) (.t 112), none⟩, ⟨some 4, .mv (.t 113), none⟩])
                .ret)
                .skip)))
              (.scope (.seq (.reg [⟨some 114, .mv (.t 7), none⟩, ⟨some 115, .mv (.t 8), none⟩, ⟨some 116, .idx (.t 114) (.t 115), none⟩, ⟨some 14, .mv (.t 116), none⟩])
                (.seq (.reg [⟨some 117, .mv (.t 7), none⟩, ⟨some 118, .mv (.t 8), none⟩, ⟨some 119, .bin .sub (.t 118) (.c (.x (.int .i64 (1)))), none⟩, ⟨some 120, .idx (.t 117) (.t 119), none⟩, ⟨some 15, .mv (.t 120), none⟩])
                (.seq (.label 2)
                (.block 5
                  (.loop
                    (.seq (.seq (.reg [⟨some 121, .mv (.t 9), none⟩, ⟨some 122, .mv (.t 0), none⟩, ⟨some 123, .len true (.t 122), none⟩, ⟨some 124, .bin .lss (.t 121) (.t 123), none⟩])
                    (.cond (.t 124)
                      .skip
                      (.exit 5)))
                    (.seq (.block 6
                      (.seq (.reg [⟨some 127, .mv (.t 0), none⟩, ⟨some 128, .mv (.t 9), none⟩, ⟨some 129, .idx (.t 127) (.t 128), none⟩, ⟨some 130, .mv (.t 14), none⟩, ⟨some 131, .bin .eql (.t 129) (.t 130), none⟩, ⟨some 132, .mv (.t 131), none⟩, ⟨some 133, .mv (.t 0), (some (132, true))⟩, ⟨some 134, .mv (.t 9), (some (132, true))⟩, ⟨some 135, .bin .sub (.t 134) (.c (.x (.int .i64 (1)))), (some (132, true))⟩, ⟨some 136, .idx (.t 133) (.t 135), (some (132, true))⟩, ⟨some 137, .mv (.t 15), (some (132, true))⟩, ⟨some 138, .bin .eql (.t 136) (.t 137), (some (132, true))⟩, ⟨some 139, .pick (.t 132) (.t 138) (.c (.x (.bool false))), none⟩])
                      (.cond (.t 139)
                        (.seq (.seq (.reg [⟨some 16, .mv (.c (.x (.int .i64 (2)))), none⟩])
                        (.block 7
                          (.loop
                            (.seq (.seq (.reg [⟨some 140, .mv (.t 16), none⟩, ⟨some 141, .mv (.t 7), none⟩, ⟨some 142, .len true (.t 141), none⟩, ⟨some 143, .bin .lss (.t 140) (.t 142), none⟩])
                            (.cond (.t 143)
                              .skip
                              (.exit 7)))
                            (.seq (.block 8
                              (.seq (.dreg 0 [] [⟨some 146, .mv (.t 0), none⟩, ⟨some 147, .mv (.t 9), none⟩, ⟨some 148, .mv (.t 16), none⟩, ⟨some 149, .bin .sub (.t 147) (.t 148), none⟩, ⟨some 150, .idx (.t 146) (.t 149), none⟩, ⟨some 151, .mv (.t 7), none⟩, ⟨some 152, .mv (.t 8), none⟩, ⟨some 153, .mv (.t 16), none⟩, ⟨some 154, .bin .sub (.t 152) (.t 153), none⟩, ⟨some 155, .idx (.t 151) (.t 154), none⟩, ⟨some 156, .bin .neq (.t 150) (.t 155), none⟩])
                              (.cond (.t 156)
                                (.exit 6)
                                .skip)))
                            (.reg [⟨some 144, .mv (.t 16), none⟩, ⟨some 145, .bin .add (.t 144) (.c (.x (.int .i64 (1)))), none⟩, ⟨some 16, .mv (.t 145), none⟩]))))))
                        (.seq (.reg [⟨some 157, .mv (.t 9), none⟩, ⟨some 158, .mv (.t 8), none⟩, ⟨some 159, .bin .sub (.t 157) (.t 158), none⟩, ⟨some 4, .mv (.t 159), none⟩])
                        .ret))
                        .skip)))
                    (.reg [⟨some 125, .mv (.t 9), none⟩, ⟨some 126, .bin .add (.t 125) (.c (.x (.int .i64 (1)))), none⟩, ⟨some 9, .mv (.t 126), none⟩]))))))))
                (.seq (.reg [⟨some 114, .mv (.t 7), none⟩, ⟨some 115, .mv (.t 8), none⟩, ⟨some 116, .idx (.t 114) (.t 115), none⟩, ⟨some 14, .mv (.t 116), none⟩])
                (.seq (.reg [⟨some 117, .mv (.t 7), none⟩, ⟨some 118, .mv (.t 8), none⟩, ⟨some 119, .bin .sub (.t 118) (.c (.x (.int .i64 (1)))), none⟩, ⟨some 120, .idx (.t 117) (.t 119), none⟩, ⟨some 15, .mv (.t 120), none⟩])
                (.seq (.label 2)
                (.block 5
                  (.loop
                    (.seq (.seq (.reg [⟨some 121, .mv (.t 9), none⟩, ⟨some 122, .mv (.t 0), none⟩, ⟨some 123, .len true (.t 122), none⟩, ⟨some 124, .bin .lss (.t 121) (.t 123), none⟩])
                    (.cond (.t 124)
                      .skip
                      (.exit 5)))
                    (.seq (.block 6
                      (.seq (.reg [⟨some 127, .mv (.t 0), none⟩, ⟨some 128, .mv (.t 9), none⟩, ⟨some 129, .idx (.t 127) (.t 128), none⟩, ⟨some 130, .mv (.t 14), none⟩, ⟨some 131, .bin .eql (.t 129) (.t 130), none⟩, ⟨some 132, .mv (.t 131), none⟩, ⟨some 133, .mv (.t 0), (some (132, true))⟩, ⟨some 134, .mv (.t 9), (some (132, true))⟩, ⟨some 135, .bin .sub (.t 134) (.c (.x (.int .i64 (1)))), (some (132, true))⟩, ⟨some 136, .idx (.t 133) (.t 135), (some (132, true))⟩, ⟨some 137, .mv (.t 15), (some (132, true))⟩, ⟨some 138, .bin .eql (.t 136) (.t 137), (some (132, true))⟩, ⟨some 139, .pick (.t 132) (.t 138) (.c (.x (.bool false))), none⟩])
                      (.cond (.t 139)
                        (.seq (.seq (.reg [⟨some 16, .mv (.c (.x (.int .i64 (2)))), none⟩])
                        (.block 7
                          (.loop
                            (.seq (.seq (.reg [⟨some 140, .mv (.t 16), none⟩, ⟨some 141, .mv (.t 7), none⟩, ⟨some 142, .len true (.t 141), none⟩, ⟨some 143, .bin .lss (.t 140) (.t 142), none⟩])
                            (.cond (.t 143)
                              .skip
                              (.exit 7)))
                            (.seq (.block 8
                              (.seq (.dreg 0 [] [⟨some 146, .mv (.t 0), none⟩, ⟨some 147, .mv (.t 9), none⟩, ⟨some 148, .mv (.t 16), none⟩, ⟨some 149, .bin .sub (.t 147) (.t 148), none⟩, ⟨some 150, .idx (.t 146) (.t 149), none⟩, ⟨some 151, .mv (.t 7), none⟩, ⟨some 152, .mv (.t 8), none⟩, ⟨some 153, .mv (.t 16), none⟩, ⟨some 154, .bin .sub (.t 152) (.t 153), none⟩, ⟨some 155, .idx (.t 151) (.t 154), none⟩, ⟨some 156, .bin .neq (.t 150) (.t 155), none⟩])
                              (.cond (.t 156)
                                (.exit 6)
                                .skip)))
                            (.reg [⟨some 144, .mv (.t 16), none⟩, ⟨some 145, .bin .add (.t 144) (.c (.x (.int .i64 (1)))), none⟩, ⟨some 16, .mv (.t 145), none⟩]))))))
                        (.seq (.reg [⟨some 157, .mv (.t 9), none⟩, ⟨some 158, .mv (.t 8), none⟩, ⟨some 159, .bin .sub (.t 157) (.t 158), none⟩, ⟨some 4, .mv (.t 159), none⟩])
                        .ret))
                        .skip)))
                    (.reg [⟨some 125, .mv (.t 9), none⟩, ⟨some 126, .bin .add (.t 125) (.c (.x (.int .i64 (1)))), none⟩, ⟨some 9, .mv (.t 126), none⟩]))))))))))
            (.seq (.reg [⟨some 4, .mv (.c (.x (.int .i64 (-1)))), none⟩])
            .ret)))))))))
            (.seq .dead
            (.seq (.reg [⟨some 19, .mv (.t 7), none⟩, ⟨some 20, .len true (.t 19), none⟩, ⟨some 21, .bin .sub (.t 20) (.c (.x (.int .i64 (1)))), none⟩, ⟨some 8, .mv (.t 21), none⟩])
            (.seq (.reg [⟨some 22, .mv (.t 8), none⟩, ⟨some 9, .mv (.t 22), none⟩])
            (.seq (.reg [⟨some 10, .mv (.c (.x (.int .i64 (0)))), none⟩])
            (.seq (.block 1
              (.loop
                (.seq (.seq (.reg [⟨some 23, .mv (.t 9), none⟩, ⟨some 24, .mv (.t 0), none⟩, ⟨some 25, .len true (.t 24), none⟩, ⟨some 26, .bin .lss (.t 23) (.t 25), none⟩])
                (.cond (.t 26)
                  .skip
                  (.exit 1)))
                (.block 2
                  (.scope (.seq (.seq (.dreg 0 [] [⟨some 27, .mv (.t 0), none⟩, ⟨some 28, .mv (.t 9), none⟩, ⟨some 29, .idx (.t 27) (.t 28), none⟩, ⟨some 30, .mv (.t 7), none⟩, ⟨some 31, .mv (.t 8), none⟩, ⟨some 32, .idx (.t 30) (.t 31), none⟩, ⟨some 33, .bin .neq (.t 29) (.t 32), none⟩])
                    (.cond (.t 33)
                      (.seq (.dreg 0 [] [⟨some 34, .mv (.t 0), none⟩, ⟨some 35, .mv (.t 9), none⟩, ⟨some 36, .bin .add (.t 35) (.c (.x (.int .i64 (1)))), none⟩, ⟨some 37, .slc 0 (.t 34) (some (.t 36)) none none, none⟩, ⟨some 38, .mv (.t 7), none⟩, ⟨some 39, .mv (.t 8), none⟩, ⟨some 40, .idx (.t 38) (.t 39), none⟩, ⟨some 41, .call (.c (.fn 27 [])) [(.t 37), (.t 40)], none⟩, ⟨some 11, .mv (.t 41), none⟩])
                      (.seq (.seq (.reg [⟨some 42, .mv (.t 11), none⟩, ⟨some 43, .bin .lss (.t 42) (.c (.x (.int .i64 (0)))), none⟩])
                      (.cond (.t 43)
                        (.seq (.reg [⟨some 4, .mv (.c (.x (.int .i64 (-1)))), none⟩])
                        .ret)
                        .skip))
                      (.reg [⟨some 44, .mv (.t 9), none⟩, ⟨some 45, .mv (.t 11), none⟩, ⟨some 46, .bin .add (.t 45) (.c (.x (.int .i64 (1)))), none⟩, ⟨some 47, .bin .add (.t 44) (.t 46), none⟩, ⟨some 9, .mv (.t 47), none⟩])))
                      .skip))
                    (.seq (.seq (.reg [⟨some 12, .mv (.c (.x (.int .i64 (1)))), none⟩])
                    (.block 3
                      (.loop
                        (.seq (.seq (.reg [⟨some 48, .mv (.t 12), none⟩, ⟨some 49, .mv (.t 7), none⟩, ⟨some 50, .len true (.t 49), none⟩, ⟨some 51, .bin .lss (.t 48) (.t 50), none⟩])
                        (.cond (.t 51)
                          .skip
                          (.exit 3)))
                        (.seq (.block 4
                          (.seq (.dreg 0 [] [⟨some 54, .mv (.t 0), none⟩, ⟨some 55, .mv (.t 9), none⟩, ⟨some 56, .mv (.t 12), none⟩, ⟨some 57, .bin .sub (.t 55) (.t 56), none⟩, ⟨some 58, .idx (.t 54) (.t 57), none⟩, ⟨some 59, .mv (.t 7), none⟩, ⟨some 60, .mv (.t 8), none⟩, ⟨some 61, .mv (.t 12), none⟩, ⟨some 62, .bin .sub (.t 60) (.t 61), none⟩, ⟨some 63, .idx (.t 59) (.t 62), none⟩, ⟨some 64, .bin .neq (.t 58) (.t 63), none⟩])
                          (.cond (.t 64)
                            (.goto 0)
                            .skip)))
                        (.reg [⟨some 52, .mv (.t 12), none⟩, ⟨some 53, .bin .add (.t 52) (.c (.x (.int .i64 (1)))), none⟩, ⟨some 12, .mv (.t 53), none⟩]))))))
                    (.seq (.seq (.reg [⟨some 65, .mv (.t 9), none⟩, ⟨some 66, .mv (.t 8), none⟩, ⟨some 67, .bin .sub (.t 65) (.t 66), none⟩, ⟨some 4, .mv (.t 67), none⟩])
                    .ret)
                    (.seq (.label 0)
                    (.seq (.reg [⟨some 68, .mv (.t 10), none⟩, ⟨some 69, .bin .add (.t 68) (.c (.x (.int .i64 (1)))), none⟩, ⟨some 10, .mv (.t 69), none⟩])
                    (.seq (.reg [⟨some 70, .mv (.t 9), none⟩, ⟨some 71, .bin .add (.t 70) (.c (.x (.int .i64 (1)))), none⟩, ⟨some 9, .mv (.t 71), none⟩])
                    (.seq (.reg [⟨some 72, .mv (.c (.x (.bool true))), none⟩, ⟨some 73, .mv (.t 10), (some (72, true))⟩, ⟨some 74, .mv (.t 9), (some (72, true))⟩, ⟨some 75, .call (.c (.fn 29 [])) [(.t 74)], (some (72, true))⟩, ⟨some 76, .bin .gtr (.t 73) (.t 75), (some (72, true))⟩, ⟨some 77, .pick (.t 72) (.t 76) (.c (.x (.bool false))), none⟩, ⟨some 78, .mv (.t 77), none⟩, ⟨some 79, .mv (.t 9), (some (78, true))⟩, ⟨some 80, .mv (.t 0), (some (78, true))⟩, ⟨some 81, .len true (.t 80), (some (78, true))⟩, ⟨some 82, .bin .lss (.t 79) (.t 81), (some (78, true))⟩, ⟨some 83, .pick (.t 78) (.t 82) (.c (.x (.bool false))), none⟩, ⟨some 84, .mv (.t 83), none⟩, ⟨some 85, .mv (.c (.x (.bool false))), (some (84, false))⟩, ⟨some 86, .mv (.t 10), (some (85, true))⟩, ⟨some 87, .mv (.t 9), (some (85, true))⟩, ⟨some 88, .bin .shr (.t 87) (.c (.x (.int .u64 (4)))), (some (85, true))⟩, ⟨some 89, .bin .add (.c (.x (.int .i64 (4)))) (.t 88), (some (85, true))⟩, ⟨some 90, .bin .geq (.t 86) (.t 89), (some (85, true))⟩, ⟨some 91, .pick (.t 85) (.t 90) (.c (.x (.bool false))), (some (84, false))⟩, ⟨some 92, .mv (.t 91), (some (84, false))⟩, ⟨some 93, .mv (.t 9), (some (92, true))⟩, ⟨some 94, .mv (.t 0), (some (92, true))⟩, ⟨some 95, .len true (.t 94), (some (92, true))⟩, ⟨some 96, .bin .lss (.t 93) (.t 95), (some (92, true))⟩, ⟨some 97, .pick (.t 92) (.t 96) (.c (.x (.bool false))), (some (84, false))⟩, ⟨some 98, .pick (.t 84) (.c (.x (.bool true))) (.t 97), none⟩])
                    (.cond (.t 98)
                      (.goto 1)
                      .skip))))))))
                    (.seq (.seq (.dreg 0 [] [⟨some 27, .mv (.t 0), none⟩, ⟨some 28, .mv (.t 9), none⟩, ⟨some 29, .idx (.t 27) (.t 28), none⟩, ⟨some 30, .mv (.t 7), none⟩, ⟨some 31, .mv (.t 8), none⟩, ⟨some 32, .idx (.t 30) (.t 31), none⟩, ⟨some 33, .bin .neq (.t 29) (.t 32), none⟩])
                    (.cond (.t 33)
                      (.seq (.dreg 0 [] [⟨some 34, .mv (.t 0), none⟩, ⟨some 35, .mv (.t 9), none⟩, ⟨some 36, .bin .add (.t 35) (.c (.x (.int .i64 (1)))), none⟩, ⟨some 37, .slc 0 (.t 34) (some (.t 36)) none none, none⟩, ⟨some 38, .mv (.t 7), none⟩, ⟨some 39, .mv (.t 8), none⟩, ⟨some 40, .idx (.t 38) (.t 39), none⟩, ⟨some 41, .call (.c (.fn 27 [])) [(.t 37), (.t 40)], none⟩, ⟨some 11, .mv (.t 41), none⟩])
                      (.seq (.seq (.reg [⟨some 42, .mv (.t 11), none⟩, ⟨some 43, .bin .lss (.t 42) (.c (.x (.int .i64 (0)))), none⟩])
                      (.cond (.t 43)
                        (.seq (.reg [⟨some 4, .mv (.c (.x (.int .i64 (-1)))), none⟩])
                        .ret)
                        .skip))
                      (.reg [⟨some 44, .mv (.t 9), none⟩, ⟨some 45, .mv (.t 11), none⟩, ⟨some 46, .bin .add (.t 45) (.c (.x (.int .i64 (1)))), none⟩, ⟨some 47, .bin .add (.t 44) (.t 46), none⟩, ⟨some 9, .mv (.t 47), none⟩])))
                      .skip))
                    (.seq (.seq (.reg [⟨some 12, .mv (.c (.x (.int .i64 (1)))), none⟩])
                    (.block 3
                      (.loop
                        (.seq (.seq (.reg [⟨some 48, .mv (.t 12), none⟩, ⟨some 49, .mv (.t 7), none⟩, ⟨some 50, .len true (.t 49), none⟩, ⟨some 51, .bin .lss (.t 48) (.t 50), none⟩])
                        (.cond (.t 51)
                          .skip
                          (.exit 3)))
                        (.seq (.block 4
                          (.seq (.dreg 0 [] [⟨some 54, .mv (.t 0), none⟩, ⟨some 55, .mv (.t 9), none⟩, ⟨some 56, .mv (.t 12), none⟩, ⟨some 57, .bin .sub (.t 55) (.t 56), none⟩, ⟨some 58, .idx (.t 54) (.t 57), none⟩, ⟨some 59, .mv (.t 7), none⟩, ⟨some 60, .mv (.t 8), none⟩, ⟨some 61, .mv (.t 12), none⟩, ⟨some 62, .bin .sub (.t 60) (.t 61), none⟩, ⟨some 63, .idx (.t 59) (.t 62), none⟩, ⟨some 64, .bin .neq (.t 58) (.t 63), none⟩])
                          (.cond (.t 64)
                            (.goto 0)
                            .skip)))
                        (.reg [⟨some 52, .mv (.t 12), none⟩, ⟨some 53, .bin .add (.t 52) (.c (.x (.int .i64 (1)))), none⟩, ⟨some 12, .mv (.t 53), none⟩]))))))
                    (.seq (.seq (.reg [⟨some 65, .mv (.t 9), none⟩, ⟨some 66, .mv (.t 8), none⟩, ⟨some 67, .bin .sub (.t 65) (.t 66), none⟩, ⟨some 4, .mv (.t 67), none⟩])
                    .ret)
                    (.seq (.label 0)
                    (.seq (.reg [⟨some 68, .mv (.t 10), none⟩, ⟨some 69, .bin .add (.t 68) (.c (.x (.int .i64 (1)))), none⟩, ⟨some 10, .mv (.t 69), none⟩])
                    (.seq (.reg [⟨some 70, .mv (.t 9), none⟩, ⟨some 71, .bin .add (.t 70) (.c (.x (.int .i64 (1)))), none⟩, ⟨some 9, .mv (.t 71), none⟩])
                    (.seq (.reg [⟨some 72, .mv (.c (.x (.bool true))), none⟩, ⟨some 73, .mv (.t 10), (some (72, true))⟩, ⟨some 74, .mv (.t 9), (some (72, true))⟩, ⟨some 75, .call (.c (.fn 29 [])) [(.t 74)], (some (72, true))⟩, ⟨some 76, .bin .gtr (.t 73) (.t 75), (some (72, true))⟩, ⟨some 77, .pick (.t 72) (.t 76) (.c (.x (.bool false))), none⟩, ⟨some 78, .mv (.t 77), none⟩, ⟨some 79, .mv (.t 9), (some (78, true))⟩, ⟨some 80, .mv (.t 0), (some (78, true))⟩, ⟨some 81, .len true (.t 80), (some (78, true))⟩, ⟨some 82, .bin .lss (.t 79) (.t 81), (some (78, true))⟩, ⟨some 83, .pick (.t 78) (.t 82) (.c (.x (.bool false))), none⟩, ⟨some 84, .mv (.t 83), none⟩, ⟨some 85, .mv (.c (.x (.bool false))), (some (84, false))⟩, ⟨some 86, .mv (.t 10), (some (85, true))⟩, ⟨some 87, .mv (.t 9), (some (85, true))⟩, ⟨some 88, .bin .shr (.t 87) (.c (.x (.int .u64 (4)))), (some (85, true))⟩, ⟨some 89, .bin .add (.c (.x (.int .i64 (4)))) (.t 88), (some (85, true))⟩, ⟨some 90, .bin .geq (.t 86) (.t 89), (some (85, true))⟩, ⟨some 91, .pick (.t 85) (.t 90) (.c (.x (.bool false))), (some (84, false))⟩, ⟨some 92, .mv (.t 91), (some (84, false))⟩, ⟨some 93, .mv (.t 9), (some (92, true))⟩, ⟨some 94, .mv (.t 0), (some (92, true))⟩, ⟨some 95, .len true (.t 94), (some (92, true))⟩, ⟨some 96, .bin .lss (.t 93) (.t 95), (some (92, true))⟩, ⟨some 97, .pick (.t 92) (.t 96) (.c (.x (.bool false))), (some (84, false))⟩, ⟨some 98, .pick (.t 84) (.c (.x (.bool true))) (.t 97), none⟩])
                    (.cond (.t 98)
                      (.goto 1)
                      .skip)))))))))))))
            (.seq (.seq (.reg [⟨some 4, .mv (.c (.x (.int .i64 (-1)))), none⟩])
            .ret)
            (.seq (.label 1)
            (.seq (.cond (.c (.x (.bool true)))
              (.seq .dead
              (.seq (.reg [⟨some 107, .mv (.t 13), none⟩, ⟨some 108, .bin .geq (.t 107) (.c (.x (.int .i64 (0)))), none⟩])
              (.cond (.t 108)
                (.seq (.reg [⟨some 109, .mv (.t 9), none⟩, ⟨some 110, .mv (.t 13), none⟩, ⟨some 111, .bin .add (.t 109) (.t 110), none⟩, ⟨some 112, .mv (.t 8), none⟩, ⟨some 113, .bin .sub (.t 111) (.t 112), none⟩, ⟨some 4, .mv (.t 113), none⟩])
                .ret)
                .skip)))
              (.scope (.seq (.reg [⟨some 114, .mv (.t 7), none⟩, ⟨some 115, .mv (.t 8), none⟩, ⟨some 116, .idx (.t 114) (.t 115), none⟩, ⟨some 14, .mv (.t 116), none⟩])
                (.seq (.reg [⟨some 117, .mv (.t 7), none⟩, ⟨some 118, .mv (.t 8), none⟩, ⟨some 119, .bin .sub (.t 118) (.c (.x (.int .i64 (1)))), none⟩, ⟨some 120, .idx (.t 117) (.t 119), none⟩, ⟨some 15, .mv (.t 120), none⟩])
                (.seq (.label 2)
                (.block 5
                  (.loop
                    (.seq (.seq (.reg [⟨some 121, .mv (.t 9), none⟩, ⟨some 122, .mv (.t 0), none⟩, ⟨some 123, .len true (.t 122), none⟩, ⟨some 124, .bin .lss (.t 121) (.t 123), none⟩])
                    (.cond (.t 124)
                      .skip
                      (.exit 5)))
                    (.seq (.block 6
                      (.seq (.reg [⟨some 127, .mv (.t 0), none⟩, ⟨some 128, .mv (.t 9), none⟩, ⟨some 129, .idx (.t 127) (.t 128), none⟩, ⟨some 130, .mv (.t 14), none⟩, ⟨some 131, .bin .eql (.t 129) (.t 130), none⟩, ⟨some 132, .mv (.t 131), none⟩, ⟨some 133, .mv (.t 0), (some (132, true))⟩, ⟨some 134, .mv (.t 9), (some (132, true))⟩, ⟨some 135, .bin .sub (.t 134) (.c (.x (.int .i64 (1)))), (some (132, true))⟩, ⟨some 136, .idx (.t 133) (.t 135), (some (132, true))⟩, ⟨some 137, .mv (.t 15), (some (132, true))⟩, ⟨some 138, .bin .eql (.t 136) (.t 137), (some (132, true))⟩, ⟨some 139, .pick (.t 132) (.t 138) (.c (.x (.bool false))), none⟩])
                      (.cond (.t 139)
                        (.seq (.seq (.reg [⟨some 16, .mv (.c (.x (.int .i64 (2)))), none⟩])
                        (.block 7
                          (.loop
                            (.seq (.seq (.reg [⟨some 140, .mv (.t 16), none⟩, ⟨some 141, .mv (.t 7), none⟩, ⟨some 142, .len true (.t 141), none⟩, ⟨some 143, .bin .lss (.t 140) (.t 142), none⟩])
                            (.cond (.t 143)
                              .skip
                              (.exit 7)))
                            (.seq (.block 8
                              (.seq (.dreg 0 [] [⟨some 146, .mv (.t 0), none⟩, ⟨some 147, .mv (.t 9), none⟩, ⟨some 148, .mv (.t 16), none⟩, ⟨some 149, .bin .sub (.t 147) (.t 148), none⟩, ⟨some 150, .idx (.t 146) (.t 149), none⟩, ⟨some 151, .mv (.t 7), none⟩, ⟨some 152, .mv (.t 8), none⟩, ⟨some 153, .mv (.t 16), none⟩, ⟨some 154, .bin .sub (.t 152) (.t 153), none⟩, ⟨some 155, .idx (.t 151) (.t 154), none⟩, ⟨some 156, .bin .neq (.t 150) (.t 155), none⟩])
                              (.cond (.t 156)
                                (.exit 6)
                                .skip)))
                            (.reg [⟨some 144, .mv (.t 16), none⟩, ⟨some 145, .bin .add (.t 144) (.c (.x (.int .i64 (1)))), none⟩, ⟨some 16, .mv (.t 145), none⟩]))))))
                        (.seq (.reg [⟨some 157, .mv (.t 9), none⟩, ⟨some 158, .mv (.t 8), none⟩, ⟨some 159, .bin .sub (.t 157) (.t 158), none⟩, ⟨some 4, .mv (.t 159), none⟩])
                        .ret))
                        .skip)))
                    (.reg [⟨some 125, .mv (.t 9), none⟩, ⟨some 126, .bin .add (.t 125) (.c (.x (.int .i64 (1)))), none⟩, ⟨some 9, .mv (.t 126), none⟩]))))))))
                (.seq (.reg [⟨some 114, .mv (.t 7), none⟩, ⟨some 115, .mv (.t 8), none⟩, ⟨some 116, .idx (.t 114) (.t 115), none⟩, ⟨some 14, .mv (.t 116), none⟩])
                (.seq (.reg [⟨some 117, .mv (.t 7), none⟩, ⟨some 118, .mv (.t 8), none⟩, ⟨some 119, .bin .sub (.t 118) (.c (.x (.int .i64 (1)))), none⟩, ⟨some 120, .idx (.t 117) (.t 119), none⟩, ⟨some 15, .mv (.t 120), none⟩])
                (.seq (.label 2)
                (.block 5
                  (.loop
                    (.seq (.seq (.reg [⟨some 121, .mv (.t 9), none⟩, ⟨some 122, .mv (.t 0), none⟩, ⟨some 123, .len true (.t 122), none⟩, ⟨some 124, .bin .lss (.t 121) (.t 123), none⟩])
                    (.cond (.t 124)
                      .skip
                      (.exit 5)))
                    (.seq (.block 6
                      (.seq (.reg [⟨some 127, .mv (.t 0), none⟩, ⟨some 128, .mv (.t 9), none⟩, ⟨some 129, .idx (.t 127) (.t 128), none⟩, ⟨some 130, .mv (.t 14), none⟩, ⟨some 131, .bin .eql (.t 129) (.t 130), none⟩, ⟨some 132, .mv (.t 131), none⟩, ⟨some 133, .mv (.t 0), (some (132, true))⟩, ⟨some 134, .mv (.t 9), (some (132, true))⟩, ⟨some 135, .bin .sub (.t 134) (.c (.x (.int .i64 (1)))), (some (132, true))⟩, ⟨some 136, .idx (.t 133) (.t 135), (some (132, true))⟩, ⟨some 137, .mv (.t 15), (some (132, true))⟩, ⟨some 138, .bin .eql (.t 136) (.t 137), (some (132, true))⟩, ⟨some 139, .pick (.t 132) (.t 138) (.c (.x (.bool false))), none⟩])
                      (.cond (.t 139)
                        (.seq (.seq (.reg [⟨some 16, .mv (.c (.x (.int .i64 (2)))), none⟩])
                        (.block 7
                          (.loop
                            (.seq (.seq (.reg [⟨some 140, .mv (.t 16), none⟩, ⟨some 141, .mv (.t 7), none⟩, ⟨some 142, .len true (.t 141), none⟩, ⟨some 143, .bin .lss (.t 140) (.t 142), none⟩])
                            (.cond (.t 143)
                              .skip
                              (.exit 7)))
                            (.seq (.block 8
                              (.seq (.dreg 0 [] [⟨some 146, .mv (.t 0), none⟩, ⟨some 147, .mv (.t 9), none⟩, ⟨some 148, .mv (.t 16), none⟩, ⟨some 149, .bin .sub (.t 147) (.t 148), none⟩, ⟨some 150, .idx (.t 146) (.t 149), none⟩, ⟨some 151, .mv (.t 7), none⟩, ⟨some 152, .mv (.t 8), none⟩, ⟨some 153, .mv (.t 16), none⟩, ⟨some 154, .bin .sub (.t 152) (.t 153), none⟩, ⟨some 155, .idx (.t 151) (.t 154), none⟩, ⟨some 156, .bin .neq (.t 150) (.t 155), none⟩])
                              (.cond (.t 156)
                                (.exit 6)
                                .skip)))
                            (.reg [⟨some 144, .mv (.t 16), none⟩, ⟨some 145, .bin .add (.t 144) (.c (.x (.int .i64 (1)))), none⟩, ⟨some 16, .mv (.t 145), none⟩]))))))
                        (.seq (.reg [⟨some 157, .mv (.t 9), none⟩, ⟨some 158, .mv (.t 8), none⟩, ⟨some 159, .bin .sub (.t 157) (.t 158), none⟩, ⟨some 4, .mv (.t 159), none⟩])
                        .ret))
                        .skip)))
                    (.reg [⟨some 125, .mv (.t 9), none⟩, ⟨some 126, .bin .add (.t 125) (.c (.x (.int .i64 (1)))), none⟩, ⟨some 9, .mv (.t 126), none⟩]))))))))))
            (.seq (.reg [⟨some 4, .mv (.c (.x (.int .i64 (-1)))), none⟩])
            .ret))))))))))))))))))⟩
theorem c25 : compFn Tryd.prog Tryd.f25 = some i25 := by kernel_rfl
/-- unicode/utf8.decodeRuneInStringSlow -/
def i26 : IFn := ⟨117, [.tmp 2, .tmp 3], (.seq (.reg [⟨some 2, .mv (.c (.x (.int .i32 (0)))), none⟩, ⟨some 3, .mv (.c (.x (.int .i64 (0)))), none⟩])
  (.seq (.reg [⟨some 13, .mv (.t 0), none⟩, ⟨some 14, .len true (.t 13), none⟩, ⟨some 4, .mv (.t 14), none⟩])
  (.seq (.seq (.reg [⟨some 15, .mv (.t 4), none⟩, ⟨some 16, .bin .lss (.t 15) (.c (.x (.int .i64 (1)))), none⟩])
  (.cond (.t 16)
    (.seq (.reg [⟨some 2, .mv (.c (.x (.int .i32 (65533)))), none⟩, ⟨some 3, .mv (.c (.x (.int .i64 (0)))), none⟩])
    .ret)
    .skip))
  (.seq (.reg [⟨some 17, .mv (.t 0), none⟩, ⟨some 18, .idx (.t 17) (.c (.x (.int .i64 (0)))), none⟩, ⟨some 5, .mv (.t 18), none⟩])
  (.seq .dead
  (.seq (.seq (.reg [⟨some 22, .mv (.t 6), none⟩, ⟨some 23, .bin .geq (.t 22) (.c (.x (.int .u8 (240)))), none⟩])
  (.cond (.t 23)
    (.seq (.reg [⟨some 24, .mv (.t 6), none⟩, ⟨some 25, .cvi .i32 (.t 24), none⟩, ⟨some 26, .bin .shl (.t 25) (.c (.x (.int .u64 (31)))), none⟩, ⟨some 27, .bin .shr (.t 26) (.c (.x (.int .u64 (31)))), none⟩, ⟨some 7, .mv (.t 27), none⟩])
    (.seq (.reg [⟨some 28, .mv (.t 0), none⟩, ⟨some 29, .idx (.t 28) (.c (.x (.int .i64 (0)))), none⟩, ⟨some 30, .cvi .i32 (.t 29), none⟩, ⟨some 31, .mv (.t 7), none⟩, ⟨some 32, .bin .andNot (.t 30) (.t 31), none⟩, ⟨some 33, .mv (.t 7), none⟩, ⟨some 34, .bin .and (.c (.x (.int .i32 (65533)))) (.t 33), none⟩, ⟨some 35, .bin .or (.t 32) (.t 34), none⟩, ⟨some 2, .mv (.t 35), none⟩, ⟨some 3, .mv (.c (.x (.int .i64 (1)))), none⟩])
    .ret))
    .skip))
  (.seq (.reg [⟨some 36, .mv (.t 6), none⟩, ⟨some 37, .bin .and (.t 36) (.c (.x (.int .u8 (7)))), none⟩, ⟨some 38, .cvi .i64 (.t 37), none⟩, ⟨some 8, .mv (.t 38), none⟩])
  (.seq .dead
  (.seq (.seq (.reg [⟨some 43, .mv (.t 4), none⟩, ⟨some 44, .mv (.t 8), none⟩, ⟨some 45, .bin .lss (.t 43) (.t 44), none⟩])
  (.cond (.t 45)
    (.seq (.reg [⟨some 2, .mv (.c (.x (.int .i32 (65533)))), none⟩, ⟨some 3, .mv (.c (.x (.int .i64 (1)))), none⟩])
    .ret)
    .skip))
  (.seq (.reg [⟨some 46, .mv (.t 0), none⟩, ⟨some 47, .idx (.t 46) (.c (.x (.int .i64 (1)))), none⟩, ⟨some 10, .mv (.t 47), none⟩])
  (.seq (.seq (.reg [⟨some 48, .mv (.t 10), none⟩, ⟨some 49, .fad 0 (.t 9), none⟩, ⟨some 50, .ld 1 false (.t 49), none⟩, ⟨some 51, .bin .lss (.t 48) (.t 50), none⟩, ⟨some 52, .mv (.t 51), none⟩, ⟨some 53, .fad 1 (.t 9), (some (52, false))⟩, ⟨some 54, .ld 1 false (.t 53), (some (52, false))⟩, ⟨some 55, .mv (.t 10), (some (52, false))⟩, ⟨some 56, .bin .lss (.t 54) (.t 55), (some (52, false))⟩, ⟨some 57, .pick (.t 52) (.c (.x (.bool true))) (.t 56), none⟩])
  (.cond (.t 57)
    (.seq (.reg [⟨some 2, .mv (.c (.x (.int .i32 (65533)))), none⟩, ⟨some 3, .mv (.c (.x (.int .i64 (1)))), none⟩])
    .ret)
    .skip))
  (.seq (.seq (.reg [⟨some 58, .mv (.t 8), none⟩, ⟨some 59, .bin .leq (.t 58) (.c (.x (.int .i64 (2)))), none⟩])
  (.cond (.t 59)
    (.seq (.reg [⟨some 60, .mv (.t 5), none⟩, ⟨some 61, .bin .and (.t 60) (.c (.x (.int .u8 (31)))), none⟩, ⟨some 62, .cvi .i32 (.t 61), none⟩, ⟨some 63, .bin .shl (.t 62) (.c (.x (.int .u64 (6)))), none⟩, ⟨some 64, .mv (.t 10), none⟩, ⟨some 65, .bin .and (.t 64) (.c (.x (.int .u8 (63)))), none⟩, ⟨some 66, .cvi .i32 (.t 65), none⟩, ⟨some 67, .bin .or (.t 63) (.t 66), none⟩, ⟨some 2, .mv (.t 67), none⟩, ⟨some 3, .mv (.c (.x (.int .i64 (2)))), none⟩])
    .ret)
    .skip))
  (.seq (.reg [⟨some 68, .mv (.t 0), none⟩, ⟨some 69, .idx (.t 68) (.c (.x (.int .i64 (2)))), none⟩, ⟨some 11, .mv (.t 69), none⟩])
  (.seq (.seq (.reg [⟨some 70, .mv (.t 11), none⟩, ⟨some 71, .bin .lss (.t 70) (.c (.x (.int .u8 (128)))), none⟩, ⟨some 72, .mv (.t 71), none⟩, ⟨some 73, .mv (.t 11), (some (72, false))⟩, ⟨some 74, .bin .lss (.c (.x (.int .u8 (191)))) (.t 73), (some (72, false))⟩, ⟨some 75, .pick (.t 72) (.c (.x (.bool true))) (.t 74), none⟩])
  (.cond (.t 75)
    (.seq (.reg [⟨some 2, .mv (.c (.x (.int .i32 (65533)))), none⟩, ⟨some 3, .mv (.c (.x (.int .i64 (1)))), none⟩])
    .ret)
    .skip))
  (.seq (.seq (.reg [⟨some 76, .mv (.t 8), none⟩, ⟨some 77, .bin .leq (.t 76) (.c (.x (.int .i64 (3)))), none⟩])
  (.cond (.t 77)
    (.seq (.reg [⟨some 78, .mv (.t 5), none⟩, ⟨some 79, .bin .and (.t 78) (.c (.x (.int .u8 (15)))), none⟩, ⟨some 80, .cvi .i32 (.t 79), none⟩, ⟨some 81, .bin .shl (.t 80) (.c (.x (.int .u64 (12)))), none⟩, ⟨some 82, .mv (.t 10), none⟩, ⟨some 83, .bin .and (.t 82) (.c (.x (.int .u8 (63)))), none⟩, ⟨some 84, .cvi .i32 (.t 83), none⟩, ⟨some 85, .bin .shl (.t 84) (.c (.x (.int .u64 (6)))), none⟩, ⟨some 86, .bin .or (.t 81) (.t 85), none⟩, ⟨some 87, .mv (.t 11), none⟩, ⟨some 88, .bin .and (.t 87) (.c (.x (.int .u8 (63)))), none⟩, ⟨some 89, .cvi .i32 (.t 88), none⟩, ⟨some 90, .bin .or (.t 86) (.t 89), none⟩, ⟨some 2, .mv (.t 90), none⟩, ⟨some 3, .mv (.c (.x (.int .i64 (3)))), none⟩])
    .ret)
    .skip))
  (.seq (.reg [⟨some 91, .mv (.t 0), none⟩, ⟨some 92, .idx (.t 91) (.c (.x (.int .i64 (3)))), none⟩, ⟨some 12, .mv (.t 92), none⟩])
  (.seq (.seq (.reg [⟨some 93, .mv (.t 12), none⟩, ⟨some 94, .bin .lss (.t 93) (.c (.x (.int .u8 (128)))), none⟩, ⟨some 95, .mv (.t 94), none⟩, ⟨some 96, .mv (.t 12), (some (95, false))⟩, ⟨some 97, .bin .lss (.c (.x (.int .u8 (191)))) (.t 96), (some (95, false))⟩, ⟨some 98, .pick (.t 95) (.c (.x (.bool true))) (.t 97), none⟩])
  (.cond (.t 98)
    (.seq (.reg [⟨some 2, .mv (.c (.x (.int .i32 (65533)))), none⟩, ⟨some 3, .mv (.c (.x (.int .i64 (1)))), none⟩])
    .ret)
    .skip))
  (.seq (.reg [⟨some 99, .mv (.t 5), none⟩, ⟨some 100, .bin .and (.t 99) (.c (.x (.int .u8 (7)))), none⟩, ⟨some 101, .cvi .i32 (.t 100), none⟩, ⟨some 102, .bin .shl (.t 101) (.c (.x (.int .u64 (18)))), none⟩, ⟨some 103, .mv (.t 10), none⟩, ⟨some 104, .bin .and (.t 103) (.c (.x (.int .u8 (63)))), none⟩, ⟨some 105, .cvi .i32 (.t 104), none⟩, ⟨some 106, .bin .shl (.t 105) (.c (.x (.int .u64 (12)))), none⟩, ⟨some 107, .bin .or (.t 102) (.t 106), none⟩, ⟨some 108, .mv (.t 11), none⟩, ⟨some 109, .bin .and (.t 108) (.c (.x (.int .u8 (63)))), none⟩, ⟨some 110, .cvi .i32 (.t 109), none⟩, ⟨some 111, .bin .shl (.t 110) (.c (.x (.int .u64 (6)))), none⟩, ⟨some 112, .bin .or (.t 107) (.t 111), none⟩, ⟨some 113, .mv (.t 12), none⟩, ⟨some 114, .bin .and (.t 113) (.c (.x (.int .u8 (63)))), none⟩, ⟨some 115, .cvi .i32 (.t 114), none⟩, ⟨some 116, .bin .or (.t 112) (.t 115), none⟩, ⟨some 2, .mv (.t 116), none⟩, ⟨some 3, .mv (.c (.x (.int .i64 (4)))), none⟩])
  .ret))))))))))))))))))⟩
theorem c26 : compFn Tryd.prog Tryd.f26 = some i26 := by kernel_rfl
/-- strings.IndexByte -/
def i27 : IFn := ⟨8, [.tmp 4], (.seq (.reg [⟨some 4, .mv (.c (.x (.int .i64 (0)))), none⟩])
  (.seq (.reg [⟨some 5, .mv (.t 0), none⟩, ⟨some 6, .mv (.t 1), none⟩, ⟨some 7, .call (.c (.fn 31 [])) [(.t 5), (.t 6)], none⟩, ⟨some 4, .mv (.t 7), none⟩])
  .ret))⟩
theorem c27 : compFn Tryd.prog Tryd.f27 = some i27 := by kernel_rfl
/-- unicode/utf8.ValidRune -/
def i28 : IFn := ⟨17, [.tmp 2], (.seq (.reg [⟨some 2, .mv (.c (.x (.bool false))), none⟩])
  (.seq (.block 0
    (.seq (.reg [⟨some 4, .mv (.t 0), none⟩, ⟨some 5, .bin .leq (.c (.x (.int .i32 (0)))) (.t 4), none⟩, ⟨some 6, .mv (.t 5), none⟩, ⟨some 7, .mv (.t 0), (some (6, true))⟩, ⟨some 8, .bin .lss (.t 7) (.c (.x (.int .i32 (55296)))), (some (6, true))⟩, ⟨some 9, .pick (.t 6) (.t 8) (.c (.x (.bool false))), none⟩, ⟨some 3, .mv (.t 9), none⟩])
    (.cond (.t 3)
      (.seq (.reg [⟨some 2, .mv (.c (.x (.bool true))), none⟩])
      .ret)
      (.seq (.reg [⟨some 11, .mv (.t 0), none⟩, ⟨some 12, .bin .lss (.c (.x (.int .i32 (57343)))) (.t 11), none⟩, ⟨some 13, .mv (.t 12), none⟩, ⟨some 14, .mv (.t 0), (some (13, true))⟩, ⟨some 15, .bin .leq (.t 14) (.c (.x (.int .i32 (1114111)))), (some (13, true))⟩, ⟨some 16, .pick (.t 13) (.t 15) (.c (.x (.bool false))), none⟩, ⟨some 10, .mv (.t 16), none⟩])
      (.cond (.t 10)
        (.seq (.reg [⟨some 2, .mv (.c (.x (.bool true))), none⟩])
        .ret)
        .skip)))))
  (.seq (.reg [⟨some 2, .mv (.c (.x (.bool false))), none⟩])
  .ret)))⟩
theorem c28 : compFn Tryd.prog Tryd.f28 = some i28 := by kernel_rfl
def G : FuncId → Option IFn
  | 3 => some i3
  | 4 => some i4
  | 5 => some i5
  | 6 => some i6
  | 7 => some i7
  | 8 => some i8
  | 9 => some i9
  | 10 => some i10
  | 11 => some i11
  | 12 => some i12
  | 13 => some i13
  | 14 => some i14
  | 15 => some i15
  | 16 => some i16
  | 17 => some i17
  | 18 => some i18
  | 20 => some i20
  | 21 => some i21
  | 22 => some i22
  | 23 => some i23
  | 24 => some i24
  | 25 => some i25
  | 26 => some i26
  | 27 => some i27
  | 28 => some i28
  | _ => none
theorem G_ok : GOk Tryd.prog G := by
  intro f p h
  unfold G at h
  split at h
  · cases h; exact ⟨Tryd.f3, Tryd.func3, by decide, c3⟩
  · cases h; exact ⟨Tryd.f4, Tryd.func4, by decide, c4⟩
  · cases h; exact ⟨Tryd.f5, Tryd.func5, by decide, c5⟩
  · cases h; exact ⟨Tryd.f6, Tryd.func6, by decide, c6⟩
  · cases h; exact ⟨Tryd.f7, Tryd.func7, by decide, c7⟩
  · cases h; exact ⟨Tryd.f8, Tryd.func8, by decide, c8⟩
  · cases h; exact ⟨Tryd.f9, Tryd.func9, by decide, c9⟩
  · cases h; exact ⟨Tryd.f10, Tryd.func10, by decide, c10⟩
  · cases h; exact ⟨Tryd.f11, Tryd.func11, by decide, c11⟩
  · cases h; exact ⟨Tryd.f12, Tryd.func12, by decide, c12⟩
  · cases h; exact ⟨Tryd.f13, Tryd.func13, by decide, c13⟩
  · cases h; exact ⟨Tryd.f14, Tryd.func14, by decide, c14⟩
  · cases h; exact ⟨Tryd.f15, Tryd.func15, by decide, c15⟩
  · cases h; exact ⟨Tryd.f16, Tryd.func16, by decide, c16⟩
  · cases h; exact ⟨Tryd.f17, Tryd.func17, by decide, c17⟩
  · cases h; exact ⟨Tryd.f18, Tryd.func18, by decide, c18⟩
  · cases h; exact ⟨Tryd.f20, Tryd.func20, by decide, c20⟩
  · cases h; exact ⟨Tryd.f21, Tryd.func21, by decide, c21⟩
  · cases h; exact ⟨Tryd.f22, Tryd.func22, by decide, c22⟩
  · cases h; exact ⟨Tryd.f23, Tryd.func23, by decide, c23⟩
  · cases h; exact ⟨Tryd.f24, Tryd.func24, by decide, c24⟩
  · cases h; exact ⟨Tryd.f25, Tryd.func25, by decide, c25⟩
  · cases h; exact ⟨Tryd.f26, Tryd.func26, by decide, c26⟩
  · cases h; exact ⟨Tryd.f27, Tryd.func27, by decide, c27⟩
  · cases h; exact ⟨Tryd.f28, Tryd.func28, by decide, c28⟩
  · cases h
end Go.Proofs.YtcffpndhodhncaaDoor
