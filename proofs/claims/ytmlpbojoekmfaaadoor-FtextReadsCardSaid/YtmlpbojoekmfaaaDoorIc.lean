/- The code of functions, as the abstract evaluator reads it. Printed by gen_ic.py. -/
import Derived.Test.YtmlpbojoekmfaaaDoorProg
import Derived.Test.YtmlpbojoekmfaaaDoorLA4
namespace Go.Proofs.YtmlpbojoekmfaaaDoor
open Go.RowKit Go.Bo Go.Ab
/-- bothy/bothylaw13.FtextReads -/
def i3 : IFn := ⟨42, [.tmp 2], (.seq (.reg [qa 2 (.mv (qb false))])
 (.seq (.seq (.reg [qm 7 0, qa 8 (.len true (qt 7)), qa 9 (.bin .gtr (qt 8) (qi 600)), qm 10 9, qn 11 0 10 true, qg 12 (.len true (qt 11)) 10 true, qg 13 (.bin .leq (qt 12) (qi 4096)) 10 true, qa 14 (.pick (qt 10) (qt 13) (qb false)), qm 15 14, qn 16 0 15 false, qg 17 (.len true (qt 16)) 15 false, qg 18 (.bin .gtr (qt 17) (qi 5000)) 15 false, qa 19 (.pick (qt 15) (qb true) (qt 18))])
 (.cond (qt 19)
 (.seq (.reg [qa 20 (.call (.c (.fn 7 [])) []), qm 2 20])
 .ret)
 .skip))
 (.seq (.reg [qm 22 0, qa 23 (.call (.c (.fn 8 [])) [(qt 22)]), qm 21 23, qa 24 (.ext (qt 21) 0), qa 25 (.ext (qt 21) 1), qa 3 (.box (.c (.agg [.x (.int .i64 (0)), .x (.str []), .x (.str []), .x (.str []), .x .nils, .x (.str []), .x .nils]))), ⟨none, .sto 7 (qt 3) (qt 24), none⟩, qm 4 25])
 (.seq (.reg [qm 27 0, qa 28 (.call (.c (.fn 9 [])) [(qt 27)]), qm 26 28, qa 29 (.ext (qt 26) 0), qa 30 (.ext (qt 26) 1), qa 5 (.box (.c (.agg [.x (.int .i64 (0)), .x (.str []), .x (.str []), .x (.str []), .x .nils, .x (.str []), .x .nils]))), ⟨none, .sto 7 (qt 5) (qt 29), none⟩, qm 6 30])
 (.seq (.reg [qa 31 (.ld 7 true (qt 3)), qa 32 (.ld 7 true (qt 5)), qa 33 (.call (.c (.fn 10 [])) [(qt 31), (qt 32)]), qm 34 33, qn 35 4 34 true, qn 36 6 34 true, qg 37 (.bin .eql (qt 35) (qt 36)) 34 true, qa 38 (.pick (qt 34) (qt 37) (qb false)), qm 39 38, qg 40 (.call (.c (.fn 7 [])) []) 39 true, qa 41 (.pick (qt 39) (qt 40) (qb false)), qm 2 41])
 .ret)))))⟩
theorem c3 : compFn Tryd.prog Tryd.f3 = some i3 := by kernel_rfl
/-- bothy/bothylaw13.awake -/
def i7 : IFn := ⟨88, [.tmp 0], (.seq (.reg [qa 0 (.mv (qb false))])
 (.seq (.reg [qa 10 (.call (.c (.fn 8 [])) [(qs [40, 38, 40, 99, 110, 61, 97, 42, 41, 40, 33, 40, 115, 110, 61, 98, 92, 50, 97, 41, 41, 40, 120, 62, 61, 49, 41, 40, 121, 61, 42, 41, 41])]), qm 9 10, qa 11 (.ext (qt 9) 0), qa 12 (.ext (qt 9) 1), qa 1 (.box (.c (.agg [.x (.int .i64 (0)), .x (.str []), .x (.str []), .x (.str []), .x .nils, .x (.str []), .x .nils]))), ⟨none, .sto 7 (qt 1) (qt 11), none⟩, qm 2 12])
 (.seq (.seq (.reg [qa 13 (.fad 6 (qt 1)), qa 14 (.ld 1 false (qt 13)), qa 15 (.len false (qt 14)), qa 16 (.bin .neq (qt 15) (qi 4))])
 (.cond (qt 16)
 (.seq (.reg [qa 0 (.mv (qb false))])
 .ret)
 .skip))
 (.seq (.reg [qa 18 (.ld 7 true (qt 1)), qa 19 (.call (.c (.fn 18 [])) [(qt 18)]), qm 17 19, qa 20 (.ext (qt 17) 0), qa 21 (.ext (qt 17) 1), qm 3 20, qm 4 21])
 (.seq (.reg [qa 23 (.call (.c (.fn 8 [])) [(qs [40, 99, 110, 61, 97, 42, 42, 98, 41])]), qm 22 23, qa 24 (.ext (qt 22) 0), qa 25 (.ext (qt 22) 1), qa 5 (.box (.c (.agg [.x (.int .i64 (0)), .x (.str []), .x (.str []), .x (.str []), .x .nils, .x (.str []), .x .nils]))), ⟨none, .sto 7 (qt 5) (qt 24), none⟩, qm 6 25])
 (.seq (.reg [qa 27 (.call (.c (.fn 8 [])) [(qs [40, 99, 110, 61, 40, 97, 41])]), qm 26 27, qa 28 (.ext (qt 26) 0), qa 29 (.ext (qt 26) 1), qa 7 (.box (.c (.agg [.x (.int .i64 (0)), .x (.str []), .x (.str []), .x (.str []), .x .nils, .x (.str []), .x .nils]))), ⟨none, .sto 7 (qt 7) (qt 28), none⟩, qm 8 29])
 (.seq (.reg [qm 30 2, qa 31 (.bin .eql (qt 30) (qi 0)), qm 32 31, qg 33 (.fad 6 (qt 1)) 32 true, qg 34 (.ld 1 false (qt 33)) 32 true, qg 35 (.iad 7 (qt 34) (qi 0)) 32 true, qg 36 (.fad 3 (qt 35)) 32 true, qg 37 (.fad 0 (qt 36)) 32 true, qg 38 (.ld 1 false (qt 37)) 32 true, qg 39 (.bin .eql (qt 38) (qs [97])) 32 true, qa 40 (.pick (qt 32) (qt 39) (qb false)), qm 41 40, qg 42 (.fad 6 (qt 1)) 41 true, qg 43 (.ld 1 false (qt 42)) 41 true, qg 44 (.iad 7 (qt 43) (qi 1)) 41 true, qg 45 (.fad 6 (qt 44)) 41 true, qg 46 (.ld 1 false (qt 45)) 41 true, qg 47 (.iad 7 (qt 46) (qi 0)) 41 true, qg 48 (.fad 2 (qt 47)) 41 true, qg 49 (.ld 1 false (qt 48)) 41 true, qg 50 (.bin .eql (qt 49) (qs [98, 42])) 41 true, qa 51 (.pick (qt 41) (qt 50) (qb false)), qm 52 51, qg 53 (.fad 6 (qt 1)) 52 true, qg 54 (.ld 1 false (qt 53)) 52 true, qg 55 (.iad 7 (qt 54) (qi 2)) 52 true, qg 56 (.fad 0 (qt 55)) 52 true, qg 57 (.ld 1 false (qt 56)) 52 true, qg 58 (.bin .eql (qt 57) (qi 5)) 52 true, qa 59 (.pick (qt 52) (qt 58) (qb false)), qm 60 59, qg 61 (.fad 6 (qt 1)) 60 true, qg 62 (.ld 1 false (qt 61)) 60 true, qg 63 (.iad 7 (qt 62) (qi 3)) 60 true, qg 64 (.fad 0 (qt 63)) 60 true, qg 65 (.ld 1 false (qt 64)) 60 true, qg 66 (.bin .eql (qt 65) (qi 7)) 60 true, qa 67 (.pick (qt 60) (qt 66) (qb false)), qm 68 67, qn 69 3 68 true, qg 70 (.bin .eql (qt 69) (qs [40, 38, 40, 99, 110, 61, 97, 42, 41, 40, 33, 40, 115, 110, 61, 98, 92, 50, 97, 41, 41, 40, 120, 62, 61, 49, 41, 40, 121, 61, 42, 41, 41])) 68 true, qa 71 (.pick (qt 68) (qt 70) (qb false)), qm 72 71, qn 73 4 72 true, qg 74 (.bin .eql (qt 73) (qi 0)) 72 true, qa 75 (.pick (qt 72) (qt 74) (qb false)), qm 76 75, qn 77 6 76 true, qg 78 (.bin .eql (qt 77) (qi 5)) 76 true, qa 79 (.pick (qt 76) (qt 78) (qb false)), qm 80 79, qn 81 8 80 true, qg 82 (.bin .eql (qt 81) (qi 5)) 80 true, qa 83 (.pick (qt 80) (qt 82) (qb false)), qm 84 83, qg 85 (.call (.c (.fn 19 [])) [(qs [40, 0])]) 84 true, qg 86 (.bin .eql (qt 85) (qs [92, 50, 56, 92, 48, 48])) 84 true, qa 87 (.pick (qt 84) (qt 86) (qb false)), qm 0 87])
 .ret)))))))⟩
theorem c7 : compFn Tryd.prog Tryd.f7 = some i7 := by kernel_rfl
/-- bothy/ftext.Read -/
def i8 : IFn := ⟨30, [.cell 2 7 true, .tmp 3], (.seq (.reg [qa 2 (.box (.c (.agg [.x (.int .i64 (0)), .x (.str []), .x (.str []), .x (.str []), .x .nils, .x (.str []), .x .nils]))), qa 3 (.mv (qi 0))])
 (.seq (.seq (.reg [qm 7 0, qa 8 (.len true (qt 7)), qa 9 (.bin .gtr (qt 8) (qi 4096))])
 (.cond (qt 9)
 (.seq (.reg [qa 10 (.build [.x (.int .i64 (0)), .x (.str []), .x (.str []), .x (.str []), .x .nils, .x (.str []), .x .nils] []), ⟨none, .sto 7 (qt 2) (qt 10), none⟩, qa 3 (.mv (qi 3))])
 .ret)
 .skip))
 (.seq (.reg [qm 12 0, qa 13 (.call (.c (.fn 20 [])) [(qt 12), (qi 20)]), qm 11 13, qa 14 (.ext (qt 11) 0), qa 15 (.ext (qt 11) 1), qa 16 (.ext (qt 11) 2), qa 4 (.box (.c (.agg [.x (.int .i64 (0)), .x (.str []), .x (.str []), .x (.str []), .x .nils, .x (.str []), .x .nils]))), ⟨none, .sto 7 (qt 4) (qt 14), none⟩, qm 5 15, qm 6 16])
 (.seq (.seq (.reg [qm 17 6, qa 18 (.un .not (qt 17)), qm 19 18, qn 20 5 19 false, qg 21 (.bin .neq (qt 20) (qs [])) 19 false, qa 22 (.pick (qt 19) (qb true) (qt 21)), qm 23 22, qg 24 (.ld 7 true (qt 4)) 23 false, qg 25 (.call (.c (.fn 21 [])) [(qt 24)]) 23 false, qg 26 (.bin .neq (qt 25) (qi 0)) 23 false, qa 27 (.pick (qt 23) (qb true) (qt 26))])
 (.cond (qt 27)
 (.seq (.reg [qa 28 (.build [.x (.int .i64 (0)), .x (.str []), .x (.str []), .x (.str []), .x .nils, .x (.str []), .x .nils] []), ⟨none, .sto 7 (qt 2) (qt 28), none⟩, qa 3 (.mv (qi 5))])
 .ret)
 .skip))
 (.seq (.reg [qa 29 (.ld 7 true (qt 4)), ⟨none, .sto 7 (qt 2) (qt 29), none⟩, qa 3 (.mv (qi 0))])
 .ret)))))⟩
theorem c8 : compFn Tryd.prog Tryd.f8 = some i8 := by kernel_rfl
/-- bothy/bothyref13.Read -/
def i9 : IFn := ⟨41, [.cell 2 7 true, .tmp 3], (.seq (.reg [qa 2 (.box (.c (.agg [.x (.int .i64 (0)), .x (.str []), .x (.str []), .x (.str []), .x .nils, .x (.str []), .x .nils]))), qa 3 (.mv (qi 0))])
 (.seq (.seq (.reg [qm 9 0, qa 10 (.len true (qt 9)), qa 11 (.bin .gtr (qt 10) (qi 4096))])
 (.cond (qt 11)
 (.seq (.reg [qa 12 (.build [.x (.int .i64 (0)), .x (.str []), .x (.str []), .x (.str []), .x .nils, .x (.str []), .x .nils] []), ⟨none, .sto 7 (qt 2) (qt 12), none⟩, qa 3 (.mv (qi 3))])
 .ret)
 .skip))
 (.seq (.reg [qm 14 0, qa 15 (.call (.c (.fn 22 [])) [(qt 14), (qi 20)]), qm 13 15, qa 16 (.ext (qt 13) 0), qa 17 (.ext (qt 13) 1), qa 18 (.ext (qt 13) 2), qa 4 (.box (.c (.agg [.x (.int .i64 (0)), .x (.str []), .x (.str []), .x (.str []), .x .nils, .x (.str []), .x .nils]))), ⟨none, .sto 7 (qt 4) (qt 16), none⟩, qm 5 17, qm 6 18])
 (.seq (.reg [qa 20 (.ld 7 true (qt 4)), qa 21 (.call (.c (.fn 23 [])) [(qt 20)]), qm 19 21, qa 22 (.ext (qt 19) 0), qa 23 (.ext (qt 19) 1), qm 7 22, qm 8 23])
 (.seq (.seq (.reg [qm 24 6, qa 25 (.un .not (qt 24)), qm 26 25, qn 27 5 26 false, qg 28 (.bin .neq (qt 27) (qs [])) 26 false, qa 29 (.pick (qt 26) (qb true) (qt 28)), qm 30 29, qn 31 8 30 false, qg 32 (.bin .neq (qt 31) (qi 0)) 30 false, qa 33 (.pick (qt 30) (qb true) (qt 32)), qm 34 33, qn 35 7 34 false, qn 36 0 34 false, qg 37 (.bin .neq (qt 35) (qt 36)) 34 false, qa 38 (.pick (qt 34) (qb true) (qt 37))])
 (.cond (qt 38)
 (.seq (.reg [qa 39 (.build [.x (.int .i64 (0)), .x (.str []), .x (.str []), .x (.str []), .x .nils, .x (.str []), .x .nils] []), ⟨none, .sto 7 (qt 2) (qt 39), none⟩, qa 3 (.mv (qi 5))])
 .ret)
 .skip))
 (.seq (.reg [qa 40 (.ld 7 true (qt 4)), ⟨none, .sto 7 (qt 2) (qt 40), none⟩, qa 3 (.mv (qi 0))])
 .ret))))))⟩
theorem c9 : compFn Tryd.prog Tryd.f9 = some i9 := by kernel_rfl
/-- bothy/bothyref11.Same -/
def i10 : IFn := ⟨8, [.tmp 4], (.seq (.reg [qa 2 (.box (qt 0)), qa 3 (.box (qt 1)), qa 4 (.mv (qb false))])
 (.seq (.reg [qa 5 (.ld 7 true (qt 2)), qa 6 (.ld 7 true (qt 3)), qa 7 (.call (.c (.fn 24 [])) [(qt 5), (qt 6), (qi 64)]), qm 4 7])
 .ret))⟩
theorem c10 : compFn Tryd.prog Tryd.f10 = some i10 := by kernel_rfl
/-- bothy/ftext.Put -/
def i18 : IFn := ⟨17, [.tmp 2, .tmp 3], (.seq (.reg [qa 1 (.box (qt 0)), qa 2 (.mv (qs [])), qa 3 (.mv (qi 0))])
 (.seq (.seq (.reg [qa 6 (.ld 7 true (qt 1)), qa 7 (.call (.c (.fn 21 [])) [(qt 6)]), qm 4 7])
 (.seq (.reg [qm 8 4, qa 9 (.bin .neq (qt 8) (qi 0))])
 (.cond (qt 9)
 (.seq (.reg [qm 10 4, qa 2 (.mv (qs [])), qm 3 10])
 .ret)
 .skip)))
 (.seq (.reg [qa 11 (.ld 7 true (qt 1)), qa 12 (.call (.c (.fn 39 [])) [(qt 11)]), qm 5 12])
 (.seq (.seq (.reg [qm 13 5, qa 14 (.len true (qt 13)), qa 15 (.bin .gtr (qt 14) (qi 4096))])
 (.cond (qt 15)
 (.seq (.reg [qa 2 (.mv (qs [])), qa 3 (.mv (qi 3))])
 .ret)
 .skip))
 (.seq (.reg [qm 16 5, qm 2 16, qa 3 (.mv (qi 0))])
 .ret)))))⟩
theorem c18 : compFn Tryd.prog Tryd.f18 = some i18 := by kernel_rfl
/-- bothy/ftext.Escape -/
def i19 : IFn := ⟨32, [.tmp 2], (.seq (.reg [qa 2 (.mv (qs []))])
 (.scope (.seq (.reg [qa 3 (.mv (.c (.x .nils)))])
 (.seq (.reg [qa 4 (.mv (qi 0))])
 (.seq (.label 0)
 (.seq (.seq (.reg [qm 6 4, qm 7 0, qa 8 (.len true (qt 7)), qa 9 (.bin .lss (qt 6) (qt 8))])
 (.cond (qt 9)
 (.seq (.reg [qm 10 0, qm 11 4, qa 12 (.idx (qt 10) (qt 11)), qm 5 12])
 (.seq (.reg [qm 13 4, qa 14 (.bin .add (qt 13) (qi 1)), qm 4 14])
 (.seq (.seq (.reg [qm 15 5, qa 16 (.call (.c (.fn 40 [])) [(qt 15)])])
 (.cond (qt 16)
 (.dreg 0 [] [qm 17 3, qm 18 5, qa 19 (.bin .quo (qt 18) (.c (.x (.int .u8 (16))))), qa 20 (.idx (qs [48, 49, 50, 51, 52, 53, 54, 55, 56, 57, 97, 98, 99, 100, 101, 102]) (qt 19)), qm 21 5, qa 22 (.bin .rem (qt 21) (.c (.x (.int .u8 (16))))), qa 23 (.idx (qs [48, 49, 50, 51, 52, 53, 54, 55, 56, 57, 97, 98, 99, 100, 101, 102]) (qt 22)), qa 24 (.bsl 5 1 3 [(.c (.x (.int .u8 (92)))), (qt 20), (qt 23)]), qa 25 (.app 5 1 1 (qt 17) (qt 24)), qm 3 25])
 (.reg [qm 26 3, qm 27 5, qa 28 (.bsl 5 1 1 [(qt 27)]), qa 29 (.app 5 1 1 (qt 26) (qt 28)), qm 3 29])))
 (.goto 0))))
 .skip))
 (.seq (.reg [qm 30 3, qa 31 (.b2s (qt 30)), qm 2 31])
 .ret)))))
 (.seq (.reg [qa 3 (.mv (.c (.x .nils)))])
 (.seq (.reg [qa 4 (.mv (qi 0))])
 (.seq (.label 0)
 (.seq (.seq (.reg [qm 6 4, qm 7 0, qa 8 (.len true (qt 7)), qa 9 (.bin .lss (qt 6) (qt 8))])
 (.cond (qt 9)
 (.seq (.reg [qm 10 0, qm 11 4, qa 12 (.idx (qt 10) (qt 11)), qm 5 12])
 (.seq (.reg [qm 13 4, qa 14 (.bin .add (qt 13) (qi 1)), qm 4 14])
 (.seq (.seq (.reg [qm 15 5, qa 16 (.call (.c (.fn 40 [])) [(qt 15)])])
 (.cond (qt 16)
 (.dreg 0 [] [qm 17 3, qm 18 5, qa 19 (.bin .quo (qt 18) (.c (.x (.int .u8 (16))))), qa 20 (.idx (qs [48, 49, 50, 51, 52, 53, 54, 55, 56, 57, 97, 98, 99, 100, 101, 102]) (qt 19)), qm 21 5, qa 22 (.bin .rem (qt 21) (.c (.x (.int .u8 (16))))), qa 23 (.idx (qs [48, 49, 50, 51, 52, 53, 54, 55, 56, 57, 97, 98, 99, 100, 101, 102]) (qt 22)), qa 24 (.bsl 5 1 3 [(.c (.x (.int .u8 (92)))), (qt 20), (qt 23)]), qa 25 (.app 5 1 1 (qt 17) (qt 24)), qm 3 25])
 (.reg [qm 26 3, qm 27 5, qa 28 (.bsl 5 1 1 [(qt 27)]), qa 29 (.app 5 1 1 (qt 26) (qt 28)), qm 3 29])))
 (.goto 0))))
 .skip))
 (.seq (.reg [qm 30 3, qa 31 (.b2s (qt 30)), qm 2 31])
 .ret)))))))⟩
theorem c19 : compFn Tryd.prog Tryd.f19 = some i19 := by kernel_rfl
/-- bothy/ftext.read -/
def i20 : IFn := ⟨74, [.cell 4 7 true, .tmp 5, .tmp 6], (.seq (.reg [qa 4 (.box (.c (.agg [.x (.int .i64 (0)), .x (.str []), .x (.str []), .x (.str []), .x .nils, .x (.str []), .x .nils]))), qa 5 (.mv (qs [])), qa 6 (.mv (qb false))])
 (.seq (.seq (.reg [qm 12 1, qa 13 (.bin .eql (qt 12) (qi 0)), qm 14 13, qn 15 0 14 false, qg 16 (.len true (qt 15)) 14 false, qg 17 (.bin .lss (qt 16) (qi 2)) 14 false, qa 18 (.pick (qt 14) (qb true) (qt 17)), qm 19 18, qn 20 0 19 false, qg 21 (.idx (qt 20) (qi 0)) 19 false, qg 22 (.bin .neq (qt 21) (.c (.x (.int .u8 (40))))) 19 false, qa 23 (.pick (qt 19) (qb true) (qt 22))])
 (.cond (qt 23)
 (.seq (.reg [qa 24 (.build [.x (.int .i64 (0)), .x (.str []), .x (.str []), .x (.str []), .x .nils, .x (.str []), .x .nils] []), qm 25 0, ⟨none, .sto 7 (qt 4) (qt 24), none⟩, qm 5 25, qa 6 (.mv (qb false))])
 .ret)
 .skip))
 (.seq (.seq (.reg [qm 26 0, qa 27 (.idx (qt 26) (qi 1))])
 (.block 0
 (.seq (.reg [qa 29 (.bin .eql (qt 27) (.c (.x (.int .u8 (38))))), qm 28 29])
 (.cond (qt 28)
 (.seq (.reg [qm 30 0, qa 31 (.slc 0 (qt 30) (some (qi 2)) none none), qm 32 1, qa 33 (.call (.c (.fn 41 [])) [(qi 0), (qt 31), (qt 32)]), qa 34 (.ext (qt 33) 0), qa 35 (.ext (qt 33) 1), qa 36 (.ext (qt 33) 2), ⟨none, .sto 7 (qt 4) (qt 34), none⟩, qm 5 35, qm 6 36])
 .ret)
 (.seq (.reg [qa 38 (.bin .eql (qt 27) (.c (.x (.int .u8 (124))))), qm 37 38])
 (.cond (qt 37)
 (.seq (.reg [qm 39 0, qa 40 (.slc 0 (qt 39) (some (qi 2)) none none), qm 41 1, qa 42 (.call (.c (.fn 41 [])) [(qi 1), (qt 40), (qt 41)]), qa 43 (.ext (qt 42) 0), qa 44 (.ext (qt 42) 1), qa 45 (.ext (qt 42) 2), ⟨none, .sto 7 (qt 4) (qt 43), none⟩, qm 5 44, qm 6 45])
 .ret)
 (.seq (.reg [qa 47 (.bin .eql (qt 27) (.c (.x (.int .u8 (33))))), qm 46 47])
 (.cond (qt 46)
 (.seq (.reg [qm 48 0, qa 49 (.slc 0 (qt 48) (some (qi 2)) none none), qm 50 1, qa 51 (.call (.c (.fn 41 [])) [(qi 2), (qt 49), (qt 50)]), qa 52 (.ext (qt 51) 0), qa 53 (.ext (qt 51) 1), qa 54 (.ext (qt 51) 2), ⟨none, .sto 7 (qt 4) (qt 52), none⟩, qm 5 53, qm 6 54])
 .ret)
 .skip))))))))
 (.seq (.reg [qm 56 0, qa 57 (.slc 0 (qt 56) (some (qi 1)) none none), qa 58 (.call (.c (.fn 36 [])) [(qt 57), (qs [41])]), qm 55 58, qa 59 (.ext (qt 55) 0), qa 60 (.ext (qt 55) 1), qa 61 (.ext (qt 55) 2), qm 7 59, qm 8 60, qm 9 61])
 (.seq (.seq (.reg [qm 62 9, qa 63 (.un .not (qt 62))])
 (.cond (qt 63)
 (.seq (.reg [qa 64 (.build [.x (.int .i64 (0)), .x (.str []), .x (.str []), .x (.str []), .x .nils, .x (.str []), .x .nils] []), qm 65 0, ⟨none, .sto 7 (qt 4) (qt 64), none⟩, qm 5 65, qa 6 (.mv (qb false))])
 .ret)
 .skip))
 (.seq (.reg [qm 67 7, qa 68 (.call (.c (.fn 42 [])) [(qt 67)]), qm 66 68, qa 69 (.ext (qt 66) 0), qa 70 (.ext (qt 66) 1), qa 10 (.box (.c (.agg [.x (.int .i64 (0)), .x (.str []), .x (.str []), .x (.str []), .x .nils, .x (.str []), .x .nils]))), ⟨none, .sto 7 (qt 10) (qt 69), none⟩, qm 11 70])
 (.seq (.reg [qa 71 (.ld 7 true (qt 10)), qm 72 8, qm 73 11, ⟨none, .sto 7 (qt 4) (qt 71), none⟩, qm 5 72, qm 6 73])
 .ret)))))))⟩
theorem c20 : compFn Tryd.prog Tryd.f20 = some i20 := by kernel_rfl
/-- bothy/filter.Check -/
def i21 : IFn := ⟨8, [.tmp 2], (.seq (.reg [qa 1 (.box (qt 0)), qa 2 (.mv (qi 0))])
 (.seq (.seq (.reg [qa 3 (.ld 7 true (qt 1)), qa 4 (.call (.c (.fn 43 [])) [(qt 3)]), qa 5 (.bin .gtr (qt 4) (qi 16))])
 (.cond (qt 5)
 (.seq (.reg [qa 2 (.mv (qi 7))])
 .ret)
 .skip))
 (.seq (.reg [qa 6 (.ld 7 true (qt 1)), qa 7 (.call (.c (.fn 44 [])) [(qt 6)]), qm 2 7])
 .ret)))⟩
theorem c21 : compFn Tryd.prog Tryd.f21 = some i21 := by kernel_rfl
/-- bothy/bothyref13.read -/
def i22 : IFn := ⟨117, [.cell 4 7 true, .tmp 5, .tmp 6], (.seq (.reg [qa 4 (.box (.c (.agg [.x (.int .i64 (0)), .x (.str []), .x (.str []), .x (.str []), .x .nils, .x (.str []), .x .nils]))), qa 5 (.mv (qs [])), qa 6 (.mv (qb false))])
 (.seq (.seq (.reg [qm 13 0, qa 14 (.len true (qt 13)), qa 15 (.bin .lss (qt 14) (qi 2)), qm 16 15, qn 17 0 16 false, qg 18 (.idx (qt 17) (qi 0)) 16 false, qg 19 (.bin .neq (qt 18) (.c (.x (.int .u8 (40))))) 16 false, qa 20 (.pick (qt 16) (qb true) (qt 19)), qm 21 20, qn 22 1 21 false, qg 23 (.bin .lss (qt 22) (qi 1)) 21 false, qa 24 (.pick (qt 21) (qb true) (qt 23))])
 (.cond (qt 24)
 (.seq (.reg [qa 25 (.build [.x (.int .i64 (0)), .x (.str []), .x (.str []), .x (.str []), .x .nils, .x (.str []), .x .nils] []), qm 26 0, ⟨none, .sto 7 (qt 4) (qt 25), none⟩, qm 5 26, qa 6 (.mv (qb false))])
 .ret)
 .skip))
 (.seq (.reg [qa 7 (.mv (qi (-1)))])
 (.seq (.seq (.reg [qm 27 0, qa 28 (.idx (qt 27) (qi 1))])
 (.block 0
 (.seq (.reg [qa 30 (.bin .eql (qt 28) (.c (.x (.int .u8 (38))))), qm 29 30])
 (.cond (qt 29)
 (.reg [qa 7 (.mv (qi 0))])
 (.seq (.reg [qa 32 (.bin .eql (qt 28) (.c (.x (.int .u8 (124))))), qm 31 32])
 (.cond (qt 31)
 (.reg [qa 7 (.mv (qi 1))])
 (.seq (.reg [qa 34 (.bin .eql (qt 28) (.c (.x (.int .u8 (33))))), qm 33 34])
 (.cond (qt 33)
 (.reg [qa 7 (.mv (qi 2))])
 .skip))))))))
 (.seq (.seq (.reg [qm 35 7, qa 36 (.bin .lss (qt 35) (qi 0))])
 (.cond (qt 36)
 (.seq (.reg [qa 8 (.mv (qi 1))])
 (.seq (.block 1
 (.loop
 (.seq (.seq (.reg [qm 37 8, qm 38 0, qa 39 (.len true (qt 38)), qa 40 (.bin .lss (qt 37) (qt 39)), qm 41 40, qn 42 0 41 true, qn 43 8 41 true, qg 44 (.idx (qt 42) (qt 43)) 41 true, qg 45 (.bin .neq (qt 44) (.c (.x (.int .u8 (41))))) 41 true, qa 46 (.pick (qt 41) (qt 45) (qb false)), qm 47 46, qn 48 0 47 true, qn 49 8 47 true, qg 50 (.idx (qt 48) (qt 49)) 47 true, qg 51 (.bin .neq (qt 50) (.c (.x (.int .u8 (40))))) 47 true, qa 52 (.pick (qt 47) (qt 51) (qb false))])
 (.cond (qt 52)
 .skip
 (.exit 1)))
 (.block 2
 (.reg [qm 53 8, qa 54 (.bin .add (qt 53) (qi 1)), qm 8 54])))))
 (.seq (.seq (.reg [qm 55 8, qm 56 0, qa 57 (.len true (qt 56)), qa 58 (.bin .eql (qt 55) (qt 57)), qm 59 58, qn 60 0 59 false, qn 61 8 59 false, qg 62 (.idx (qt 60) (qt 61)) 59 false, qg 63 (.bin .eql (qt 62) (.c (.x (.int .u8 (40))))) 59 false, qa 64 (.pick (qt 59) (qb true) (qt 63))])
 (.cond (qt 64)
 (.seq (.reg [qa 65 (.build [.x (.int .i64 (0)), .x (.str []), .x (.str []), .x (.str []), .x .nils, .x (.str []), .x .nils] []), qm 66 0, ⟨none, .sto 7 (qt 4) (qt 65), none⟩, qm 5 66, qa 6 (.mv (qb false))])
 .ret)
 .skip))
 (.seq (.dreg 0 [] [qm 67 0, qm 68 8, qa 69 (.slc 0 (qt 67) (some (qi 1)) (some (qt 68)) none), qa 70 (.call (.c (.fn 45 [])) [(qt 69)]), qm 71 0, qm 72 8, qa 73 (.bin .add (qt 72) (qi 1)), qa 74 (.slc 0 (qt 71) (some (qt 73)) none none), ⟨none, .sto 7 (qt 4) (qt 70), none⟩, qm 5 74, qa 6 (.mv (qb true))])
 .ret))))
 .skip))
 (.seq (.reg [qm 75 7, qa 76 (.build [.x (.int .i64 (0)), .x (.str []), .x (.str []), .x (.str []), .x .nils, .x (.str []), .x .nils] [(0, 1, (qt 75))]), qa 9 (.box (.c (.agg [.x (.int .i64 (0)), .x (.str []), .x (.str []), .x (.str []), .x .nils, .x (.str []), .x .nils]))), ⟨none, .sto 7 (qt 9) (qt 76), none⟩])
 (.seq (.reg [qm 77 0, qa 78 (.slc 0 (qt 77) (some (qi 2)) none none), qm 0 78])
 (.seq (.block 3
 (.loop
 (.seq (.seq (.reg [qm 79 0, qa 80 (.bin .neq (qt 79) (qs [])), qm 81 80, qn 82 0 81 true, qg 83 (.idx (qt 82) (qi 0)) 81 true, qg 84 (.bin .eql (qt 83) (.c (.x (.int .u8 (40))))) 81 true, qa 85 (.pick (qt 81) (qt 84) (qb false))])
 (.cond (qt 85)
 .skip
 (.exit 3)))
 (.block 4
 (.seq (.reg [qm 87 0, qm 88 1, qa 89 (.bin .sub (qt 88) (qi 1)), qa 90 (.call (.c (.fn 22 [])) [(qt 87), (qt 89)]), qm 86 90, qa 91 (.ext (qt 86) 0), qa 92 (.ext (qt 86) 1), qa 93 (.ext (qt 86) 2), qa 10 (.box (.c (.agg [.x (.int .i64 (0)), .x (.str []), .x (.str []), .x (.str []), .x .nils, .x (.str []), .x .nils]))), ⟨none, .sto 7 (qt 10) (qt 91), none⟩, qm 11 92, qm 12 93])
 (.seq (.seq (.reg [qm 94 12, qa 95 (.un .not (qt 94))])
 (.cond (qt 95)
 (.seq (.reg [qa 96 (.build [.x (.int .i64 (0)), .x (.str []), .x (.str []), .x (.str []), .x .nils, .x (.str []), .x .nils] []), qm 97 0, ⟨none, .sto 7 (qt 4) (qt 96), none⟩, qm 5 97, qa 6 (.mv (qb false))])
 .ret)
 .skip))
 (.seq (.reg [qa 98 (.fad 6 (qt 9)), qa 99 (.ld 1 false (qt 98)), qa 100 (.ld 7 true (qt 10)), qa 101 (.bsl 28 7 1 [(qt 100)]), qa 102 (.app 28 7 120 (qt 99) (qt 101)), qa 103 (.fad 6 (qt 9)), ⟨none, .sto 1 (qt 103) (qt 102), none⟩])
 (.reg [qm 104 11, qm 0 104]))))))))
 (.seq (.seq (.reg [qm 105 0, qa 106 (.bin .eql (qt 105) (qs [])), qm 107 106, qn 108 0 107 false, qg 109 (.idx (qt 108) (qi 0)) 107 false, qg 110 (.bin .neq (qt 109) (.c (.x (.int .u8 (41))))) 107 false, qa 111 (.pick (qt 107) (qb true) (qt 110))])
 (.cond (qt 111)
 (.seq (.reg [qa 112 (.build [.x (.int .i64 (0)), .x (.str []), .x (.str []), .x (.str []), .x .nils, .x (.str []), .x .nils] []), qm 113 0, ⟨none, .sto 7 (qt 4) (qt 112), none⟩, qm 5 113, qa 6 (.mv (qb false))])
 .ret)
 .skip))
 (.seq (.dreg 0 [] [qa 114 (.ld 7 true (qt 9)), qm 115 0, qa 116 (.slc 0 (qt 115) (some (qi 1)) none none), ⟨none, .sto 7 (qt 4) (qt 114), none⟩, qm 5 116, qa 6 (.mv (qb true))])
 .ret))))))))))⟩
theorem c22 : compFn Tryd.prog Tryd.f22 = some i22 := by kernel_rfl
/-- bothy/bothyref13.Put -/
def i23 : IFn := ⟨17, [.tmp 2, .tmp 3], (.seq (.reg [qa 1 (.box (qt 0)), qa 2 (.mv (qs [])), qa 3 (.mv (qi 0))])
 (.seq (.seq (.reg [qa 6 (.ld 7 true (qt 1)), qa 7 (.call (.c (.fn 46 [])) [(qt 6)]), qm 4 7])
 (.seq (.reg [qm 8 4, qa 9 (.bin .neq (qt 8) (qi 0))])
 (.cond (qt 9)
 (.seq (.reg [qm 10 4, qa 2 (.mv (qs [])), qm 3 10])
 .ret)
 .skip)))
 (.seq (.reg [qa 11 (.ld 7 true (qt 1)), qa 12 (.call (.c (.fn 47 [])) [(qt 11)]), qm 5 12])
 (.seq (.seq (.reg [qm 13 5, qa 14 (.len true (qt 13)), qa 15 (.bin .gtr (qt 14) (qi 4096))])
 (.cond (qt 15)
 (.seq (.reg [qa 2 (.mv (qs [])), qa 3 (.mv (qi 3))])
 .ret)
 .skip))
 (.seq (.reg [qm 16 5, qm 2 16, qa 3 (.mv (qi 0))])
 .ret)))))⟩
theorem c23 : compFn Tryd.prog Tryd.f23 = some i23 := by kernel_rfl
/-- bothy/bothyref11.same -/
def i24 : IFn := ⟨69, [.tmp 6], (.seq (.reg [qa 3 (.box (qt 0)), qa 4 (.box (qt 1)), qa 6 (.mv (qb false))])
 (.seq (.seq (.reg [qa 8 (.fad 0 (qt 3)), qa 9 (.ld 1 false (qt 8)), qa 10 (.fad 0 (qt 4)), qa 11 (.ld 1 false (qt 10)), qa 12 (.bin .neq (qt 9) (qt 11)), qm 13 12, qg 14 (.fad 1 (qt 3)) 13 false, qg 15 (.ld 1 false (qt 14)) 13 false, qg 16 (.fad 1 (qt 4)) 13 false, qg 17 (.ld 1 false (qt 16)) 13 false, qg 18 (.bin .neq (qt 15) (qt 17)) 13 false, qa 19 (.pick (qt 13) (qb true) (qt 18)), qm 20 19, qg 21 (.fad 2 (qt 3)) 20 false, qg 22 (.ld 1 false (qt 21)) 20 false, qg 23 (.fad 2 (qt 4)) 20 false, qg 24 (.ld 1 false (qt 23)) 20 false, qg 25 (.bin .neq (qt 22) (qt 24)) 20 false, qa 26 (.pick (qt 20) (qb true) (qt 25)), qm 27 26, qg 28 (.fad 3 (qt 3)) 27 false, qg 29 (.ld 3 true (qt 28)) 27 false, qg 30 (.fad 3 (qt 4)) 27 false, qg 31 (.ld 3 true (qt 30)) 27 false, qg 32 (.call (.c (.fn 48 [])) [(qt 29), (qt 31)]) 27 false, qg 33 (.un .not (qt 32)) 27 false, qa 34 (.pick (qt 27) (qb true) (qt 33)), qm 35 34, qg 36 (.fad 6 (qt 3)) 35 false, qg 37 (.ld 1 false (qt 36)) 35 false, qg 38 (.len false (qt 37)) 35 false, qg 39 (.fad 6 (qt 4)) 35 false, qg 40 (.ld 1 false (qt 39)) 35 false, qg 41 (.len false (qt 40)) 35 false, qg 42 (.bin .neq (qt 38) (qt 41)) 35 false, qa 43 (.pick (qt 35) (qb true) (qt 42))])
 (.cond (qt 43)
 (.seq (.reg [qa 6 (.mv (qb false))])
 .ret)
 .skip))
 (.seq (.seq (.reg [qa 7 (.mv (qi 0))])
 (.block 0
 (.loop
 (.seq (.seq (.reg [qm 44 7, qa 45 (.fad 6 (qt 3)), qa 46 (.ld 1 false (qt 45)), qa 47 (.len false (qt 46)), qa 48 (.bin .lss (qt 44) (qt 47)), qm 49 48, qn 50 2 49 true, qg 51 (.bin .gtr (qt 50) (qi 0)) 49 true, qa 52 (.pick (qt 49) (qt 51) (qb false))])
 (.cond (qt 52)
 .skip
 (.exit 0)))
 (.seq (.block 1
 (.seq (.dreg 10 [] [qa 55 (.fad 6 (qt 3)), qa 56 (.ld 1 false (qt 55)), qm 57 7, qa 58 (.iad 7 (qt 56) (qt 57)), qa 59 (.ld 7 true (qt 58)), qa 60 (.fad 6 (qt 4)), qa 61 (.ld 1 false (qt 60)), qm 62 7, qa 63 (.iad 7 (qt 61) (qt 62)), qa 64 (.ld 7 true (qt 63)), qm 65 2, qa 66 (.bin .sub (qt 65) (qi 1)), qa 67 (.call (.c (.fn 24 [])) [(qt 59), (qt 64), (qt 66)]), qa 68 (.un .not (qt 67))])
 (.cond (qt 68)
 (.seq (.reg [qa 6 (.mv (qb false))])
 .ret)
 .skip)))
 (.reg [qm 53 7, qa 54 (.bin .add (qt 53) (qi 1)), qm 7 54]))))))
 (.seq (.reg [qa 6 (.mv (qb true))])
 .ret))))⟩
theorem c24 : compFn Tryd.prog Tryd.f24 = some i24 := by kernel_rfl
/-- bothy/bothyref06.Typed -/
def i31 : IFn := ⟨56, [.tmp 2], (.seq (.reg [qa 2 (.mv (qb false))])
 (.seq (.seq (.reg [qa 3 (.mv (qi 0))])
 (.block 0
 (.loop
 (.seq (.seq (.reg [qm 6 3, qm 7 0, qa 8 (.len true (qt 7)), qa 9 (.bin .lss (qt 6) (qt 8))])
 (.cond (qt 9)
 .skip
 (.exit 0)))
 (.seq (.block 1
 (.seq (.reg [qm 12 0, qm 13 3, qa 14 (.idx (qt 12) (qt 13)), qm 4 14])
 (.seq (.reg [qm 15 4, qa 16 (.bin .geq (qt 15) (.c (.x (.int .u8 (97))))), qm 17 16, qn 18 4 17 true, qg 19 (.bin .leq (qt 18) (.c (.x (.int .u8 (122))))) 17 true, qa 20 (.pick (qt 17) (qt 19) (qb false)), qm 21 20, qn 22 4 21 false, qg 23 (.bin .geq (qt 22) (.c (.x (.int .u8 (65))))) 21 false, qn 24 23 21 false, qn 25 4 24 true, qg 26 (.bin .leq (qt 25) (.c (.x (.int .u8 (90))))) 24 true, qg 27 (.pick (qt 24) (qt 26) (qb false)) 21 false, qa 28 (.pick (qt 21) (qb true) (qt 27)), qm 5 28])
 (.seq (.reg [qm 29 5, qa 30 (.un .not (qt 29)), qm 31 30, qn 32 3 31 true, qg 33 (.bin .eql (qt 32) (qi 0)) 31 true, qn 34 33 31 true, qn 35 4 34 false, qg 36 (.bin .geq (qt 35) (.c (.x (.int .u8 (48))))) 34 false, qn 37 36 34 false, qn 38 4 37 true, qg 39 (.bin .leq (qt 38) (.c (.x (.int .u8 (57))))) 37 true, qg 40 (.pick (qt 37) (qt 39) (qb false)) 34 false, qn 41 40 34 false, qn 42 4 41 false, qg 43 (.bin .eql (qt 42) (.c (.x (.int .u8 (45))))) 41 false, qg 44 (.pick (qt 41) (qb true) (qt 43)) 34 false, qg 45 (.un .not (qt 44)) 34 false, qg 46 (.pick (qt 34) (qb true) (qt 45)) 31 true, qa 47 (.pick (qt 31) (qt 46) (qb false))])
 (.cond (qt 47)
 (.seq (.reg [qa 2 (.mv (qb false))])
 .ret)
 .skip)))))
 (.reg [qm 10 3, qa 11 (.bin .add (qt 10) (qi 1)), qm 3 11]))))))
 (.seq (.reg [qm 48 0, qa 49 (.len true (qt 48)), qa 50 (.bin .geq (qt 49) (qi 1)), qm 51 50, qn 52 0 51 true, qg 53 (.len true (qt 52)) 51 true, qg 54 (.bin .leq (qt 53) (qi 64)) 51 true, qa 55 (.pick (qt 51) (qt 54) (qb false)), qm 2 55])
 .ret)))⟩
theorem c31 : compFn Tryd.prog Tryd.f31 = some i31 := by kernel_rfl
/-- bothy/bothyref05.Lower -/
def i32 : IFn := ⟨29, [.tmp 2], (.seq (.reg [qa 2 (.mv (qs []))])
 (.seq (.reg [qa 3 (.mv (.c (.x .nils)))])
 (.seq (.seq (.reg [qa 4 (.mv (qi 0))])
 (.block 0
 (.loop
 (.seq (.seq (.reg [qm 6 4, qm 7 0, qa 8 (.len true (qt 7)), qa 9 (.bin .lss (qt 6) (qt 8))])
 (.cond (qt 9)
 .skip
 (.exit 0)))
 (.seq (.block 1
 (.seq (.reg [qm 12 0, qm 13 4, qa 14 (.idx (qt 12) (qt 13)), qm 5 14])
 (.seq (.seq (.reg [qm 15 5, qa 16 (.bin .geq (qt 15) (.c (.x (.int .u8 (65))))), qm 17 16, qn 18 5 17 true, qg 19 (.bin .leq (qt 18) (.c (.x (.int .u8 (90))))) 17 true, qa 20 (.pick (qt 17) (qt 19) (qb false))])
 (.cond (qt 20)
 (.reg [qm 21 5, qa 22 (.bin .add (qt 21) (.c (.x (.int .u8 (32))))), qm 5 22])
 .skip))
 (.reg [qm 23 3, qm 24 5, qa 25 (.bsl 5 1 1 [(qt 24)]), qa 26 (.app 5 1 1 (qt 23) (qt 25)), qm 3 26]))))
 (.reg [qm 10 4, qa 11 (.bin .add (qt 10) (qi 1)), qm 4 11]))))))
 (.seq (.reg [qm 27 3, qa 28 (.b2s (qt 27)), qm 2 28])
 .ret))))⟩
theorem c32 : compFn Tryd.prog Tryd.f32 = some i32 := by kernel_rfl
/-- bothy/ftext.put -/
def i39 : IFn := ⟨7, [.tmp 2], (.seq (.reg [qa 1 (.box (qt 0)), qa 2 (.mv (qs []))])
 (.seq (.reg [qa 3 (.ld 7 true (qt 1)), qa 4 (.call (.c (.fn 60 [])) [(qt 3)]), qa 5 (.bin .add (qs [40]) (qt 4)), qa 6 (.bin .add (qt 5) (qs [41])), qm 2 6])
 .ret))⟩
theorem c39 : compFn Tryd.prog Tryd.f39 = some i39 := by kernel_rfl
/-- bothy/ftext.marked -/
def i40 : IFn := ⟨25, [.tmp 2], (.seq (.reg [qa 2 (.mv (qb false))])
 (.seq (.reg [qm 3 0, qa 4 (.bin .eql (qt 3) (.c (.x (.int .u8 (42))))), qm 5 4, qn 6 0 5 false, qg 7 (.bin .eql (qt 6) (.c (.x (.int .u8 (40))))) 5 false, qa 8 (.pick (qt 5) (qb true) (qt 7)), qm 9 8, qn 10 0 9 false, qg 11 (.bin .eql (qt 10) (.c (.x (.int .u8 (41))))) 9 false, qa 12 (.pick (qt 9) (qb true) (qt 11)), qm 13 12, qn 14 0 13 false, qg 15 (.bin .eql (qt 14) (.c (.x (.int .u8 (92))))) 13 false, qa 16 (.pick (qt 13) (qb true) (qt 15)), qm 17 16, qn 18 0 17 false, qg 19 (.bin .lss (qt 18) (.c (.x (.int .u8 (32))))) 17 false, qa 20 (.pick (qt 17) (qb true) (qt 19)), qm 21 20, qn 22 0 21 false, qg 23 (.bin .gtr (qt 22) (.c (.x (.int .u8 (126))))) 21 false, qa 24 (.pick (qt 21) (qb true) (qt 23)), qm 2 24])
 .ret))⟩
theorem c40 : compFn Tryd.prog Tryd.f40 = some i40 := by kernel_rfl
/-- bothy/ftext.list -/
def i41 : IFn := ⟨53, [.cell 6 7 true, .tmp 7, .tmp 8], (.seq (.reg [qa 6 (.box (.c (.agg [.x (.int .i64 (0)), .x (.str []), .x (.str []), .x (.str []), .x .nils, .x (.str []), .x .nils]))), qa 7 (.mv (qs [])), qa 8 (.mv (qb false))])
 (.seq (.reg [qm 13 0, qa 14 (.build [.x (.int .i64 (0)), .x (.str []), .x (.str []), .x (.str []), .x .nils, .x (.str []), .x .nils] [(0, 1, (qt 13))]), qa 9 (.box (.c (.agg [.x (.int .i64 (0)), .x (.str []), .x (.str []), .x (.str []), .x .nils, .x (.str []), .x .nils]))), ⟨none, .sto 7 (qt 9) (qt 14), none⟩])
 (.seq (.block 0
 (.loop
 (.seq (.seq (.reg [qm 15 1, qa 16 (.bin .neq (qt 15) (qs [])), qm 17 16, qn 18 1 17 true, qg 19 (.idx (qt 18) (qi 0)) 17 true, qg 20 (.bin .eql (qt 19) (.c (.x (.int .u8 (40))))) 17 true, qa 21 (.pick (qt 17) (qt 20) (qb false))])
 (.cond (qt 21)
 .skip
 (.exit 0)))
 (.block 1
 (.seq (.reg [qm 23 1, qm 24 2, qa 25 (.bin .sub (qt 24) (qi 1)), qa 26 (.call (.c (.fn 20 [])) [(qt 23), (qt 25)]), qm 22 26, qa 27 (.ext (qt 22) 0), qa 28 (.ext (qt 22) 1), qa 29 (.ext (qt 22) 2), qa 10 (.box (.c (.agg [.x (.int .i64 (0)), .x (.str []), .x (.str []), .x (.str []), .x .nils, .x (.str []), .x .nils]))), ⟨none, .sto 7 (qt 10) (qt 27), none⟩, qm 11 28, qm 12 29])
 (.seq (.seq (.reg [qm 30 12, qa 31 (.un .not (qt 30))])
 (.cond (qt 31)
 (.seq (.reg [qa 32 (.ld 7 true (qt 9)), qm 33 1, ⟨none, .sto 7 (qt 6) (qt 32), none⟩, qm 7 33, qa 8 (.mv (qb false))])
 .ret)
 .skip))
 (.seq (.reg [qa 34 (.fad 6 (qt 9)), qa 35 (.ld 1 false (qt 34)), qa 36 (.ld 7 true (qt 10)), qa 37 (.bsl 28 7 1 [(qt 36)]), qa 38 (.app 28 7 120 (qt 35) (qt 37)), qa 39 (.fad 6 (qt 9)), ⟨none, .sto 1 (qt 39) (qt 38), none⟩])
 (.reg [qm 40 11, qm 1 40]))))))))
 (.seq (.seq (.reg [qm 41 1, qa 42 (.bin .eql (qt 41) (qs [])), qm 43 42, qn 44 1 43 false, qg 45 (.idx (qt 44) (qi 0)) 43 false, qg 46 (.bin .neq (qt 45) (.c (.x (.int .u8 (41))))) 43 false, qa 47 (.pick (qt 43) (qb true) (qt 46))])
 (.cond (qt 47)
 (.seq (.reg [qa 48 (.ld 7 true (qt 9)), qm 49 1, ⟨none, .sto 7 (qt 6) (qt 48), none⟩, qm 7 49, qa 8 (.mv (qb false))])
 .ret)
 .skip))
 (.seq (.dreg 0 [] [qa 50 (.ld 7 true (qt 9)), qm 51 1, qa 52 (.slc 0 (qt 51) (some (qi 1)) none none), ⟨none, .sto 7 (qt 6) (qt 50), none⟩, qm 7 52, qa 8 (.mv (qb true))])
 .ret)))))⟩
theorem c41 : compFn Tryd.prog Tryd.f41 = some i41 := by kernel_rfl
/-- bothy/ftext.leaf -/
def i42 : IFn := ⟨80, [.cell 2 7 true, .tmp 3], (.seq (.reg [qa 2 (.box (.c (.agg [.x (.int .i64 (0)), .x (.str []), .x (.str []), .x (.str []), .x .nils, .x (.str []), .x .nils]))), qa 3 (.mv (qb false))])
 (.seq (.reg [qm 14 0, qa 15 (.call (.c (.fn 36 [])) [(qt 14), (qs [61])]), qm 13 15, qa 16 (.ext (qt 13) 0), qa 17 (.ext (qt 13) 1), qa 18 (.ext (qt 13) 2), qm 4 16, qm 5 17, qm 6 18])
 (.seq (.seq (.reg [qm 19 6, qa 20 (.un .not (qt 19))])
 (.cond (qt 20)
 (.seq (.reg [qa 21 (.build [.x (.int .i64 (0)), .x (.str []), .x (.str []), .x (.str []), .x .nils, .x (.str []), .x .nils] []), ⟨none, .sto 7 (qt 2) (qt 21), none⟩, qa 3 (.mv (qb false))])
 .ret)
 .skip))
 (.seq (.reg [qm 22 4, qa 23 (.build [.x (.int .i64 (0)), .x (.str []), .x (.str []), .x (.str []), .x .nils, .x (.str []), .x .nils] [(0, 1, (qi 3)), (1, 1, (qt 22))]), qa 7 (.box (.c (.agg [.x (.int .i64 (0)), .x (.str []), .x (.str []), .x (.str []), .x .nils, .x (.str []), .x .nils]))), ⟨none, .sto 7 (qt 7) (qt 23), none⟩])
 (.seq (.seq (.reg [qa 24 (.build [.x (.int .i64 (0)), .x (.int .i64 (0)), .x (.int .i64 (0))] [(0, 1, (qi 5)), (1, 1, (qi 6)), (2, 1, (qi 8))]), qa 25 (.mv (qi 0))])
 (.block 0
 (.loop
 (.seq (.reg [qa 26 (.bin .lss (qt 25) (qi 3))])
 (.seq (.cond (qt 26)
 .skip
 (.exit 0))
 (.seq (.block 1
 (.seq (.reg [qa 27 (.idxa 1 3 false (qt 24) (qt 25)), qm 9 27])
 (.seq (.reg [qm 29 4, qm 30 9, qa 31 (.call (.c (.fn 62 [])) [(qt 30)]), qa 32 (.slc 0 (qt 31) none (some (qi 1)) none), qa 33 (.call (.c (.fn 61 [])) [(qt 29), (qt 32)]), qm 28 33, qa 34 (.ext (qt 28) 0), qa 35 (.ext (qt 28) 1), qm 10 34, qm 11 35])
 (.seq (.reg [qm 36 11])
 (.cond (qt 36)
 (.reg [qm 37 9, qm 38 10, qa 39 (.fad 0 (qt 7)), ⟨none, .sto 1 (qt 39) (qt 37), none⟩, qa 40 (.fad 1 (qt 7)), ⟨none, .sto 1 (qt 40) (qt 38), none⟩])
 .skip)))))
 (.reg [qa 41 (.bin .add (qt 25) (qi 1)), qm 25 41])))))))
 (.seq (.reg [qm 42 5, qa 43 (.call (.c (.fn 63 [])) [(qt 42), (qs [42])]), qm 12 43])
 (.seq (.block 2
 (.seq (.reg [qa 45 (.fad 0 (qt 7)), qa 46 (.ld 1 false (qt 45)), qa 47 (.bin .eql (qt 46) (qi 3)), qm 48 47, qn 49 5 48 true, qg 50 (.bin .eql (qt 49) (qs [42])) 48 true, qa 51 (.pick (qt 48) (qt 50) (qb false)), qm 44 51])
 (.cond (qt 44)
 (.seq (.reg [qa 52 (.fad 0 (qt 7)), ⟨none, .sto 1 (qt 52) (qi 7), none⟩])
 (.seq (.reg [qa 53 (.ld 7 true (qt 7)), ⟨none, .sto 7 (qt 2) (qt 53), none⟩, qa 3 (.mv (qb true))])
 .ret))
 (.seq (.reg [qa 55 (.fad 0 (qt 7)), qa 56 (.ld 1 false (qt 55)), qa 57 (.bin .eql (qt 56) (qi 3)), qm 58 57, qn 59 12 58 true, qg 60 (.len false (qt 59)) 58 true, qg 61 (.bin .gtr (qt 60) (qi 1)) 58 true, qa 62 (.pick (qt 58) (qt 61) (qb false)), qm 54 62])
 (.cond (qt 54)
 (.seq (.reg [qa 63 (.fad 0 (qt 7)), ⟨none, .sto 1 (qt 63) (qi 4), none⟩])
 (.seq (.reg [qm 65 12, qa 66 (.call (.c (.fn 64 [])) [(qt 65)]), qm 64 66, qa 67 (.ext (qt 64) 0), qa 68 (.ext (qt 64) 1), qa 69 (.fad 3 (qt 7)), ⟨none, .sto 3 (qt 69) (qt 67), none⟩, qm 6 68])
 (.seq (.reg [qa 70 (.ld 7 true (qt 7)), qm 71 6, ⟨none, .sto 7 (qt 2) (qt 70), none⟩, qm 3 71])
 .ret)))
 .skip)))))
 (.seq (.reg [qm 73 5, qa 74 (.call (.c (.fn 65 [])) [(qt 73)]), qm 72 74, qa 75 (.ext (qt 72) 0), qa 76 (.ext (qt 72) 1), qa 77 (.fad 2 (qt 7)), ⟨none, .sto 1 (qt 77) (qt 75), none⟩, qm 6 76])
 (.seq (.reg [qa 78 (.ld 7 true (qt 7)), qm 79 6, ⟨none, .sto 7 (qt 2) (qt 78), none⟩, qm 3 79])
 .ret)))))))))⟩
theorem c42 : compFn Tryd.prog Tryd.f42 = some i42 := by kernel_rfl
/-- bothy/filter.Depth -/
def i43 : IFn := ⟨5, [.tmp 2], (.seq (.reg [qa 1 (.box (qt 0)), qa 2 (.mv (qi 0))])
 (.seq (.reg [qa 3 (.ld 7 true (qt 1)), qa 4 (.call (.c (.fn 66 [])) [(qt 3), (qi 64)]), qm 2 4])
 .ret))⟩
theorem c43 : compFn Tryd.prog Tryd.f43 = some i43 := by kernel_rfl
/-- bothy/filter.all -/
def i44 : IFn := ⟨25, [.tmp 2], (.seq (.reg [qa 1 (.box (qt 0)), qa 2 (.mv (qi 0))])
 (.seq (.seq (.reg [qa 7 (.ld 7 true (qt 1)), qa 8 (.call (.c (.fn 67 [])) [(qt 7)]), qm 3 8])
 (.seq (.reg [qm 9 3, qa 10 (.bin .neq (qt 9) (qi 0))])
 (.cond (qt 10)
 (.seq (.reg [qm 11 3, qm 2 11])
 .ret)
 .skip)))
 (.seq (.seq (.reg [qa 12 (.fad 6 (qt 1)), qa 13 (.ld 1 false (qt 12)), qa 14 (.len false (qt 13)), qa 15 (.mv (qi 0))])
 (.block 0
 (.loop
 (.seq (.reg [qa 16 (.bin .lss (qt 15) (qt 14))])
 (.seq (.cond (qt 16)
 .skip
 (.exit 0))
 (.seq (.block 1
 (.seq (.reg [qa 17 (.iad 7 (qt 13) (qt 15)), qa 18 (.ld 7 true (qt 17)), qa 5 (.box (.c (.agg [.x (.int .i64 (0)), .x (.str []), .x (.str []), .x (.str []), .x .nils, .x (.str []), .x .nils]))), ⟨none, .sto 7 (qt 5) (qt 18), none⟩])
 (.seq (.reg [qa 19 (.ld 7 true (qt 5)), qa 20 (.call (.c (.fn 44 [])) [(qt 19)]), qm 6 20])
 (.seq (.reg [qm 21 6, qa 22 (.bin .neq (qt 21) (qi 0))])
 (.cond (qt 22)
 (.seq (.reg [qm 23 6, qm 2 23])
 .ret)
 .skip)))))
 (.reg [qa 24 (.bin .add (qt 15) (qi 1)), qm 15 24])))))))
 (.seq (.reg [qa 2 (.mv (qi 0))])
 .ret))))⟩
theorem c44 : compFn Tryd.prog Tryd.f44 = some i44 := by kernel_rfl
/-- bothy/bothyref13.leaf -/
def i45 : IFn := ⟨101, [.cell 2 7 true], (.seq (.reg [qa 2 (.box (.c (.agg [.x (.int .i64 (0)), .x (.str []), .x (.str []), .x (.str []), .x .nils, .x (.str []), .x .nils])))])
 (.seq (.reg [qa 3 (.mv (qi 0))])
 (.seq (.block 0
 (.loop
 (.seq (.seq (.reg [qm 7 3, qm 8 0, qa 9 (.len true (qt 8)), qa 10 (.bin .lss (qt 7) (qt 9)), qm 11 10, qn 12 0 11 true, qn 13 3 11 true, qg 14 (.idx (qt 12) (qt 13)) 11 true, qg 15 (.bin .neq (qt 14) (.c (.x (.int .u8 (61))))) 11 true, qa 16 (.pick (qt 11) (qt 15) (qb false))])
 (.cond (qt 16)
 .skip
 (.exit 0)))
 (.block 1
 (.reg [qm 17 3, qa 18 (.bin .add (qt 17) (qi 1)), qm 3 18])))))
 (.seq (.seq (.reg [qm 19 3, qm 20 0, qa 21 (.len true (qt 20)), qa 22 (.bin .eql (qt 19) (qt 21)), qm 23 22, qn 24 3 23 false, qg 25 (.bin .eql (qt 24) (qi 0)) 23 false, qa 26 (.pick (qt 23) (qb true) (qt 25))])
 (.cond (qt 26)
 (.seq (.reg [qa 27 (.build [.x (.int .i64 (0)), .x (.str []), .x (.str []), .x (.str []), .x .nils, .x (.str []), .x .nils] [(0, 1, (qi (-1)))]), ⟨none, .sto 7 (qt 2) (qt 27), none⟩])
 .ret)
 .skip))
 (.seq (.dreg 0 [] [qm 28 0, qm 29 3, qa 30 (.slc 0 (qt 28) none (some (qt 29)) none), qm 31 0, qm 32 3, qa 33 (.bin .add (qt 32) (qi 1)), qa 34 (.slc 0 (qt 31) (some (qt 33)) none none), qm 4 30, qm 5 34])
 (.seq (.seq (.reg [qm 35 4, qm 36 4, qa 37 (.len true (qt 36)), qa 38 (.bin .sub (qt 37) (qi 1)), qa 39 (.idx (qt 35) (qt 38))])
 (.block 2
 (.seq (.reg [qa 41 (.bin .eql (qt 39) (.c (.x (.int .u8 (62))))), qm 40 41])
 (.cond (qt 40)
 (.seq (.dreg 0 [] [qm 42 4, qm 43 4, qa 44 (.len true (qt 43)), qa 45 (.bin .sub (qt 44) (qi 1)), qa 46 (.slc 0 (qt 42) none (some (qt 45)) none), qm 47 5, qa 48 (.call (.c (.fn 68 [])) [(qt 47)]), qa 49 (.build [.x (.int .i64 (0)), .x (.str []), .x (.str []), .x (.str []), .x .nils, .x (.str []), .x .nils] [(0, 1, (qi 5)), (1, 1, (qt 46)), (2, 1, (qt 48))]), ⟨none, .sto 7 (qt 2) (qt 49), none⟩])
 .ret)
 (.seq (.reg [qa 51 (.bin .eql (qt 39) (.c (.x (.int .u8 (60))))), qm 50 51])
 (.cond (qt 50)
 (.seq (.dreg 0 [] [qm 52 4, qm 53 4, qa 54 (.len true (qt 53)), qa 55 (.bin .sub (qt 54) (qi 1)), qa 56 (.slc 0 (qt 52) none (some (qt 55)) none), qm 57 5, qa 58 (.call (.c (.fn 68 [])) [(qt 57)]), qa 59 (.build [.x (.int .i64 (0)), .x (.str []), .x (.str []), .x (.str []), .x .nils, .x (.str []), .x .nils] [(0, 1, (qi 6)), (1, 1, (qt 56)), (2, 1, (qt 58))]), ⟨none, .sto 7 (qt 2) (qt 59), none⟩])
 .ret)
 (.seq (.reg [qa 61 (.bin .eql (qt 39) (.c (.x (.int .u8 (126))))), qm 60 61])
 (.cond (qt 60)
 (.seq (.dreg 0 [] [qm 62 4, qm 63 4, qa 64 (.len true (qt 63)), qa 65 (.bin .sub (qt 64) (qi 1)), qa 66 (.slc 0 (qt 62) none (some (qt 65)) none), qm 67 5, qa 68 (.call (.c (.fn 68 [])) [(qt 67)]), qa 69 (.build [.x (.int .i64 (0)), .x (.str []), .x (.str []), .x (.str []), .x .nils, .x (.str []), .x .nils] [(0, 1, (qi 8)), (1, 1, (qt 66)), (2, 1, (qt 68))]), ⟨none, .sto 7 (qt 2) (qt 69), none⟩])
 .ret)
 .skip))))))))
 (.seq (.seq (.reg [qm 70 5, qa 71 (.bin .eql (qt 70) (qs [42]))])
 (.cond (qt 71)
 (.seq (.reg [qm 72 4, qa 73 (.build [.x (.int .i64 (0)), .x (.str []), .x (.str []), .x (.str []), .x .nils, .x (.str []), .x .nils] [(0, 1, (qi 7)), (1, 1, (qt 72))]), ⟨none, .sto 7 (qt 2) (qt 73), none⟩])
 .ret)
 .skip))
 (.seq (.reg [qm 74 5, qa 75 (.call (.c (.fn 69 [])) [(qt 74)]), qm 6 75])
 (.seq (.seq (.reg [qm 76 6, qa 77 (.len false (qt 76)), qa 78 (.bin .eql (qt 77) (qi 1))])
 (.cond (qt 78)
 (.seq (.reg [qm 79 4, qm 80 6, qa 81 (.iad 1 (qt 80) (qi 0)), qa 82 (.ld 1 false (qt 81)), qa 83 (.build [.x (.int .i64 (0)), .x (.str []), .x (.str []), .x (.str []), .x .nils, .x (.str []), .x .nils] [(0, 1, (qi 3)), (1, 1, (qt 79)), (2, 1, (qt 82))]), ⟨none, .sto 7 (qt 2) (qt 83), none⟩])
 .ret)
 .skip))
 (.seq (.dreg 15 [] [qm 84 4, qm 85 6, qa 86 (.iad 1 (qt 85) (qi 0)), qa 87 (.ld 1 false (qt 86)), qm 88 6, qm 89 6, qa 90 (.len false (qt 89)), qa 91 (.bin .sub (qt 90) (qi 1)), qa 92 (.slc 1 (qt 88) (some (qi 1)) (some (qt 91)) none), qm 93 6, qm 94 6, qa 95 (.len false (qt 94)), qa 96 (.bin .sub (qt 95) (qi 1)), qa 97 (.iad 1 (qt 93) (qt 96)), qa 98 (.ld 1 false (qt 97)), qa 99 (.build [.x (.str []), .x .nils, .x (.str [])] [(0, 1, (qt 87)), (1, 1, (qt 92)), (2, 1, (qt 98))]), qa 100 (.build [.x (.int .i64 (0)), .x (.str []), .x (.str []), .x (.str []), .x .nils, .x (.str []), .x .nils] [(0, 1, (qi 4)), (1, 1, (qt 84)), (3, 3, (qt 99))]), ⟨none, .sto 7 (qt 2) (qt 100), none⟩])
 .ret))))))))))⟩
theorem c45 : compFn Tryd.prog Tryd.f45 = some i45 := by kernel_rfl
/-- bothy/bothyref11.Check -/
def i46 : IFn := ⟨8, [.tmp 2], (.seq (.reg [qa 1 (.box (qt 0)), qa 2 (.mv (qi 0))])
 (.seq (.seq (.reg [qa 3 (.ld 7 true (qt 1)), qa 4 (.call (.c (.fn 70 [])) [(qt 3)]), qa 5 (.bin .gtr (qt 4) (qi 16))])
 (.cond (qt 5)
 (.seq (.reg [qa 2 (.mv (qi 7))])
 .ret)
 .skip))
 (.seq (.reg [qa 6 (.ld 7 true (qt 1)), qa 7 (.call (.c (.fn 71 [])) [(qt 6)]), qm 2 7])
 .ret)))⟩
theorem c46 : compFn Tryd.prog Tryd.f46 = some i46 := by kernel_rfl
/-- bothy/bothyref13.put -/
def i47 : IFn := ⟨123, [.tmp 2], (.seq (.reg [qa 1 (.box (qt 0)), qa 2 (.mv (qs []))])
 (.seq (.reg [qa 3 (.mv (qs [40]))])
 (.seq (.seq (.reg [qa 6 (.fad 0 (qt 1)), qa 7 (.ld 1 false (qt 6))])
 (.block 0
 (.seq (.reg [qa 44 (.bin .eql (qt 7) (qi 0)), qm 43 44])
 (.cond (qt 43)
 (.reg [qm 45 3, qa 46 (.bin .add (qt 45) (qs [38])), qm 3 46])
 (.seq (.reg [qa 48 (.bin .eql (qt 7) (qi 1)), qm 47 48])
 (.cond (qt 47)
 (.reg [qm 49 3, qa 50 (.bin .add (qt 49) (qs [124])), qm 3 50])
 (.seq (.reg [qa 52 (.bin .eql (qt 7) (qi 2)), qm 51 52])
 (.cond (qt 51)
 (.reg [qm 53 3, qa 54 (.bin .add (qt 53) (qs [33])), qm 3 54])
 (.seq (.reg [qa 56 (.bin .eql (qt 7) (qi 3)), qm 55 56])
 (.cond (qt 55)
 (.dreg 8 [] [qm 57 3, qa 58 (.fad 1 (qt 1)), qa 59 (.ld 1 false (qt 58)), qa 60 (.bin .add (qt 57) (qt 59)), qa 61 (.bin .add (qt 60) (qs [61])), qa 62 (.fad 2 (qt 1)), qa 63 (.ld 1 false (qt 62)), qa 64 (.call (.c (.fn 72 [])) [(qt 63)]), qa 65 (.bin .add (qt 61) (qt 64)), qm 3 65])
 (.seq (.reg [qa 67 (.bin .eql (qt 7) (qi 5)), qm 66 67])
 (.cond (qt 66)
 (.dreg 8 [] [qm 68 3, qa 69 (.fad 1 (qt 1)), qa 70 (.ld 1 false (qt 69)), qa 71 (.bin .add (qt 68) (qt 70)), qa 72 (.bin .add (qt 71) (qs [62, 61])), qa 73 (.fad 2 (qt 1)), qa 74 (.ld 1 false (qt 73)), qa 75 (.call (.c (.fn 72 [])) [(qt 74)]), qa 76 (.bin .add (qt 72) (qt 75)), qm 3 76])
 (.seq (.reg [qa 78 (.bin .eql (qt 7) (qi 6)), qm 77 78])
 (.cond (qt 77)
 (.dreg 8 [] [qm 79 3, qa 80 (.fad 1 (qt 1)), qa 81 (.ld 1 false (qt 80)), qa 82 (.bin .add (qt 79) (qt 81)), qa 83 (.bin .add (qt 82) (qs [60, 61])), qa 84 (.fad 2 (qt 1)), qa 85 (.ld 1 false (qt 84)), qa 86 (.call (.c (.fn 72 [])) [(qt 85)]), qa 87 (.bin .add (qt 83) (qt 86)), qm 3 87])
 (.seq (.reg [qa 89 (.bin .eql (qt 7) (qi 8)), qm 88 89])
 (.cond (qt 88)
 (.dreg 8 [] [qm 90 3, qa 91 (.fad 1 (qt 1)), qa 92 (.ld 1 false (qt 91)), qa 93 (.bin .add (qt 90) (qt 92)), qa 94 (.bin .add (qt 93) (qs [126, 61])), qa 95 (.fad 2 (qt 1)), qa 96 (.ld 1 false (qt 95)), qa 97 (.call (.c (.fn 72 [])) [(qt 96)]), qa 98 (.bin .add (qt 94) (qt 97)), qm 3 98])
 (.seq (.reg [qa 100 (.bin .eql (qt 7) (qi 7)), qm 99 100])
 (.cond (qt 99)
 (.reg [qm 101 3, qa 102 (.fad 1 (qt 1)), qa 103 (.ld 1 false (qt 102)), qa 104 (.bin .add (qt 101) (qt 103)), qa 105 (.bin .add (qt 104) (qs [61, 42])), qm 3 105])
 (.seq (.dreg 9 [] [qm 8 3, qa 9 (.fad 1 (qt 1)), qa 10 (.ld 1 false (qt 9)), qa 11 (.bin .add (qt 8) (qt 10)), qa 12 (.bin .add (qt 11) (qs [61])), qa 13 (.fad 3 (qt 1)), qa 14 (.fad 0 (qt 13)), qa 15 (.ld 1 false (qt 14)), qa 16 (.call (.c (.fn 72 [])) [(qt 15)]), qa 17 (.bin .add (qt 12) (qt 16)), qa 18 (.bin .add (qt 17) (qs [42])), qm 3 18])
 (.seq (.seq (.reg [qa 4 (.mv (qi 0))])
 (.block 1
 (.loop
 (.seq (.seq (.reg [qm 19 4, qa 20 (.fad 3 (qt 1)), qa 21 (.fad 1 (qt 20)), qa 22 (.ld 1 false (qt 21)), qa 23 (.len false (qt 22)), qa 24 (.bin .lss (qt 19) (qt 23))])
 (.cond (qt 24)
 .skip
 (.exit 1)))
 (.seq (.block 2
 (.reg [qm 27 3, qa 28 (.fad 3 (qt 1)), qa 29 (.fad 1 (qt 28)), qa 30 (.ld 1 false (qt 29)), qm 31 4, qa 32 (.iad 1 (qt 30) (qt 31)), qa 33 (.ld 1 false (qt 32)), qa 34 (.call (.c (.fn 72 [])) [(qt 33)]), qa 35 (.bin .add (qt 27) (qt 34)), qa 36 (.bin .add (qt 35) (qs [42])), qm 3 36]))
 (.reg [qm 25 4, qa 26 (.bin .add (qt 25) (qi 1)), qm 4 26]))))))
 (.reg [qm 37 3, qa 38 (.fad 3 (qt 1)), qa 39 (.fad 2 (qt 38)), qa 40 (.ld 1 false (qt 39)), qa 41 (.call (.c (.fn 72 [])) [(qt 40)]), qa 42 (.bin .add (qt 37) (qt 41)), qm 3 42])))))))))))))))))))))
 (.seq (.seq (.reg [qa 5 (.mv (qi 0))])
 (.block 3
 (.loop
 (.seq (.seq (.reg [qm 106 5, qa 107 (.fad 6 (qt 1)), qa 108 (.ld 1 false (qt 107)), qa 109 (.len false (qt 108)), qa 110 (.bin .lss (qt 106) (qt 109))])
 (.cond (qt 110)
 .skip
 (.exit 3)))
 (.seq (.block 4
 (.reg [qm 113 3, qa 114 (.fad 6 (qt 1)), qa 115 (.ld 1 false (qt 114)), qm 116 5, qa 117 (.iad 7 (qt 115) (qt 116)), qa 118 (.ld 7 true (qt 117)), qa 119 (.call (.c (.fn 47 [])) [(qt 118)]), qa 120 (.bin .add (qt 113) (qt 119)), qm 3 120]))
 (.reg [qm 111 5, qa 112 (.bin .add (qt 111) (qi 1)), qm 5 112]))))))
 (.seq (.reg [qm 121 3, qa 122 (.bin .add (qt 121) (qs [41])), qm 2 122])
 .ret)))))⟩
theorem c47 : compFn Tryd.prog Tryd.f47 = some i47 := by kernel_rfl
/-- bothy/bothyref11.Parts -/
def i48 : IFn := ⟨45, [.tmp 4], (.seq (.reg [qa 2 (.box (qt 0)), qa 3 (.box (qt 1)), qa 4 (.mv (qb false))])
 (.seq (.seq (.reg [qa 6 (.fad 0 (qt 2)), qa 7 (.ld 1 false (qt 6)), qa 8 (.fad 0 (qt 3)), qa 9 (.ld 1 false (qt 8)), qa 10 (.bin .neq (qt 7) (qt 9)), qm 11 10, qg 12 (.fad 2 (qt 2)) 11 false, qg 13 (.ld 1 false (qt 12)) 11 false, qg 14 (.fad 2 (qt 3)) 11 false, qg 15 (.ld 1 false (qt 14)) 11 false, qg 16 (.bin .neq (qt 13) (qt 15)) 11 false, qa 17 (.pick (qt 11) (qb true) (qt 16)), qm 18 17, qg 19 (.fad 1 (qt 2)) 18 false, qg 20 (.ld 1 false (qt 19)) 18 false, qg 21 (.len false (qt 20)) 18 false, qg 22 (.fad 1 (qt 3)) 18 false, qg 23 (.ld 1 false (qt 22)) 18 false, qg 24 (.len false (qt 23)) 18 false, qg 25 (.bin .neq (qt 21) (qt 24)) 18 false, qa 26 (.pick (qt 18) (qb true) (qt 25))])
 (.cond (qt 26)
 (.seq (.reg [qa 4 (.mv (qb false))])
 .ret)
 .skip))
 (.seq (.seq (.reg [qa 5 (.mv (qi 0))])
 (.block 0
 (.loop
 (.seq (.seq (.reg [qm 27 5, qa 28 (.fad 1 (qt 2)), qa 29 (.ld 1 false (qt 28)), qa 30 (.len false (qt 29)), qa 31 (.bin .lss (qt 27) (qt 30))])
 (.cond (qt 31)
 .skip
 (.exit 0)))
 (.seq (.block 1
 (.seq (.dreg 10 [] [qa 34 (.fad 1 (qt 2)), qa 35 (.ld 1 false (qt 34)), qm 36 5, qa 37 (.iad 1 (qt 35) (qt 36)), qa 38 (.ld 1 false (qt 37)), qa 39 (.fad 1 (qt 3)), qa 40 (.ld 1 false (qt 39)), qm 41 5, qa 42 (.iad 1 (qt 40) (qt 41)), qa 43 (.ld 1 false (qt 42)), qa 44 (.bin .neq (qt 38) (qt 43))])
 (.cond (qt 44)
 (.seq (.reg [qa 4 (.mv (qb false))])
 .ret)
 .skip)))
 (.reg [qm 32 5, qa 33 (.bin .add (qt 32) (qi 1)), qm 5 33]))))))
 (.seq (.reg [qa 4 (.mv (qb true))])
 .ret))))⟩
theorem c48 : compFn Tryd.prog Tryd.f48 = some i48 := by kernel_rfl
/-- bothy/ftext.inner -/
def i60 : IFn := ⟨82, [.tmp 2], (.seq (.reg [qa 1 (.box (qt 0)), qa 2 (.mv (qs []))])
 (.seq (.seq (.reg [qa 9 (.fad 0 (qt 1)), qa 10 (.ld 1 false (qt 9))])
 (.block 0
 (.seq (.seq (.reg [qa 12 (.bin .eql (qt 10) (qi 0)), qm 11 12])
 (.cond (qt 11)
 .skip
 (.seq (.reg [qa 13 (.bin .eql (qt 10) (qi 1)), qm 11 13])
 (.cond (qt 11)
 .skip
 (.reg [qa 14 (.bin .eql (qt 10) (qi 2)), qm 11 14])))))
 (.cond (qt 11)
 (.seq (.reg [qa 15 (.fad 0 (qt 1)), qa 16 (.ld 1 false (qt 15)), qa 17 (.fad 0 (qt 1)), qa 18 (.ld 1 false (qt 17)), qa 19 (.bin .add (qt 18) (qi 1)), qa 20 (.slc 0 (qs [38, 124, 33]) (some (qt 16)) (some (qt 19)) none), qm 3 20])
 (.seq (.seq (.reg [qa 21 (.fad 6 (qt 1)), qa 22 (.ld 1 false (qt 21)), qa 23 (.len false (qt 22)), qa 24 (.mv (qi 0))])
 (.block 1
 (.loop
 (.seq (.reg [qa 25 (.bin .lss (qt 24) (qt 23))])
 (.seq (.cond (qt 25)
 .skip
 (.exit 1))
 (.seq (.block 2
 (.seq (.reg [qa 26 (.iad 7 (qt 22) (qt 24)), qa 27 (.ld 7 true (qt 26)), qa 5 (.box (.c (.agg [.x (.int .i64 (0)), .x (.str []), .x (.str []), .x (.str []), .x .nils, .x (.str []), .x .nils]))), ⟨none, .sto 7 (qt 5) (qt 27), none⟩])
 (.reg [qm 28 3, qa 29 (.ld 7 true (qt 5)), qa 30 (.call (.c (.fn 39 [])) [(qt 29)]), qa 31 (.bin .add (qt 28) (qt 30)), qm 3 31])))
 (.reg [qa 32 (.bin .add (qt 24) (qi 1)), qm 24 32])))))))
 (.seq (.reg [qm 33 3, qm 2 33])
 .ret)))
 (.seq (.reg [qa 35 (.bin .eql (qt 10) (qi 7)), qm 34 35])
 (.cond (qt 34)
 (.seq (.reg [qa 36 (.fad 1 (qt 1)), qa 37 (.ld 1 false (qt 36)), qa 38 (.bin .add (qt 37) (qs [61, 42])), qm 2 38])
 .ret)
 (.seq (.reg [qa 40 (.bin .eql (qt 10) (qi 4)), qm 39 40])
 (.cond (qt 39)
 (.seq (.reg [qa 41 (.fad 3 (qt 1)), qa 42 (.fad 0 (qt 41)), qa 43 (.ld 1 false (qt 42)), qa 44 (.call (.c (.fn 19 [])) [(qt 43)]), qa 45 (.bsl 9 1 1 [(qt 44)]), qm 6 45])
 (.seq (.seq (.reg [qa 46 (.fad 3 (qt 1)), qa 47 (.fad 1 (qt 46)), qa 48 (.ld 1 false (qt 47)), qa 49 (.len false (qt 48)), qa 50 (.mv (qi 0))])
 (.block 3
 (.loop
 (.seq (.reg [qa 51 (.bin .lss (qt 50) (qt 49))])
 (.seq (.cond (qt 51)
 .skip
 (.exit 3))
 (.seq (.block 4
 (.seq (.reg [qa 52 (.iad 1 (qt 48) (qt 50)), qa 53 (.ld 1 false (qt 52)), qm 8 53])
 (.reg [qm 54 6, qm 55 8, qa 56 (.call (.c (.fn 19 [])) [(qt 55)]), qa 57 (.bsl 9 1 1 [(qt 56)]), qa 58 (.app 9 1 16 (qt 54) (qt 57)), qm 6 58])))
 (.reg [qa 59 (.bin .add (qt 50) (qi 1)), qm 50 59])))))))
 (.seq (.dreg 0 [1] [qa 60 (.fad 1 (qt 1)), qa 61 (.ld 1 false (qt 60)), qa 62 (.bin .add (qt 61) (qs [61])), qm 63 6, qa 64 (.fad 3 (qt 1)), qa 65 (.fad 2 (qt 64)), qa 66 (.ld 1 false (qt 65)), qa 67 (.call (.c (.fn 19 [])) [(qt 66)]), qa 68 (.bsl 9 1 1 [(qt 67)]), qa 69 (.app 9 1 16 (qt 63) (qt 68)), qa 70 (.call (.c (.fn 30 [])) [(qt 69), (qs [42])]), qa 71 (.bin .add (qt 62) (qt 70)), qm 2 71])
 .ret)))
 .skip))))))))
 (.seq (.dreg 9 [] [qa 72 (.fad 1 (qt 1)), qa 73 (.ld 1 false (qt 72)), qa 74 (.fad 0 (qt 1)), qa 75 (.ld 1 false (qt 74)), qa 76 (.call (.c (.fn 62 [])) [(qt 75)]), qa 77 (.bin .add (qt 73) (qt 76)), qa 78 (.fad 2 (qt 1)), qa 79 (.ld 1 false (qt 78)), qa 80 (.call (.c (.fn 19 [])) [(qt 79)]), qa 81 (.bin .add (qt 77) (qt 80)), qm 2 81])
 .ret)))⟩
theorem c60 : compFn Tryd.prog Tryd.f60 = some i60 := by kernel_rfl
/-- bothy/ftext.sign -/
def i62 : IFn := ⟨10, [.tmp 2], (.seq (.reg [qa 2 (.mv (qs []))])
 (.seq (.seq (.reg [qm 3 0])
 (.block 0
 (.seq (.reg [qa 5 (.bin .eql (qt 3) (qi 5)), qm 4 5])
 (.cond (qt 4)
 (.seq (.reg [qa 2 (.mv (qs [62, 61]))])
 .ret)
 (.seq (.reg [qa 7 (.bin .eql (qt 3) (qi 6)), qm 6 7])
 (.cond (qt 6)
 (.seq (.reg [qa 2 (.mv (qs [60, 61]))])
 .ret)
 (.seq (.reg [qa 9 (.bin .eql (qt 3) (qi 8)), qm 8 9])
 (.cond (qt 8)
 (.seq (.reg [qa 2 (.mv (qs [126, 61]))])
 .ret)
 .skip))))))))
 (.seq (.reg [qa 2 (.mv (qs [61]))])
 .ret)))⟩
theorem c62 : compFn Tryd.prog Tryd.f62 = some i62 := by kernel_rfl
/-- bothy/ftext.subs -/
def i64 : IFn := ⟨43, [.cell 2 3 true, .tmp 3], (.seq (.reg [qa 2 (.box (.c (.agg [.x (.str []), .x .nils, .x (.str [])]))), qa 3 (.mv (qb false))])
 (.seq (.reg [qa 4 (.mv (.c (.x .nils)))])
 (.seq (.seq (.reg [qm 10 0, qa 11 (.len false (qt 10)), qa 12 (.mv (qi 0))])
 (.block 0
 (.loop
 (.seq (.reg [qa 13 (.bin .lss (qt 12) (qt 11))])
 (.seq (.cond (qt 13)
 .skip
 (.exit 0))
 (.seq (.block 1
 (.seq (.reg [qa 14 (.iad 1 (qt 10) (qt 12)), qa 15 (.ld 1 false (qt 14)), qm 6 15])
 (.seq (.reg [qm 17 6, qa 18 (.call (.c (.fn 65 [])) [(qt 17)]), qm 16 18, qa 19 (.ext (qt 16) 0), qa 20 (.ext (qt 16) 1), qm 7 19, qm 8 20])
 (.seq (.seq (.reg [qm 21 8, qa 22 (.un .not (qt 21))])
 (.cond (qt 22)
 (.seq (.reg [qa 23 (.build [.x (.str []), .x .nils, .x (.str [])] []), ⟨none, .sto 3 (qt 2) (qt 23), none⟩, qa 3 (.mv (qb false))])
 .ret)
 .skip))
 (.reg [qm 24 4, qm 25 7, qa 26 (.bsl 9 1 1 [(qt 25)]), qa 27 (.app 9 1 16 (qt 24) (qt 26)), qm 4 27])))))
 (.reg [qa 28 (.bin .add (qt 12) (qi 1)), qm 12 28])))))))
 (.seq (.reg [qm 29 4, qa 30 (.len false (qt 29)), qa 31 (.bin .sub (qt 30) (qi 1)), qm 9 31])
 (.seq (.dreg 10 [] [qm 32 4, qa 33 (.iad 1 (qt 32) (qi 0)), qa 34 (.ld 1 false (qt 33)), qm 35 4, qm 36 9, qa 37 (.slc 1 (qt 35) (some (qi 1)) (some (qt 36)) none), qm 38 4, qm 39 9, qa 40 (.iad 1 (qt 38) (qt 39)), qa 41 (.ld 1 false (qt 40)), qa 42 (.build [.x (.str []), .x .nils, .x (.str [])] [(0, 1, (qt 34)), (1, 1, (qt 37)), (2, 1, (qt 41))]), ⟨none, .sto 3 (qt 2) (qt 42), none⟩, qa 3 (.mv (qb true))])
 .ret)))))⟩
theorem c64 : compFn Tryd.prog Tryd.f64 = some i64 := by kernel_rfl
/-- bothy/ftext.value -/
def i65 : IFn := ⟨69, [.tmp 2, .tmp 3], (.seq (.reg [qa 2 (.mv (qs [])), qa 3 (.mv (qb false))])
 (.seq (.reg [qa 4 (.mv (.c (.x .nils)))])
 (.seq (.seq (.reg [qa 5 (.mv (qi 0))])
 (.block 0
 (.loop
 (.seq (.seq (.reg [qm 11 5, qm 12 0, qa 13 (.len true (qt 12)), qa 14 (.bin .lss (qt 11) (qt 13))])
 (.cond (qt 14)
 .skip
 (.exit 0)))
 (.seq (.block 1
 (.seq (.reg [qm 17 0, qm 18 5, qa 19 (.idx (qt 17) (qt 18)), qm 6 19])
 (.seq (.seq (.reg [qm 20 6, qa 21 (.bin .neq (qt 20) (.c (.x (.int .u8 (92)))))])
 (.cond (qt 21)
 (.seq (.reg [qm 22 4, qm 23 6, qa 24 (.bsl 5 1 1 [(qt 23)]), qa 25 (.app 5 1 1 (qt 22) (qt 24)), qm 4 25])
 (.exit 1))
 .skip))
 (.seq (.seq (.reg [qm 26 0, qa 27 (.len true (qt 26)), qm 28 5, qa 29 (.bin .sub (qt 27) (qt 28)), qa 30 (.bin .lss (qt 29) (qi 3))])
 (.cond (qt 30)
 (.seq (.reg [qa 2 (.mv (qs [])), qa 3 (.mv (qb false))])
 .ret)
 .skip))
 (.seq (.reg [qm 32 0, qm 33 5, qa 34 (.bin .add (qt 33) (qi 1)), qa 35 (.idx (qt 32) (qt 34)), qa 36 (.call (.c (.fn 89 [])) [(qt 35)]), qm 31 36, qa 37 (.ext (qt 31) 0), qa 38 (.ext (qt 31) 1), qm 7 37, qm 8 38])
 (.seq (.reg [qm 40 0, qm 41 5, qa 42 (.bin .add (qt 41) (qi 2)), qa 43 (.idx (qt 40) (qt 42)), qa 44 (.call (.c (.fn 89 [])) [(qt 43)]), qm 39 44, qa 45 (.ext (qt 39) 0), qa 46 (.ext (qt 39) 1), qm 9 45, qm 10 46])
 (.seq (.seq (.reg [qm 47 8, qa 48 (.un .not (qt 47)), qm 49 48, qn 50 10 49 false, qg 51 (.un .not (qt 50)) 49 false, qa 52 (.pick (qt 49) (qb true) (qt 51))])
 (.cond (qt 52)
 (.seq (.reg [qa 2 (.mv (qs [])), qa 3 (.mv (qb false))])
 .ret)
 .skip))
 (.seq (.reg [qm 53 4, qm 54 7, qa 55 (.bin .shl (qt 54) (.c (.x (.int .u64 (4))))), qm 56 9, qa 57 (.bin .or (qt 55) (qt 56)), qa 58 (.bsl 5 1 1 [(qt 57)]), qa 59 (.app 5 1 1 (qt 53) (qt 58)), qm 4 59])
 (.reg [qm 60 5, qa 61 (.bin .add (qt 60) (qi 2)), qm 5 61])))))))))
 (.reg [qm 15 5, qa 16 (.bin .add (qt 15) (qi 1)), qm 5 16]))))))
 (.seq (.dreg 5 [] [qm 62 4, qa 63 (.b2s (qt 62)), qm 64 4, qa 65 (.b2s (qt 64)), qa 66 (.call (.c (.fn 19 [])) [(qt 65)]), qm 67 0, qa 68 (.bin .eql (qt 66) (qt 67)), qm 2 63, qm 3 68])
 .ret))))⟩
theorem c65 : compFn Tryd.prog Tryd.f65 = some i65 := by kernel_rfl
/-- bothy/filter.depth -/
def i66 : IFn := ⟨26, [.tmp 4], (.seq (.reg [qa 2 (.box (qt 0)), qa 4 (.mv (qi 0))])
 (.seq (.reg [qa 5 (.mv (qi 0))])
 (.seq (.seq (.reg [qm 8 1, qa 9 (.bin .gtr (qt 8) (qi 0))])
 (.cond (qt 9)
 (.seq (.reg [qa 10 (.fad 6 (qt 2)), qa 11 (.ld 1 false (qt 10)), qa 12 (.len false (qt 11)), qa 13 (.mv (qi 0))])
 (.block 0
 (.loop
 (.seq (.reg [qa 14 (.bin .lss (qt 13) (qt 12))])
 (.seq (.cond (qt 14)
 .skip
 (.exit 0))
 (.seq (.block 1
 (.seq (.reg [qa 15 (.iad 7 (qt 11) (qt 13)), qa 16 (.ld 7 true (qt 15)), qa 7 (.box (.c (.agg [.x (.int .i64 (0)), .x (.str []), .x (.str []), .x (.str []), .x .nils, .x (.str []), .x .nils]))), ⟨none, .sto 7 (qt 7) (qt 16), none⟩])
 (.reg [qm 17 5, qa 18 (.ld 7 true (qt 7)), qm 19 1, qa 20 (.bin .sub (qt 19) (qi 1)), qa 21 (.call (.c (.fn 66 [])) [(qt 18), (qt 20)]), qa 22 (.mnx true (qt 17) (qt 21)), qm 5 22])))
 (.reg [qa 23 (.bin .add (qt 13) (qi 1)), qm 13 23])))))))
 .skip))
 (.seq (.reg [qm 24 5, qa 25 (.bin .add (qt 24) (qi 1)), qm 4 25])
 .ret))))⟩
theorem c66 : compFn Tryd.prog Tryd.f66 = some i66 := by kernel_rfl
/-- bothy/filter.one -/
def i67 : IFn := ⟨49, [.tmp 2], (.seq (.reg [qa 1 (.box (qt 0)), qa 2 (.mv (qi 0))])
 (.seq (.block 0
 (.seq (.reg [qa 6 (.fad 0 (qt 1)), qa 7 (.ld 1 false (qt 6)), qa 8 (.bin .lss (qt 7) (qi 0)), qm 9 8, qg 10 (.fad 0 (qt 1)) 9 false, qg 11 (.ld 1 false (qt 10)) 9 false, qg 12 (.bin .gtr (qt 11) (qi 8)) 9 false, qa 13 (.pick (qt 9) (qb true) (qt 12)), qm 5 13])
 (.cond (qt 5)
 (.seq (.reg [qa 2 (.mv (qi 1))])
 .ret)
 (.seq (.reg [qa 15 (.fad 6 (qt 1)), qa 16 (.ld 1 false (qt 15)), qa 17 (.len false (qt 16)), qa 18 (.bin .gtr (qt 17) (qi 64)), qm 14 18])
 (.cond (qt 14)
 (.seq (.reg [qa 2 (.mv (qi 3))])
 .ret)
 (.seq (.reg [qa 20 (.ld 7 true (qt 1)), qa 21 (.call (.c (.fn 90 [])) [(qt 20)]), qa 22 (.un .not (qt 21)), qm 19 22])
 (.cond (qt 19)
 (.seq (.reg [qa 2 (.mv (qi 5))])
 .ret)
 (.seq (.reg [qa 24 (.fad 0 (qt 1)), qa 25 (.ld 1 false (qt 24)), qa 26 (.bin .gtr (qt 25) (qi 2)), qm 27 26, qg 28 (.fad 1 (qt 1)) 27 true, qg 29 (.ld 1 false (qt 28)) 27 true, qg 30 (.call (.c (.fn 91 [])) [(qt 29)]) 27 true, qg 31 (.un .not (qt 30)) 27 true, qa 32 (.pick (qt 27) (qt 31) (qb false)), qm 23 32])
 (.cond (qt 23)
 (.seq (.reg [qa 2 (.mv (qi 13))])
 .ret)
 .skip)))))))))
 (.seq (.seq (.dreg 6 [] [qa 33 (.fad 3 (qt 1)), qa 34 (.ld 3 true (qt 33)), qa 35 (.call (.c (.fn 92 [])) [(qt 34)]), qa 36 (.fad 2 (qt 1)), qa 37 (.ld 1 false (qt 36)), qa 38 (.bsl 9 1 1 [(qt 37)]), qa 39 (.app 9 1 16 (qt 35) (qt 38)), qa 40 (.len false (qt 39)), qa 41 (.mv (qi 0))])
 (.block 1
 (.loop
 (.seq (.reg [qa 42 (.bin .lss (qt 41) (qt 40))])
 (.seq (.cond (qt 42)
 .skip
 (.exit 1))
 (.seq (.block 2
 (.seq (.reg [qa 43 (.iad 1 (qt 39) (qt 41)), qa 44 (.ld 1 false (qt 43)), qm 4 44])
 (.seq (.reg [qm 45 4, qa 46 (.len true (qt 45)), qa 47 (.bin .gtr (qt 46) (qi 1024))])
 (.cond (qt 47)
 (.seq (.reg [qa 2 (.mv (qi 3))])
 .ret)
 .skip))))
 (.reg [qa 48 (.bin .add (qt 41) (qi 1)), qm 41 48])))))))
 (.seq (.reg [qa 2 (.mv (qi 0))])
 .ret))))⟩
theorem c67 : compFn Tryd.prog Tryd.f67 = some i67 := by kernel_rfl
/-- bothy/bothyref13.value -/
def i68 : IFn := ⟨63, [.tmp 2], (.seq (.reg [qa 2 (.mv (qs []))])
 (.seq (.reg [qa 3 (.mv (.c (.x .nils)))])
 (.seq (.seq (.reg [qa 4 (.mv (qi 0))])
 (.block 0
 (.loop
 (.seq (.seq (.reg [qm 5 4, qm 6 0, qa 7 (.len true (qt 6)), qa 8 (.bin .lss (qt 5) (qt 7))])
 (.cond (qt 8)
 .skip
 (.exit 0)))
 (.seq (.block 1
 (.seq (.seq (.reg [qm 11 0, qm 12 4, qa 13 (.idx (qt 11) (qt 12)), qa 14 (.bin .eql (qt 13) (.c (.x (.int .u8 (92))))), qm 15 14, qn 16 4 15 true, qg 17 (.bin .add (qt 16) (qi 2)) 15 true, qn 18 0 15 true, qg 19 (.len true (qt 18)) 15 true, qg 20 (.bin .lss (qt 17) (qt 19)) 15 true, qa 21 (.pick (qt 15) (qt 20) (qb false)), qm 22 21, qn 23 0 22 true, qn 24 4 22 true, qg 25 (.bin .add (qt 24) (qi 1)) 22 true, qg 26 (.idx (qt 23) (qt 25)) 22 true, qg 27 (.call (.c (.fn 93 [])) [(qt 26)]) 22 true, qg 28 (.bin .lss (qt 27) (.c (.x (.int .u8 (16))))) 22 true, qa 29 (.pick (qt 22) (qt 28) (qb false)), qm 30 29, qn 31 0 30 true, qn 32 4 30 true, qg 33 (.bin .add (qt 32) (qi 2)) 30 true, qg 34 (.idx (qt 31) (qt 33)) 30 true, qg 35 (.call (.c (.fn 93 [])) [(qt 34)]) 30 true, qg 36 (.bin .lss (qt 35) (.c (.x (.int .u8 (16))))) 30 true, qa 37 (.pick (qt 30) (qt 36) (qb false))])
 (.cond (qt 37)
 (.seq (.dreg 0 [] [qm 38 3, qm 39 0, qm 40 4, qa 41 (.bin .add (qt 40) (qi 1)), qa 42 (.idx (qt 39) (qt 41)), qa 43 (.call (.c (.fn 93 [])) [(qt 42)]), qa 44 (.bin .mul (qt 43) (.c (.x (.int .u8 (16))))), qm 45 0, qm 46 4, qa 47 (.bin .add (qt 46) (qi 2)), qa 48 (.idx (qt 45) (qt 47)), qa 49 (.call (.c (.fn 93 [])) [(qt 48)]), qa 50 (.bin .add (qt 44) (qt 49)), qa 51 (.bsl 5 1 1 [(qt 50)]), qa 52 (.app 5 1 1 (qt 38) (qt 51)), qm 3 52])
 (.seq (.reg [qm 53 4, qa 54 (.bin .add (qt 53) (qi 2)), qm 4 54])
 (.exit 1)))
 .skip))
 (.reg [qm 55 3, qm 56 0, qm 57 4, qa 58 (.idx (qt 56) (qt 57)), qa 59 (.bsl 5 1 1 [(qt 58)]), qa 60 (.app 5 1 1 (qt 55) (qt 59)), qm 3 60])))
 (.reg [qm 9 4, qa 10 (.bin .add (qt 9) (qi 1)), qm 4 10]))))))
 (.seq (.reg [qm 61 3, qa 62 (.b2s (qt 61)), qm 2 62])
 .ret))))⟩
theorem c68 : compFn Tryd.prog Tryd.f68 = some i68 := by kernel_rfl
/-- bothy/bothyref13.stars -/
def i69 : IFn := ⟨33, [.tmp 2], (.seq (.reg [qa 2 (.mv (.c (.x .nils)))])
 (.seq (.reg [qa 3 (.mv (.c (.x .nils)))])
 (.seq (.reg [qa 4 (.mv (qi 0))])
 (.seq (.seq (.reg [qa 5 (.mv (qi 0))])
 (.block 0
 (.loop
 (.seq (.seq (.reg [qm 6 5, qm 7 0, qa 8 (.len true (qt 7)), qa 9 (.bin .lss (qt 6) (qt 8))])
 (.cond (qt 9)
 .skip
 (.exit 0)))
 (.seq (.block 1
 (.seq (.reg [qm 12 0, qm 13 5, qa 14 (.idx (qt 12) (qt 13)), qa 15 (.bin .eql (qt 14) (.c (.x (.int .u8 (42)))))])
 (.cond (qt 15)
 (.seq (.reg [qm 16 3, qm 17 0, qm 18 4, qm 19 5, qa 20 (.slc 0 (qt 17) (some (qt 18)) (some (qt 19)) none), qa 21 (.call (.c (.fn 68 [])) [(qt 20)]), qa 22 (.bsl 9 1 1 [(qt 21)]), qa 23 (.app 9 1 16 (qt 16) (qt 22)), qm 3 23])
 (.reg [qm 24 5, qa 25 (.bin .add (qt 24) (qi 1)), qm 4 25]))
 .skip)))
 (.reg [qm 10 5, qa 11 (.bin .add (qt 10) (qi 1)), qm 5 11]))))))
 (.seq (.reg [qm 26 3, qm 27 0, qm 28 4, qa 29 (.slc 0 (qt 27) (some (qt 28)) none none), qa 30 (.call (.c (.fn 68 [])) [(qt 29)]), qa 31 (.bsl 9 1 1 [(qt 30)]), qa 32 (.app 9 1 16 (qt 26) (qt 31)), qm 2 32])
 .ret)))))⟩
theorem c69 : compFn Tryd.prog Tryd.f69 = some i69 := by kernel_rfl
/-- bothy/bothyref11.Depth -/
def i70 : IFn := ⟨5, [.tmp 2], (.seq (.reg [qa 1 (.box (qt 0)), qa 2 (.mv (qi 0))])
 (.seq (.reg [qa 3 (.ld 7 true (qt 1)), qa 4 (.call (.c (.fn 94 [])) [(qt 3), (qi 64)]), qm 2 4])
 .ret))⟩
theorem c70 : compFn Tryd.prog Tryd.f70 = some i70 := by kernel_rfl
/-- bothy/bothyref11.all -/
def i71 : IFn := ⟨27, [.tmp 2], (.seq (.reg [qa 1 (.box (qt 0)), qa 2 (.mv (qi 0))])
 (.seq (.seq (.reg [qa 6 (.ld 7 true (qt 1)), qa 7 (.call (.c (.fn 95 [])) [(qt 6)]), qm 3 7])
 (.seq (.reg [qm 8 3, qa 9 (.bin .neq (qt 8) (qi 0))])
 (.cond (qt 9)
 (.seq (.reg [qm 10 3, qm 2 10])
 .ret)
 .skip)))
 (.seq (.seq (.reg [qa 4 (.mv (qi 0))])
 (.block 0
 (.loop
 (.seq (.seq (.reg [qm 11 4, qa 12 (.fad 6 (qt 1)), qa 13 (.ld 1 false (qt 12)), qa 14 (.len false (qt 13)), qa 15 (.bin .lss (qt 11) (qt 14))])
 (.cond (qt 15)
 .skip
 (.exit 0)))
 (.seq (.block 1
 (.seq (.reg [qa 18 (.fad 6 (qt 1)), qa 19 (.ld 1 false (qt 18)), qm 20 4, qa 21 (.iad 7 (qt 19) (qt 20)), qa 22 (.ld 7 true (qt 21)), qa 23 (.call (.c (.fn 71 [])) [(qt 22)]), qm 5 23])
 (.seq (.reg [qm 24 5, qa 25 (.bin .neq (qt 24) (qi 0))])
 (.cond (qt 25)
 (.seq (.reg [qm 26 5, qm 2 26])
 .ret)
 .skip))))
 (.reg [qm 16 4, qa 17 (.bin .add (qt 16) (qi 1)), qm 4 17]))))))
 (.seq (.reg [qa 2 (.mv (qi 0))])
 .ret))))⟩
theorem c71 : compFn Tryd.prog Tryd.f71 = some i71 := by kernel_rfl
/-- bothy/bothyref13.Escape -/
def i72 : IFn := ⟨64, [.tmp 2], (.seq (.reg [qa 2 (.mv (qs []))])
 (.seq (.reg [qa 3 (.mv (qs [48, 49, 50, 51, 52, 53, 54, 55, 56, 57, 97, 98, 99, 100, 101, 102]))])
 (.seq (.reg [qa 4 (.mv (qs []))])
 (.seq (.seq (.reg [qa 5 (.mv (qi 0))])
 (.block 0
 (.loop
 (.seq (.seq (.reg [qm 7 5, qm 8 0, qa 9 (.len true (qt 8)), qa 10 (.bin .lss (qt 7) (qt 9))])
 (.cond (qt 10)
 .skip
 (.exit 0)))
 (.seq (.block 1
 (.seq (.reg [qm 13 0, qm 14 5, qa 15 (.idx (qt 13) (qt 14)), qm 6 15])
 (.seq (.reg [qm 16 6, qa 17 (.bin .eql (qt 16) (.c (.x (.int .u8 (42))))), qm 18 17, qn 19 6 18 false, qg 20 (.bin .eql (qt 19) (.c (.x (.int .u8 (40))))) 18 false, qa 21 (.pick (qt 18) (qb true) (qt 20)), qm 22 21, qn 23 6 22 false, qg 24 (.bin .eql (qt 23) (.c (.x (.int .u8 (41))))) 22 false, qa 25 (.pick (qt 22) (qb true) (qt 24)), qm 26 25, qn 27 6 26 false, qg 28 (.bin .eql (qt 27) (.c (.x (.int .u8 (92))))) 26 false, qa 29 (.pick (qt 26) (qb true) (qt 28)), qm 30 29, qn 31 6 30 false, qg 32 (.bin .lss (qt 31) (.c (.x (.int .u8 (32))))) 30 false, qa 33 (.pick (qt 30) (qb true) (qt 32)), qm 34 33, qn 35 6 34 false, qg 36 (.bin .gtr (qt 35) (.c (.x (.int .u8 (126))))) 34 false, qa 37 (.pick (qt 34) (qb true) (qt 36))])
 (.cond (qt 37)
 (.dreg 0 [] [qm 38 4, qa 39 (.bin .add (qt 38) (qs [92])), qm 40 3, qm 41 6, qa 42 (.bin .quo (qt 41) (.c (.x (.int .u8 (16))))), qm 43 6, qa 44 (.bin .quo (qt 43) (.c (.x (.int .u8 (16))))), qa 45 (.bin .add (qt 44) (.c (.x (.int .u8 (1))))), qa 46 (.slc 0 (qt 40) (some (qt 42)) (some (qt 45)) none), qa 47 (.bin .add (qt 39) (qt 46)), qm 48 3, qm 49 6, qa 50 (.bin .rem (qt 49) (.c (.x (.int .u8 (16))))), qm 51 6, qa 52 (.bin .rem (qt 51) (.c (.x (.int .u8 (16))))), qa 53 (.bin .add (qt 52) (.c (.x (.int .u8 (1))))), qa 54 (.slc 0 (qt 48) (some (qt 50)) (some (qt 53)) none), qa 55 (.bin .add (qt 47) (qt 54)), qm 4 55])
 (.reg [qm 56 4, qm 57 0, qm 58 5, qm 59 5, qa 60 (.bin .add (qt 59) (qi 1)), qa 61 (.slc 0 (qt 57) (some (qt 58)) (some (qt 60)) none), qa 62 (.bin .add (qt 56) (qt 61)), qm 4 62])))))
 (.reg [qm 11 5, qa 12 (.bin .add (qt 11) (qi 1)), qm 5 12]))))))
 (.seq (.reg [qm 63 4, qm 2 63])
 .ret)))))⟩
theorem c72 : compFn Tryd.prog Tryd.f72 = some i72 := by kernel_rfl
/-- bothy/fold.Lower -/
def i73 : IFn := ⟨30, [.tmp 2], (.seq (.reg [qa 2 (.mv (qs []))])
 (.seq (.reg [qm 6 0, qa 7 (.s2b 5 (qt 6)), qm 3 7])
 (.seq (.seq (.reg [qm 8 3, qa 9 (.len false (qt 8)), qa 10 (.mv (qi 0))])
 (.block 0
 (.loop
 (.seq (.reg [qa 11 (.bin .lss (qt 10) (qt 9))])
 (.seq (.cond (qt 11)
 .skip
 (.exit 0))
 (.seq (.block 1
 (.seq (.reg [qm 12 10, qa 13 (.iad 1 (qt 8) (qt 10)), qa 14 (.ld 1 false (qt 13)), qm 4 12, qm 5 14])
 (.seq (.reg [qm 15 5, qa 16 (.bin .geq (qt 15) (.c (.x (.int .u8 (65))))), qm 17 16, qn 18 5 17 true, qg 19 (.bin .leq (qt 18) (.c (.x (.int .u8 (90))))) 17 true, qa 20 (.pick (qt 17) (qt 19) (qb false))])
 (.cond (qt 20)
 (.reg [qm 21 3, qm 22 4, qm 23 5, qa 24 (.bin .sub (qt 23) (.c (.x (.int .u8 (65))))), qa 25 (.bin .add (qt 24) (.c (.x (.int .u8 (97))))), qa 26 (.iad 1 (qt 21) (qt 22)), ⟨none, .sto 1 (qt 26) (qt 25), none⟩])
 .skip))))
 (.reg [qa 27 (.bin .add (qt 10) (qi 1)), qm 10 27])))))))
 (.seq (.reg [qm 28 3, qa 29 (.b2s (qt 28)), qm 2 29])
 .ret))))⟩
theorem c73 : compFn Tryd.prog Tryd.f73 = some i73 := by kernel_rfl
/-- bothy/filter.fits -/
def i90 : IFn := ⟨74, [.tmp 2], (.seq (.reg [qa 1 (.box (qt 0)), qa 2 (.mv (qb false))])
 (.seq (.seq (.reg [qa 3 (.fad 0 (qt 1)), qa 4 (.ld 1 false (qt 3))])
 (.block 0
 (.seq (.seq (.reg [qa 6 (.bin .eql (qt 4) (qi 0)), qm 5 6])
 (.cond (qt 5)
 .skip
 (.seq (.reg [qa 7 (.bin .eql (qt 4) (qi 1)), qm 5 7])
 (.cond (qt 5)
 .skip
 (.reg [qa 8 (.bin .eql (qt 4) (qi 2)), qm 5 8])))))
 (.cond (qt 5)
 (.seq (.reg [qa 9 (.fad 1 (qt 1)), qa 10 (.ld 1 false (qt 9)), qa 11 (.bin .eql (qt 10) (qs [])), qm 12 11, qg 13 (.fad 2 (qt 1)) 12 true, qg 14 (.ld 1 false (qt 13)) 12 true, qg 15 (.bin .eql (qt 14) (qs [])) 12 true, qa 16 (.pick (qt 12) (qt 15) (qb false)), qm 17 16, qg 18 (.fad 3 (qt 1)) 17 true, qg 19 (.ld 3 true (qt 18)) 17 true, qg 20 (.call (.c (.fn 110 [])) [(qt 19)]) 17 true, qa 21 (.pick (qt 17) (qt 20) (qb false)), qm 22 21, qg 23 (.fad 0 (qt 1)) 22 true, qg 24 (.ld 1 false (qt 23)) 22 true, qg 25 (.bin .neq (qt 24) (qi 2)) 22 true, qn 26 25 22 true, qg 27 (.fad 6 (qt 1)) 26 false, qg 28 (.ld 1 false (qt 27)) 26 false, qg 29 (.len false (qt 28)) 26 false, qg 30 (.bin .eql (qt 29) (qi 1)) 26 false, qg 31 (.pick (qt 26) (qb true) (qt 30)) 22 true, qa 32 (.pick (qt 22) (qt 31) (qb false)), qm 2 32])
 .ret)
 (.seq (.reg [qa 34 (.bin .eql (qt 4) (qi 4)), qm 33 34])
 (.cond (qt 33)
 (.seq (.reg [qa 35 (.fad 6 (qt 1)), qa 36 (.ld 1 false (qt 35)), qa 37 (.len false (qt 36)), qa 38 (.bin .eql (qt 37) (qi 0)), qm 39 38, qg 40 (.fad 2 (qt 1)) 39 true, qg 41 (.ld 1 false (qt 40)) 39 true, qg 42 (.bin .eql (qt 41) (qs [])) 39 true, qa 43 (.pick (qt 39) (qt 42) (qb false)), qm 44 43, qg 45 (.fad 3 (qt 1)) 44 true, qg 46 (.ld 3 true (qt 45)) 44 true, qg 47 (.call (.c (.fn 111 [])) [(qt 46)]) 44 true, qa 48 (.pick (qt 44) (qt 47) (qb false)), qm 2 48])
 .ret)
 (.seq (.reg [qa 50 (.bin .eql (qt 4) (qi 7)), qm 49 50])
 (.cond (qt 49)
 (.seq (.reg [qa 51 (.fad 6 (qt 1)), qa 52 (.ld 1 false (qt 51)), qa 53 (.len false (qt 52)), qa 54 (.bin .eql (qt 53) (qi 0)), qm 55 54, qg 56 (.fad 2 (qt 1)) 55 true, qg 57 (.ld 1 false (qt 56)) 55 true, qg 58 (.bin .eql (qt 57) (qs [])) 55 true, qa 59 (.pick (qt 55) (qt 58) (qb false)), qm 60 59, qg 61 (.fad 3 (qt 1)) 60 true, qg 62 (.ld 3 true (qt 61)) 60 true, qg 63 (.call (.c (.fn 110 [])) [(qt 62)]) 60 true, qa 64 (.pick (qt 60) (qt 63) (qb false)), qm 2 64])
 .ret)
 .skip))))))))
 (.seq (.reg [qa 65 (.fad 6 (qt 1)), qa 66 (.ld 1 false (qt 65)), qa 67 (.len false (qt 66)), qa 68 (.bin .eql (qt 67) (qi 0)), qm 69 68, qg 70 (.fad 3 (qt 1)) 69 true, qg 71 (.ld 3 true (qt 70)) 69 true, qg 72 (.call (.c (.fn 110 [])) [(qt 71)]) 69 true, qa 73 (.pick (qt 69) (qt 72) (qb false)), qm 2 73])
 .ret)))⟩
theorem c90 : compFn Tryd.prog Tryd.f90 = some i90 := by kernel_rfl
/-- bothy/filter.typed -/
def i91 : IFn := ⟨51, [.tmp 2], (.seq (.reg [qa 2 (.mv (qb false))])
 (.seq (.reg [qm 7 0, qa 8 (.bin .neq (qt 7) (qs [])), qm 9 8, qn 10 0 9 true, qg 11 (.len true (qt 10)) 9 true, qg 12 (.bin .leq (qt 11) (qi 64)) 9 true, qa 13 (.pick (qt 9) (qt 12) (qb false)), qm 3 13])
 (.seq (.seq (.reg [qm 14 0, qa 15 (.call (.c (.fn 73 [])) [(qt 14)]), qa 16 (.s2b 5 (qt 15)), qa 17 (.len false (qt 16)), qa 18 (.mv (qi 0))])
 (.block 0
 (.loop
 (.seq (.reg [qa 19 (.bin .lss (qt 18) (qt 17))])
 (.seq (.cond (qt 19)
 .skip
 (.exit 0))
 (.seq (.block 1
 (.seq (.reg [qm 20 18, qa 21 (.iad 1 (qt 16) (qt 18)), qa 22 (.ld 1 false (qt 21)), qm 4 20, qm 5 22])
 (.seq (.reg [qm 23 5, qa 24 (.bin .geq (qt 23) (.c (.x (.int .u8 (97))))), qm 25 24, qn 26 5 25 true, qg 27 (.bin .leq (qt 26) (.c (.x (.int .u8 (122))))) 25 true, qa 28 (.pick (qt 25) (qt 27) (qb false)), qm 6 28])
 (.reg [qm 29 3, qm 30 29, qn 31 6 30 true, qn 32 31 30 true, qn 33 4 32 false, qg 34 (.bin .gtr (qt 33) (qi 0)) 32 false, qn 35 34 32 false, qn 36 5 35 true, qg 37 (.bin .geq (qt 36) (.c (.x (.int .u8 (48))))) 35 true, qn 38 37 35 true, qn 39 5 38 true, qg 40 (.bin .leq (qt 39) (.c (.x (.int .u8 (57))))) 38 true, qg 41 (.pick (qt 38) (qt 40) (qb false)) 35 true, qn 42 41 35 true, qn 43 5 42 false, qg 44 (.bin .eql (qt 43) (.c (.x (.int .u8 (45))))) 42 false, qg 45 (.pick (qt 42) (qb true) (qt 44)) 35 true, qg 46 (.pick (qt 35) (qt 45) (qb false)) 32 false, qg 47 (.pick (qt 32) (qb true) (qt 46)) 30 true, qa 48 (.pick (qt 30) (qt 47) (qb false)), qm 3 48]))))
 (.reg [qa 49 (.bin .add (qt 18) (qi 1)), qm 18 49])))))))
 (.seq (.reg [qm 50 3, qm 2 50])
 .ret))))⟩
theorem c91 : compFn Tryd.prog Tryd.f91 = some i91 := by kernel_rfl
/-- bothy/filter.texts -/
def i92 : IFn := ⟨11, [.tmp 2], (.seq (.reg [qa 1 (.box (qt 0)), qa 2 (.mv (.c (.x .nils)))])
 (.seq (.reg [qa 3 (.fad 0 (qt 1)), qa 4 (.ld 1 false (qt 3)), qa 5 (.fad 2 (qt 1)), qa 6 (.ld 1 false (qt 5)), qa 7 (.bsl 9 1 2 [(qt 4), (qt 6)]), qa 8 (.fad 1 (qt 1)), qa 9 (.ld 1 false (qt 8)), qa 10 (.app 9 1 16 (qt 7) (qt 9)), qm 2 10])
 .ret))⟩
theorem c92 : compFn Tryd.prog Tryd.f92 = some i92 := by kernel_rfl
/-- bothy/bothyref13.half -/
def i93 : IFn := ⟨22, [.tmp 2], (.seq (.reg [qa 2 (.mv (.c (.x (.int .u8 (0)))))])
 (.seq (.block 0
 (.seq (.reg [qm 4 0, qa 5 (.bin .geq (qt 4) (.c (.x (.int .u8 (48))))), qm 6 5, qn 7 0 6 true, qg 8 (.bin .leq (qt 7) (.c (.x (.int .u8 (57))))) 6 true, qa 9 (.pick (qt 6) (qt 8) (qb false)), qm 3 9])
 (.cond (qt 3)
 (.seq (.reg [qm 10 0, qa 11 (.bin .sub (qt 10) (.c (.x (.int .u8 (48))))), qm 2 11])
 .ret)
 (.seq (.reg [qm 13 0, qa 14 (.bin .geq (qt 13) (.c (.x (.int .u8 (97))))), qm 15 14, qn 16 0 15 true, qg 17 (.bin .leq (qt 16) (.c (.x (.int .u8 (102))))) 15 true, qa 18 (.pick (qt 15) (qt 17) (qb false)), qm 12 18])
 (.cond (qt 12)
 (.seq (.reg [qm 19 0, qa 20 (.bin .sub (qt 19) (.c (.x (.int .u8 (97))))), qa 21 (.bin .add (qt 20) (.c (.x (.int .u8 (10))))), qm 2 21])
 .ret)
 .skip)))))
 (.seq (.reg [qa 2 (.mv (.c (.x (.int .u8 (16)))))])
 .ret)))⟩
theorem c93 : compFn Tryd.prog Tryd.f93 = some i93 := by kernel_rfl
/-- bothy/bothyref11.Deep -/
def i94 : IFn := ⟨30, [.tmp 4], (.seq (.reg [qa 2 (.box (qt 0)), qa 4 (.mv (qi 0))])
 (.seq (.reg [qa 5 (.mv (qi 0))])
 (.seq (.seq (.reg [qa 6 (.mv (qi 0))])
 (.block 0
 (.loop
 (.seq (.seq (.reg [qm 7 6, qa 8 (.fad 6 (qt 2)), qa 9 (.ld 1 false (qt 8)), qa 10 (.len false (qt 9)), qa 11 (.bin .lss (qt 7) (qt 10)), qm 12 11, qn 13 1 12 true, qg 14 (.bin .gtr (qt 13) (qi 0)) 12 true, qa 15 (.pick (qt 12) (qt 14) (qb false))])
 (.cond (qt 15)
 .skip
 (.exit 0)))
 (.seq (.block 1
 (.reg [qm 18 5, qa 19 (.fad 6 (qt 2)), qa 20 (.ld 1 false (qt 19)), qm 21 6, qa 22 (.iad 7 (qt 20) (qt 21)), qa 23 (.ld 7 true (qt 22)), qm 24 1, qa 25 (.bin .sub (qt 24) (qi 1)), qa 26 (.call (.c (.fn 94 [])) [(qt 23), (qt 25)]), qa 27 (.mnx true (qt 18) (qt 26)), qm 5 27]))
 (.reg [qm 16 6, qa 17 (.bin .add (qt 16) (qi 1)), qm 6 17]))))))
 (.seq (.reg [qm 28 5, qa 29 (.bin .add (qt 28) (qi 1)), qm 4 29])
 .ret))))⟩
theorem c94 : compFn Tryd.prog Tryd.f94 = some i94 := by kernel_rfl
/-- bothy/bothyref11.one -/
def i95 : IFn := ⟨67, [.tmp 2], (.seq (.reg [qa 1 (.box (qt 0)), qa 2 (.mv (qi 0))])
 (.seq (.block 0
 (.seq (.reg [qa 5 (.fad 0 (qt 1)), qa 6 (.ld 1 false (qt 5)), qa 7 (.bin .lss (qt 6) (qi 0)), qm 8 7, qg 9 (.fad 0 (qt 1)) 8 false, qg 10 (.ld 1 false (qt 9)) 8 false, qg 11 (.bin .gtr (qt 10) (qi 8)) 8 false, qa 12 (.pick (qt 8) (qb true) (qt 11)), qm 4 12])
 (.cond (qt 4)
 (.seq (.reg [qa 2 (.mv (qi 1))])
 .ret)
 (.seq (.reg [qa 14 (.fad 6 (qt 1)), qa 15 (.ld 1 false (qt 14)), qa 16 (.len false (qt 15)), qa 17 (.bin .gtr (qt 16) (qi 64)), qm 13 17])
 (.cond (qt 13)
 (.seq (.reg [qa 2 (.mv (qi 3))])
 .ret)
 (.seq (.reg [qa 19 (.ld 7 true (qt 1)), qa 20 (.call (.c (.fn 112 [])) [(qt 19)]), qa 21 (.un .not (qt 20)), qm 18 21])
 (.cond (qt 18)
 (.seq (.reg [qa 2 (.mv (qi 5))])
 .ret)
 (.seq (.reg [qa 23 (.fad 0 (qt 1)), qa 24 (.ld 1 false (qt 23)), qa 25 (.bin .gtr (qt 24) (qi 2)), qm 26 25, qg 27 (.fad 1 (qt 1)) 26 true, qg 28 (.ld 1 false (qt 27)) 26 true, qg 29 (.call (.c (.fn 31 [])) [(qt 28)]) 26 true, qg 30 (.un .not (qt 29)) 26 true, qa 31 (.pick (qt 26) (qt 30) (qb false)), qm 22 31])
 (.cond (qt 22)
 (.seq (.reg [qa 2 (.mv (qi 13))])
 .ret)
 (.seq (.reg [qa 33 (.fad 2 (qt 1)), qa 34 (.ld 1 false (qt 33)), qa 35 (.len true (qt 34)), qa 36 (.bin .gtr (qt 35) (qi 1024)), qm 37 36, qg 38 (.fad 3 (qt 1)) 37 false, qg 39 (.fad 0 (qt 38)) 37 false, qg 40 (.ld 1 false (qt 39)) 37 false, qg 41 (.len true (qt 40)) 37 false, qg 42 (.bin .gtr (qt 41) (qi 1024)) 37 false, qa 43 (.pick (qt 37) (qb true) (qt 42)), qm 44 43, qg 45 (.fad 3 (qt 1)) 44 false, qg 46 (.fad 2 (qt 45)) 44 false, qg 47 (.ld 1 false (qt 46)) 44 false, qg 48 (.len true (qt 47)) 44 false, qg 49 (.bin .gtr (qt 48) (qi 1024)) 44 false, qa 50 (.pick (qt 44) (qb true) (qt 49)), qm 32 50])
 (.cond (qt 32)
 (.seq (.reg [qa 2 (.mv (qi 3))])
 .ret)
 .skip)))))))))))
 (.seq (.seq (.reg [qa 3 (.mv (qi 0))])
 (.block 1
 (.loop
 (.seq (.seq (.reg [qm 51 3, qa 52 (.fad 3 (qt 1)), qa 53 (.fad 1 (qt 52)), qa 54 (.ld 1 false (qt 53)), qa 55 (.len false (qt 54)), qa 56 (.bin .lss (qt 51) (qt 55))])
 (.cond (qt 56)
 .skip
 (.exit 1)))
 (.seq (.block 2
 (.seq (.reg [qa 59 (.fad 3 (qt 1)), qa 60 (.fad 1 (qt 59)), qa 61 (.ld 1 false (qt 60)), qm 62 3, qa 63 (.iad 1 (qt 61) (qt 62)), qa 64 (.ld 1 false (qt 63)), qa 65 (.len true (qt 64)), qa 66 (.bin .gtr (qt 65) (qi 1024))])
 (.cond (qt 66)
 (.seq (.reg [qa 2 (.mv (qi 3))])
 .ret)
 .skip)))
 (.reg [qm 57 3, qa 58 (.bin .add (qt 57) (qi 1)), qm 3 58]))))))
 (.seq (.reg [qa 2 (.mv (qi 0))])
 .ret))))⟩
theorem c95 : compFn Tryd.prog Tryd.f95 = some i95 := by kernel_rfl
/-- bothy/filter.none -/
def i110 : IFn := ⟨17, [.tmp 2], (.seq (.reg [qa 1 (.box (qt 0)), qa 2 (.mv (qb false))])
 (.seq (.reg [qa 3 (.fad 0 (qt 1)), qa 4 (.ld 1 false (qt 3)), qa 5 (.bin .eql (qt 4) (qs [])), qm 6 5, qg 7 (.fad 2 (qt 1)) 6 true, qg 8 (.ld 1 false (qt 7)) 6 true, qg 9 (.bin .eql (qt 8) (qs [])) 6 true, qa 10 (.pick (qt 6) (qt 9) (qb false)), qm 11 10, qg 12 (.fad 1 (qt 1)) 11 true, qg 13 (.ld 1 false (qt 12)) 11 true, qg 14 (.len false (qt 13)) 11 true, qg 15 (.bin .eql (qt 14) (qi 0)) 11 true, qa 16 (.pick (qt 11) (qt 15) (qb false)), qm 2 16])
 .ret))⟩
theorem c110 : compFn Tryd.prog Tryd.f110 = some i110 := by kernel_rfl
/-- bothy/filter.parts -/
def i111 : IFn := ⟨29, [.tmp 2], (.seq (.reg [qa 1 (.box (qt 0)), qa 2 (.mv (qb false))])
 (.seq (.reg [qa 3 (.fad 1 (qt 1)), qa 4 (.ld 1 false (qt 3)), qa 5 (.len false (qt 4)), qa 6 (.bin .leq (qt 5) (qi 16)), qm 7 6, qg 8 (.fad 1 (qt 1)) 7 true, qg 9 (.ld 1 false (qt 8)) 7 true, qg 10 (.call (.c (.fn 120 [])) [(qt 9), (qs [])]) 7 true, qg 11 (.un .not (qt 10)) 7 true, qa 12 (.pick (qt 7) (qt 11) (qb false)), qm 13 12, qg 14 (.fad 0 (qt 1)) 13 true, qg 15 (.ld 1 false (qt 14)) 13 true, qg 16 (.bin .neq (qt 15) (qs [])) 13 true, qn 17 16 13 true, qg 18 (.fad 2 (qt 1)) 17 false, qg 19 (.ld 1 false (qt 18)) 17 false, qg 20 (.bin .neq (qt 19) (qs [])) 17 false, qg 21 (.pick (qt 17) (qb true) (qt 20)) 13 true, qn 22 21 13 true, qg 23 (.fad 1 (qt 1)) 22 false, qg 24 (.ld 1 false (qt 23)) 22 false, qg 25 (.len false (qt 24)) 22 false, qg 26 (.bin .gtr (qt 25) (qi 0)) 22 false, qg 27 (.pick (qt 22) (qb true) (qt 26)) 13 true, qa 28 (.pick (qt 13) (qt 27) (qb false)), qm 2 28])
 .ret))⟩
theorem c111 : compFn Tryd.prog Tryd.f111 = some i111 := by kernel_rfl
/-- bothy/bothyref11.fields -/
def i112 : IFn := ⟨90, [.tmp 2], (.seq (.reg [qa 1 (.box (qt 0)), qa 2 (.mv (qb false))])
 (.seq (.reg [qa 6 (.fad 0 (qt 1)), qa 7 (.ld 1 false (qt 6)), qm 3 7])
 (.seq (.reg [qm 8 3, qa 9 (.bin .eql (qt 8) (qi 0)), qm 10 9, qn 11 3 10 false, qg 12 (.bin .eql (qt 11) (qi 1)) 10 false, qa 13 (.pick (qt 10) (qb true) (qt 12)), qm 14 13, qn 15 3 14 false, qg 16 (.bin .eql (qt 15) (qi 2)) 14 false, qa 17 (.pick (qt 14) (qb true) (qt 16)), qm 4 17])
 (.seq (.reg [qm 18 3, qa 19 (.bin .eql (qt 18) (qi 3)), qm 20 19, qn 21 3 20 false, qg 22 (.bin .eql (qt 21) (qi 5)) 20 false, qa 23 (.pick (qt 20) (qb true) (qt 22)), qm 24 23, qn 25 3 24 false, qg 26 (.bin .eql (qt 25) (qi 6)) 24 false, qa 27 (.pick (qt 24) (qb true) (qt 26)), qm 28 27, qn 29 3 28 false, qg 30 (.bin .eql (qt 29) (qi 8)) 28 false, qa 31 (.pick (qt 28) (qb true) (qt 30)), qm 5 31])
 (.seq (.seq (.reg [qm 32 4, qa 33 (.un .not (qt 32)), qm 34 33, qg 35 (.fad 6 (qt 1)) 34 true, qg 36 (.ld 1 false (qt 35)) 34 true, qg 37 (.len false (qt 36)) 34 true, qg 38 (.bin .gtr (qt 37) (qi 0)) 34 true, qa 39 (.pick (qt 34) (qt 38) (qb false)), qm 40 39, qn 41 4 40 false, qn 42 41 40 false, qg 43 (.fad 1 (qt 1)) 42 true, qg 44 (.ld 1 false (qt 43)) 42 true, qg 45 (.bin .neq (qt 44) (qs [])) 42 true, qg 46 (.pick (qt 42) (qt 45) (qb false)) 40 false, qa 47 (.pick (qt 40) (qb true) (qt 46)), qm 48 47, qn 49 5 48 false, qg 50 (.un .not (qt 49)) 48 false, qn 51 50 48 false, qg 52 (.fad 2 (qt 1)) 51 true, qg 53 (.ld 1 false (qt 52)) 51 true, qg 54 (.bin .neq (qt 53) (qs [])) 51 true, qg 55 (.pick (qt 51) (qt 54) (qb false)) 48 false, qa 56 (.pick (qt 48) (qb true) (qt 55)), qm 57 56, qn 58 3 57 false, qg 59 (.bin .eql (qt 58) (qi 2)) 57 false, qn 60 59 57 false, qg 61 (.fad 6 (qt 1)) 60 true, qg 62 (.ld 1 false (qt 61)) 60 true, qg 63 (.len false (qt 62)) 60 true, qg 64 (.bin .neq (qt 63) (qi 1)) 60 true, qg 65 (.pick (qt 60) (qt 64) (qb false)) 57 false, qa 66 (.pick (qt 57) (qb true) (qt 65))])
 (.cond (qt 66)
 (.seq (.reg [qa 2 (.mv (qb false))])
 .ret)
 .skip))
 (.seq (.seq (.reg [qm 67 3, qa 68 (.bin .eql (qt 67) (qi 4))])
 (.cond (qt 68)
 (.seq (.reg [qa 69 (.fad 3 (qt 1)), qa 70 (.ld 3 true (qt 69)), qa 71 (.call (.c (.fn 121 [])) [(qt 70)]), qa 72 (.bin .eql (qt 71) (qi 0)), qm 2 72])
 .ret)
 .skip))
 (.seq (.reg [qa 73 (.fad 3 (qt 1)), qa 74 (.fad 0 (qt 73)), qa 75 (.ld 1 false (qt 74)), qa 76 (.bin .eql (qt 75) (qs [])), qm 77 76, qg 78 (.fad 3 (qt 1)) 77 true, qg 79 (.fad 2 (qt 78)) 77 true, qg 80 (.ld 1 false (qt 79)) 77 true, qg 81 (.bin .eql (qt 80) (qs [])) 77 true, qa 82 (.pick (qt 77) (qt 81) (qb false)), qm 83 82, qg 84 (.fad 3 (qt 1)) 83 true, qg 85 (.fad 1 (qt 84)) 83 true, qg 86 (.ld 1 false (qt 85)) 83 true, qg 87 (.len false (qt 86)) 83 true, qg 88 (.bin .eql (qt 87) (qi 0)) 83 true, qa 89 (.pick (qt 83) (qt 88) (qb false)), qm 2 89])
 .ret)))))))⟩
theorem c112 : compFn Tryd.prog Tryd.f112 = some i112 := by kernel_rfl
/-- bothy/bothyref11.subs -/
def i121 : IFn := ⟨37, [.tmp 2], (.seq (.reg [qa 1 (.box (qt 0)), qa 2 (.mv (qi 0))])
 (.seq (.seq (.reg [qa 4 (.fad 0 (qt 1)), qa 5 (.ld 1 false (qt 4)), qa 6 (.bin .eql (qt 5) (qs [])), qm 7 6, qg 8 (.fad 2 (qt 1)) 7 true, qg 9 (.ld 1 false (qt 8)) 7 true, qg 10 (.bin .eql (qt 9) (qs [])) 7 true, qa 11 (.pick (qt 7) (qt 10) (qb false)), qm 12 11, qg 13 (.fad 1 (qt 1)) 12 true, qg 14 (.ld 1 false (qt 13)) 12 true, qg 15 (.len false (qt 14)) 12 true, qg 16 (.bin .eql (qt 15) (qi 0)) 12 true, qa 17 (.pick (qt 12) (qt 16) (qb false)), qm 18 17, qg 19 (.fad 1 (qt 1)) 18 false, qg 20 (.ld 1 false (qt 19)) 18 false, qg 21 (.len false (qt 20)) 18 false, qg 22 (.bin .gtr (qt 21) (qi 16)) 18 false, qa 23 (.pick (qt 18) (qb true) (qt 22))])
 (.cond (qt 23)
 (.seq (.reg [qa 2 (.mv (qi 5))])
 .ret)
 .skip))
 (.seq (.seq (.reg [qa 3 (.mv (qi 0))])
 (.block 0
 (.loop
 (.seq (.seq (.reg [qm 24 3, qa 25 (.fad 1 (qt 1)), qa 26 (.ld 1 false (qt 25)), qa 27 (.len false (qt 26)), qa 28 (.bin .lss (qt 24) (qt 27))])
 (.cond (qt 28)
 .skip
 (.exit 0)))
 (.seq (.block 1
 (.seq (.reg [qa 31 (.fad 1 (qt 1)), qa 32 (.ld 1 false (qt 31)), qm 33 3, qa 34 (.iad 1 (qt 32) (qt 33)), qa 35 (.ld 1 false (qt 34)), qa 36 (.bin .eql (qt 35) (qs []))])
 (.cond (qt 36)
 (.seq (.reg [qa 2 (.mv (qi 5))])
 .ret)
 .skip)))
 (.reg [qm 29 3, qa 30 (.bin .add (qt 29) (qi 1)), qm 3 30]))))))
 (.seq (.reg [qa 2 (.mv (qi 0))])
 .ret))))⟩
theorem c121 : compFn Tryd.prog Tryd.f121 = some i121 := by kernel_rfl
def G : FuncId → Option IFn
  | 3 => some i3
  | 7 => some i7
  | 8 => some i8
  | 9 => some i9
  | 10 => some i10
  | 18 => some i18
  | 19 => some i19
  | 20 => some i20
  | 21 => some i21
  | 22 => some i22
  | 23 => some i23
  | 24 => some i24
  | 31 => some i31
  | 32 => some i32
  | 39 => some i39
  | 40 => some i40
  | 41 => some i41
  | 42 => some i42
  | 43 => some i43
  | 44 => some i44
  | 45 => some i45
  | 46 => some i46
  | 47 => some i47
  | 48 => some i48
  | 60 => some i60
  | 62 => some i62
  | 64 => some i64
  | 65 => some i65
  | 66 => some i66
  | 67 => some i67
  | 68 => some i68
  | 69 => some i69
  | 70 => some i70
  | 71 => some i71
  | 72 => some i72
  | 73 => some i73
  | 90 => some i90
  | 91 => some i91
  | 92 => some i92
  | 93 => some i93
  | 94 => some i94
  | 95 => some i95
  | 110 => some i110
  | 111 => some i111
  | 112 => some i112
  | 121 => some i121
  | _ => none
theorem G_ok : GOk Tryd.prog G := by
  intro f p h
  unfold G at h
  split at h
  · cases h; exact ⟨Tryd.f3, Tryd.func3, by decide, c3⟩
  · cases h; exact ⟨Tryd.f7, Tryd.func7, by decide, c7⟩
  · cases h; exact ⟨Tryd.f8, Tryd.func8, by decide, c8⟩
  · cases h; exact ⟨Tryd.f9, Tryd.func9, by decide, c9⟩
  · cases h; exact ⟨Tryd.f10, Tryd.func10, by decide, c10⟩
  · cases h; exact ⟨Tryd.f18, Tryd.func18, by decide, c18⟩
  · cases h; exact ⟨Tryd.f19, Tryd.func19, by decide, c19⟩
  · cases h; exact ⟨Tryd.f20, Tryd.func20, by decide, c20⟩
  · cases h; exact ⟨Tryd.f21, Tryd.func21, by decide, c21⟩
  · cases h; exact ⟨Tryd.f22, Tryd.func22, by decide, c22⟩
  · cases h; exact ⟨Tryd.f23, Tryd.func23, by decide, c23⟩
  · cases h; exact ⟨Tryd.f24, Tryd.func24, by decide, c24⟩
  · cases h; exact ⟨Tryd.f31, Tryd.func31, by decide, c31⟩
  · cases h; exact ⟨Tryd.f32, Tryd.func32, by decide, c32⟩
  · cases h; exact ⟨Tryd.f39, Tryd.func39, by decide, c39⟩
  · cases h; exact ⟨Tryd.f40, Tryd.func40, by decide, c40⟩
  · cases h; exact ⟨Tryd.f41, Tryd.func41, by decide, c41⟩
  · cases h; exact ⟨Tryd.f42, Tryd.func42, by decide, c42⟩
  · cases h; exact ⟨Tryd.f43, Tryd.func43, by decide, c43⟩
  · cases h; exact ⟨Tryd.f44, Tryd.func44, by decide, c44⟩
  · cases h; exact ⟨Tryd.f45, Tryd.func45, by decide, c45⟩
  · cases h; exact ⟨Tryd.f46, Tryd.func46, by decide, c46⟩
  · cases h; exact ⟨Tryd.f47, Tryd.func47, by decide, c47⟩
  · cases h; exact ⟨Tryd.f48, Tryd.func48, by decide, c48⟩
  · cases h; exact ⟨Tryd.f60, Tryd.func60, by decide, c60⟩
  · cases h; exact ⟨Tryd.f62, Tryd.func62, by decide, c62⟩
  · cases h; exact ⟨Tryd.f64, Tryd.func64, by decide, c64⟩
  · cases h; exact ⟨Tryd.f65, Tryd.func65, by decide, c65⟩
  · cases h; exact ⟨Tryd.f66, Tryd.func66, by decide, c66⟩
  · cases h; exact ⟨Tryd.f67, Tryd.func67, by decide, c67⟩
  · cases h; exact ⟨Tryd.f68, Tryd.func68, by decide, c68⟩
  · cases h; exact ⟨Tryd.f69, Tryd.func69, by decide, c69⟩
  · cases h; exact ⟨Tryd.f70, Tryd.func70, by decide, c70⟩
  · cases h; exact ⟨Tryd.f71, Tryd.func71, by decide, c71⟩
  · cases h; exact ⟨Tryd.f72, Tryd.func72, by decide, c72⟩
  · cases h; exact ⟨Tryd.f73, Tryd.func73, by decide, c73⟩
  · cases h; exact ⟨Tryd.f90, Tryd.func90, by decide, c90⟩
  · cases h; exact ⟨Tryd.f91, Tryd.func91, by decide, c91⟩
  · cases h; exact ⟨Tryd.f92, Tryd.func92, by decide, c92⟩
  · cases h; exact ⟨Tryd.f93, Tryd.func93, by decide, c93⟩
  · cases h; exact ⟨Tryd.f94, Tryd.func94, by decide, c94⟩
  · cases h; exact ⟨Tryd.f95, Tryd.func95, by decide, c95⟩
  · cases h; exact ⟨Tryd.f110, Tryd.func110, by decide, c110⟩
  · cases h; exact ⟨Tryd.f111, Tryd.func111, by decide, c111⟩
  · cases h; exact ⟨Tryd.f112, Tryd.func112, by decide, c112⟩
  · cases h; exact ⟨Tryd.f121, Tryd.func121, by decide, c121⟩
  · cases h
end Go.Proofs.YtmlpbojoekmfaaaDoor
