import Derived.Test.YtpjfdjcejamebaaGreatDoorProg
import Derived.Test.YtpjfdjcejamebaaGreatDoorLA4
set_option linter.unusedSimpArgs false
set_option linter.unusedVariables false
namespace Go.Proofs.YtpjfdjcejamebaaGreatDoor
open Go.RowKit Go.Bo Go.Ab
def i3:IFn:=⟨105,[.tmp 4],(qr [qa 2 (.box (qt 0)),qa 4 (.mv (qb false))]
 (.seq (qr [qa 15 (qL 2 2),qa 16 (qc 8 [qt 15]),qa 17 (qz 16),qm 18 17,qj 19 1 18,qF 20 (qk true 19) 18,qF 21 (q3 .gtr 20 100) 18,qa 22 (qp 18 21)]
 (qC 22
 (qr [qa 23 (qc 9 []),qm 4 23]
 .ret)
 .skip))
 (qr [qa 24 (qc 10 []),qa 25 (qc 11 []),qa 6 (.box (.c (.agg [.x .nils,.x .nils]))),qm 5 24,qo 2 6 25]
 (.seq (qr [qm 26 5,qa 27 (.eq .ptr false (qt 26) (.c (.x .nilp)))]
 (qC 27
 (qr [qa 4 (.mv (qb false))]
 .ret)
 .skip))
 (qr [qm 29 5,qm 30 1,qa 31 (qc 12 [qt 29,qt 30]),qm 28 31,qe 32 28 0,qe 33 28 1,qa 7 (.box (.c (.agg [.x (.str []),.x (.int .i64 (0)),.x (.bool false)]))),qo 3 7 32,qm 8 33]
 (qr [qa 35 (qL 2 6),qm 36 1,qa 37 (qc 13 [qt 35,qt 36]),qm 34 37,qe 38 34 0,qe 39 34 1,qa 9 (.box (.c (.agg [.x (.str []),.x (.int .i64 (0)),.x (.bool false)]))),qo 3 9 38,qm 10 39]
 (qr [qm 41 5,qm 42 1,qa 43 (qc 14 [qt 41,qt 42]),qm 40 43,qe 44 40 0,qe 45 40 1,qa 11 (.box (.c (.agg [.x (.str []),.x .nils,.x .nils]))),qo 3 11 44,qm 12 45]
 (qr [qa 47 (qL 2 6),qm 48 1,qa 49 (qc 15 [qt 47,qt 48]),qm 46 49,qe 50 46 0,qe 51 46 1,qa 13 (.box (.c (.agg [.x (.str []),.x .nils,.x .nils]))),qo 3 13 50,qm 14 51]
 (.seq (.dreg 47 [] [qa 52 (qL 3 7),qa 53 (qL 3 9),qa 54 (.eq (.st [(0,.str),(1,.int .i64),(2,.bool)]) false (qt 52) (qt 53)),qm 55 54,qh 56 8 55,qh 57 10 55,qT 58 (.eq .bool false (qt 56) (qt 57)) 55,qa 59 (qP 55 58),qm 60 59,qT 61 (qf 0 11) 60,qT 62 (ql 61) 60,qT 63 (qf 0 13) 60,qT 64 (ql 63) 60,qT 65 (q2 .eql 62 64) 60,qa 66 (qP 60 65),qm 67 66,qT 68 (qf 1 11) 67,qT 69 (ql 68) 67,qT 70 (qf 1 13) 67,qT 71 (ql 70) 67,qT 72 (qc 16 [qt 69,qt 71]) 67,qa 73 (qP 67 72),qm 74 73,qT 75 (qf 2 11) 74,qT 76 (ql 75) 74,qT 77 (qf 2 13) 74,qT 78 (ql 77) 74,qT 79 (qc 16 [qt 76,qt 78]) 74,qa 80 (qP 74 79),qm 81 80,qh 82 12 81,qh 83 14 81,qT 84 (.eq .bool false (qt 82) (qt 83)) 81,qa 85 (qP 81 84),qm 86 85,qh 87 5 86,qT 88 (qL 2 2) 86,qT 89 (qc 17 [qt 87,qt 88]) 86,qT 90 (qL 2 6) 86,qT 91 (qL 2 2) 86,qT 92 (qc 18 [qt 90,qt 91]) 86,qT 93 (q2 .eql 89 92) 86,qa 94 (qP 86 93),qm 95 94,qh 96 5 95,qT 97 (qc 19 [qt 96]) 95,qT 98 (qL 2 6) 95,qT 99 (qc 20 [qt 98]) 95,qT 100 (qc 16 [qt 97,qt 99]) 95,qa 101 (qP 95 100),qm 102 101,qT 103 (qc 9 []) 102,qa 104 (qP 102 103),qm 4 104])
 .ret)))))))))⟩
def i4:IFn:=⟨70,[.tmp 6],(qr [qa 5 (.box (qt 2)),qa 6 (.mv (qb false))]
 (.seq (qr [qm 11 0,qm 12 1,qa 13 (qc 21 [qt 11,qt 12]),qa 14 (qz 13),qm 15 14,qF 16 (qL 2 5) 15,qF 17 (qc 8 [qt 16]) 15,qF 18 (qz 17) 15,qa 19 (qp 15 18)]
 (qC 19
 (qr [qa 20 (qc 9 []),qm 6 20]
 .ret)
 .skip))
 (qr [qm 22 0,qm 23 1,qa 24 (qc 22 [qt 22,qt 23]),qm 21 24,qe 25 21 0,qe 26 21 1,qm 7 25,qm 8 26]
 (qr [qm 28 0,qm 29 1,qa 30 (qc 23 [qt 28,qt 29]),qm 27 30,qe 31 27 0,qe 32 27 1,qa 9 (.box (.c (.agg [.x .nils,.x .nils]))),qo 2 9 31,qm 10 32]
 (.seq (qr [qm 33 10,qa 34 (q3 .neq 33 0)]
 (qC 34
 (qr [qm 35 7,qa 36 (.eq .ptr false (qt 35) (.c (.x .nilp))),qm 37 36,qh 38 8 37,qh 39 10 37,qT 40 (q2 .eql 38 39) 37,qa 41 (qP 37 40),qm 42 41,qT 43 (qc 9 []) 42,qa 44 (qP 42 43),qm 6 44]
 .ret)
 .skip))
 (.seq (.dreg 19 [] [qm 45 7,qa 46 (.eq .ptr true (qt 45) (.c (.x .nilp))),qm 47 46,qh 48 8 47,qT 49 (q3 .eql 48 0) 47,qa 50 (qP 47 49),qm 51 50,qh 52 7 51,qT 53 (qL 2 5) 51,qT 54 (qc 17 [qt 52,qt 53]) 51,qT 55 (qL 2 9) 51,qT 56 (qL 2 5) 51,qT 57 (qc 18 [qt 55,qt 56]) 51,qT 58 (q2 .eql 54 57) 51,qa 59 (qP 51 58),qm 60 59,qh 61 7 60,qT 62 (qc 19 [qt 61]) 60,qT 63 (qL 2 9) 60,qT 64 (qc 20 [qt 63]) 60,qT 65 (qc 16 [qt 62,qt 64]) 60,qa 66 (qP 60 65),qm 67 66,qT 68 (qc 9 []) 67,qa 69 (qP 67 68),qm 6 69])
 .ret))))))⟩
def i5:IFn:=⟨63,[.tmp 4],(qr [qa 2 (.box (qt 0)),qa 4 (.mv (qb false))]
 (qr [qa 5 (.mv (.c (.x .nilp)))]
 (qr [qm 11 5,qm 12 1,qa 13 (qc 12 [qt 11,qt 12]),qm 10 13,qe 14 10 0,qe 15 10 1,qa 6 (.box (.c (.agg [.x (.str []),.x (.int .i64 (0)),.x (.bool false)]))),qo 3 6 14,qm 7 15]
 (qr [qm 17 5,qm 18 1,qa 19 (qc 14 [qt 17,qt 18]),qm 16 19,qe 20 16 0,qe 21 16 1,qa 8 (.box (.c (.agg [.x (.str []),.x .nils,.x .nils]))),qo 3 8 20,qm 9 21]
 (qr [qa 22 (qL 3 6),qa 23 (.build [.x (.str []),.x (.int .i64 (0)),.x (.bool false)] []),qa 24 (.eq (.st [(0,.str),(1,.int .i64),(2,.bool)]) false (qt 22) (qt 23)),qm 25 24,qh 26 7 25,qT 27 (qz 26) 25,qa 28 (qP 25 27),qm 29 28,qT 30 (qf 0 8) 29,qT 31 (ql 30) 29,qT 32 (.bin .eql (qt 31) (qs [])) 29,qa 33 (qP 29 32),qm 34 33,qT 35 (qf 1 8) 34,qT 36 (ql 35) 34,qT 37 (qk false 36) 34,qT 38 (qf 2 8) 34,qT 39 (ql 38) 34,qT 40 (qk false 39) 34,qT 41 (q2 .add 37 40) 34,qT 42 (q3 .eql 41 0) 34,qa 43 (qP 34 42),qm 44 43,qh 45 9 44,qT 46 (qz 45) 44,qa 47 (qP 44 46),qm 48 47,qh 49 5 48,qT 50 (qL 2 2) 48,qT 51 (qc 17 [qt 49,qt 50]) 48,qT 52 (q3 .eql 51 80) 48,qa 53 (qP 48 52),qm 54 53,qh 55 5 54,qT 56 (qc 19 [qt 55]) 54,qT 57 (qk false 56) 54,qT 58 (q3 .eql 57 0) 54,qa 59 (qP 54 58),qm 60 59,qT 61 (qc 9 []) 60,qa 62 (qP 60 61),qm 4 62]
 .ret)))))⟩
def i8:IFn:=⟨62,[.tmp 2],(qr [qa 1 (.box (qt 0)),qa 2 (.mv (qb false))]
 (.seq (qr [qa 5 (qf 0 1),qa 6 (ql 5),qa 7 (qk true 6),qa 8 (q3 .gtr 7 300),qm 9 8,qF 10 (qf 1 1) 9,qF 11 (ql 10) 9,qF 12 (qk false 11) 9,qF 13 (q3 .gtr 12 12) 9,qa 14 (qp 9 13)]
 (qC 14
 (qr [qa 2 (.mv (qb false))]
 .ret)
 .skip))
 (.seq (qr [qa 3 (.mv (qi 0))]
 (.block 0
 (.loop
 (.seq (qr [qm 15 3,qa 16 (qf 1 1),qa 17 (ql 16),qa 18 (qk false 17),qa 19 (q2 .lss 15 18)]
 (qC 19
 .skip
 (.exit 0)))
 (.seq (.block 1
 (.seq (qr [qa 22 (qf 1 1),qa 23 (ql 22),qm 24 3,qa 25 (qy 2 23 24),qa 26 (qf 0 25),qa 27 (ql 26),qa 28 (qk true 27),qa 29 (q3 .gtr 28 80),qm 30 29,qF 31 (qf 1 1) 30,qF 32 (ql 31) 30,qj 33 3 30,qF 34 (qy 2 32 33) 30,qF 35 (qf 1 34) 30,qF 36 (ql 35) 30,qF 37 (qk false 36) 30,qF 38 (q3 .gtr 37 8) 30,qa 39 (qp 30 38)]
 (qC 39
 (qr [qa 2 (.mv (qb false))]
 .ret)
 .skip))
 (qr [qa 4 (.mv (qi 0))]
 (.block 2
 (.loop
 (.seq (qr [qm 40 4,qa 41 (qf 1 1),qa 42 (ql 41),qm 43 3,qa 44 (qy 2 42 43),qa 45 (qf 1 44),qa 46 (ql 45),qa 47 (qk false 46),qa 48 (q2 .lss 40 47)]
 (qC 48
 .skip
 (.exit 2)))
 (.seq (.block 3
 (qr [qa 51 (qf 1 1),qa 52 (ql 51),qm 53 3,qa 54 (qy 2 52 53),qa 55 (qf 1 54),qa 56 (ql 55),qm 57 4,qa 58 (qy 1 56 57),qa 59 (ql 58),qa 60 (qk true 59),qa 61 (q3 .gtr 60 300)]
 (qC 61
 (qr [qa 2 (.mv (qb false))]
 .ret)
 .skip)))
 (.reg [qm 49 4,qa 50 (q3 .add 49 1),qm 4 50]))))))))
 (.reg [qm 20 3,qa 21 (q3 .add 20 1),qm 3 21]))))))
 (qr [qa 2 (.mv (qb true))]
 .ret))))⟩
def i9:IFn:=⟨101,[.tmp 0],(qr [qa 0 (.mv (qb false))]
 (qr [qa 12 (qc 10 []),qm 1 12]
 (.seq (qr [qm 13 1,qa 14 (.eq .ptr false (qt 13) (.c (.x .nilp)))]
 (qC 14
 (qr [qa 0 (.mv (qb false))]
 .ret)
 .skip))
 (qr [qm 16 1,qa 17 (qc 12 [qt 16,(qs [85,73,68,78,117,109,98,101,114])]),qm 15 17,qe 18 15 0,qe 19 15 1,qa 2 (.box (.c (.agg [.x (.str []),.x (.int .i64 (0)),.x (.bool false)]))),qo 3 2 18,qm 3 19]
 (qr [qm 21 1,qa 22 (qc 14 [qt 21,(qs [68,111,109,97,105,110])]),qm 20 22,qe 23 20 0,qe 24 20 1,qa 4 (.box (.c (.agg [.x (.str []),.x .nils,.x .nils]))),qo 3 4 23,qm 5 24]
 (qr [qa 25 (qc 33 []),qa 6 (.box (.c (.agg [.x (.str []),.x .nils]))),qo 2 6 25]
 (qr [qa 26 (qf 1 6),qa 27 (ql 26),qa 28 (.slc 2 (qt 27) none (some (qi 2)) none),qa 29 (qf 1 6),qo 1 29 28]
 (qr [qa 31 (qc 22 [(.c (.x .nils)),(.c (.x .nils))]),qm 30 31,qe 32 30 0,qe 33 30 1,qm 7 32,qm 8 33]
 (qr [qa 35 (.build [.x (.str []),.x (.int .i64 (0)),.x (.bool false)] [(0,1,(qs [97])),(1,1,(qi 1))]),qa 36 (.build [.x (.str []),.x (.int .i64 (0)),.x (.bool false)] [(0,1,(qs [65])),(1,1,(qi 1))]),qa 37 (.bsl 35 3 2 [qt 35,qt 36]),qa 38 (qc 22 [qt 37,(.c (.x .nils))]),qm 34 38,qe 39 34 0,qe 40 34 1,qm 9 39,qm 10 40]
 (qr [qa 41 (qc 33 []),qa 11 (.box (.c (.agg [.x (.str []),.x .nils]))),qo 2 11 41]
 (qr [qa 42 (qf 1 11),qa 43 (ql 42),qa 44 (.bsl 9 1 1 [(qs [120])]),qa 45 (.build [.x (.str []),.x .nils] [(0,1,(qs [117,105,100,78,117,109,98,101,114])),(1,1,(qt 44))]),qa 46 (.bsl 72 2 1 [qt 45]),qa 47 (.app 72 2 40 (qt 43) (qt 46)),qa 48 (qf 1 11),qo 1 48 47]
 (qr [qa 49 (qL 3 2),qa 50 (.build [.x (.str []),.x (.int .i64 (0)),.x (.bool false)] [(0,1,(qs [117,105,100,110,117,109,98,101,114])),(1,1,(qi 3)),(2,1,(qb true))]),qa 51 (.eq (.st [(0,.str),(1,.int .i64),(2,.bool)]) false (qt 49) (qt 50)),qm 52 51,qh 53 3 52,qa 54 (qP 52 53),qm 55 54,qT 56 (qf 0 4) 55,qT 57 (ql 56) 55,qT 58 (.bin .eql (qt 57) (qs [100,111,109,97,105,110])) 55,qa 59 (qP 55 58),qm 60 59,qT 61 (qf 1 4) 60,qT 62 (ql 61) 60,qT 63 (qk false 62) 60,qT 64 (q3 .eql 63 1) 60,qa 65 (qP 60 64),qm 66 65,qh 67 5 66,qa 68 (qP 66 67),qm 69 68,qh 70 1 69,qT 71 (qc 33 []) 69,qT 72 (qc 17 [qt 70,qt 71]) 69,qT 73 (q3 .eql 72 0) 69,qa 74 (qP 69 73),qm 75 74,qh 76 1 75,qT 77 (qL 2 6) 75,qT 78 (qc 17 [qt 76,qt 77]) 75,qT 79 (q3 .eql 78 65) 75,qa 80 (qP 75 79),qm 81 80,qh 82 1 81,qT 83 (qL 2 11) 81,qT 84 (qc 17 [qt 82,qt 83]) 81,qT 85 (q3 .eql 84 21) 81,qa 86 (qP 81 85),qm 87 86,qh 88 8 87,qT 89 (q3 .eql 88 8) 87,qa 90 (qP 87 89),qm 91 90,qh 92 10 91,qT 93 (q3 .eql 92 9) 91,qa 94 (qP 91 93),qm 95 94,qh 96 1 95,qT 97 (qc 19 [qt 96]) 95,qT 98 (qk false 97) 95,qT 99 (q3 .eql 98 13) 95,qa 100 (qP 95 99),qm 0 100]
 .ret))))))))))))⟩
def i10:IFn:=⟨34,[.tmp 0],(qr [qa 0 (.mv (.c (.x .nilp)))]
 (qr [qa 4 (.bsl 9 1 8 [(qs [99,110]),(qs [115,110]),(qs [111,117]),(qs [100,99]),(qs [111]),(qs [100,101,115,99,114,105,112,116,105,111,110]),(qs [109,97,105,108]),(qs [111,98,106,101,99,116,99,108,97,115,115])]),qa 5 (qc 34 [qt 4]),qm 1 5]
 (qr [qm 6 1,qa 7 (.build [.x (.str []),.x (.int .i64 (0)),.x (.bool false)] [(0,1,(qs [117,115,101,114,112,97,115,115,119,111,114,100])),(1,1,(qi 4)),(2,1,(qb true))]),qa 8 (.build [.x (.str []),.x (.int .i64 (0)),.x (.bool false)] [(0,1,(qs [117,105,100])),(1,1,(qi 1)),(2,1,(qb true))]),qa 9 (.build [.x (.str []),.x (.int .i64 (0)),.x (.bool false)] [(0,1,(qs [117,105,100,110,117,109,98,101,114])),(1,1,(qi 3)),(2,1,(qb true))]),qa 10 (.build [.x (.str []),.x (.int .i64 (0)),.x (.bool false)] [(0,1,(qs [109,101,109,98,101,114])),(1,1,(qi 5))]),qa 11 (.build [.x (.str []),.x (.int .i64 (0)),.x (.bool false)] [(0,1,(qs [115,101,114,105,97,108,110,117,109,98,101,114])),(1,1,(qi 2))]),qa 12 (.bsl 35 3 5 [qt 7,qt 8,qt 9,qt 10,qt 11]),qa 13 (.app 35 3 32 (qt 6) (qt 12)),qm 1 13]
 (qr [qm 15 1,qa 16 (.build [.x (.str []),.x .nils,.x .nils] [(0,1,(qs [116,111,112]))]),qa 17 (.bsl 9 1 2 [(qs [99,110]),(qs [115,110])]),qa 18 (.bsl 9 1 7 [(qs [100,101,115,99,114,105,112,116,105,111,110]),(qs [117,115,101,114,112,97,115,115,119,111,114,100]),(qs [109,97,105,108]),(qs [117,105,100]),(qs [117,105,100,110,117,109,98,101,114]),(qs [115,101,114,105,97,108,110,117,109,98,101,114]),(qs [109,101,109,98,101,114])]),qa 19 (.build [.x (.str []),.x .nils,.x .nils] [(0,1,(qs [112,101,114,115,111,110])),(1,1,(qt 17)),(2,1,(qt 18))]),qa 20 (.bsl 9 1 1 [(qs [111,117])]),qa 21 (.bsl 9 1 2 [(qs [100,101,115,99,114,105,112,116,105,111,110]),(qs [109,101,109,98,101,114])]),qa 22 (.build [.x (.str []),.x .nils,.x .nils] [(0,1,(qs [111,114,103,97,110,105,122,97,116,105,111,110,97,108,117,110,105,116])),(1,1,(qt 20)),(2,1,(qt 21))]),qa 23 (.bsl 9 1 1 [(qs [100,99])]),qa 24 (.bsl 9 1 2 [(qs [100,101,115,99,114,105,112,116,105,111,110]),(qs [111])]),qa 25 (.build [.x (.str []),.x .nils,.x .nils] [(0,1,(qs [100,111,109,97,105,110])),(1,1,(qt 23)),(2,1,(qt 24))]),qa 26 (.bsl 9 1 1 [(qs [99,110])]),qa 27 (.bsl 9 1 2 [(qs [109,101,109,98,101,114]),(qs [100,101,115,99,114,105,112,116,105,111,110])]),qa 28 (.build [.x (.str []),.x .nils,.x .nils] [(0,1,(qs [103,114,111,117,112])),(1,1,(qt 26)),(2,1,(qt 27))]),qa 29 (.bsl 40 3 5 [qt 16,qt 19,qt 22,qt 25,qt 28]),qa 30 (qc 22 [qt 15,qt 29]),qm 14 30,qe 31 14 0,qe 32 14 1,qm 2 31,qm 3 32]
 (qr [qm 33 2,qm 0 33]
 .ret)))))⟩
def i11:IFn:=⟨30,[.cell 0 2 true],(qr [qa 0 (.box (.c (.agg [.x .nils,.x .nils])))]
 (qr [qa 1 (qc 35 [(qs [99,110]),qi 1,(qb false)]),qa 2 (qc 35 [(qs [115,110]),qi 1,(qb false)]),qa 3 (qc 35 [(qs [111,117]),qi 1,(qb false)]),qa 4 (qc 35 [(qs [100,99]),qi 1,(qb false)]),qa 5 (qc 35 [(qs [111]),qi 1,(qb false)]),qa 6 (qc 35 [(qs [100,101,115,99,114,105,112,116,105,111,110]),qi 1,(qb false)]),qa 7 (qc 35 [(qs [109,97,105,108]),qi 1,(qb false)]),qa 8 (qc 35 [(qs [111,98,106,101,99,116,99,108,97,115,115]),qi 1,(qb false)]),qa 9 (qc 35 [(qs [117,115,101,114,112,97,115,115,119,111,114,100]),qi 4,(qb true)]),qa 10 (qc 35 [(qs [117,105,100]),qi 1,(qb true)]),qa 11 (qc 35 [(qs [117,105,100,110,117,109,98,101,114]),qi 3,(qb true)]),qa 12 (qc 35 [(qs [109,101,109,98,101,114]),qi 5,(qb false)]),qa 13 (qc 35 [(qs [115,101,114,105,97,108,110,117,109,98,101,114]),qi 2,(qb false)]),qa 14 (.bsl 35 3 13 [qt 1,qt 2,qt 3,qt 4,qt 5,qt 6,qt 7,qt 8,qt 9,qt 10,qt 11,qt 12,qt 13]),qa 15 (.build [.x (.str []),.x .nils,.x .nils] [(0,1,(qs [116,111,112]))]),qa 16 (.bsl 9 1 2 [(qs [99,110]),(qs [115,110])]),qa 17 (.bsl 9 1 7 [(qs [100,101,115,99,114,105,112,116,105,111,110]),(qs [117,115,101,114,112,97,115,115,119,111,114,100]),(qs [109,97,105,108]),(qs [117,105,100]),(qs [117,105,100,110,117,109,98,101,114]),(qs [115,101,114,105,97,108,110,117,109,98,101,114]),(qs [109,101,109,98,101,114])]),qa 18 (.build [.x (.str []),.x .nils,.x .nils] [(0,1,(qs [112,101,114,115,111,110])),(1,1,(qt 16)),(2,1,(qt 17))]),qa 19 (.bsl 9 1 1 [(qs [111,117])]),qa 20 (.bsl 9 1 2 [(qs [100,101,115,99,114,105,112,116,105,111,110]),(qs [109,101,109,98,101,114])]),qa 21 (.build [.x (.str []),.x .nils,.x .nils] [(0,1,(qs [111,114,103,97,110,105,122,97,116,105,111,110,97,108,117,110,105,116])),(1,1,(qt 19)),(2,1,(qt 20))]),qa 22 (.bsl 9 1 1 [(qs [100,99])]),qa 23 (.bsl 9 1 2 [(qs [100,101,115,99,114,105,112,116,105,111,110]),(qs [111])]),qa 24 (.build [.x (.str []),.x .nils,.x .nils] [(0,1,(qs [100,111,109,97,105,110])),(1,1,(qt 22)),(2,1,(qt 23))]),qa 25 (.bsl 9 1 1 [(qs [99,110])]),qa 26 (.bsl 9 1 2 [(qs [109,101,109,98,101,114]),(qs [100,101,115,99,114,105,112,116,105,111,110])]),qa 27 (.build [.x (.str []),.x .nils,.x .nils] [(0,1,(qs [103,114,111,117,112])),(1,1,(qt 25)),(2,1,(qt 26))]),qa 28 (.bsl 40 3 5 [qt 15,qt 18,qt 21,qt 24,qt 27]),qa 29 (.build [.x .nils,.x .nils] [(0,1,(qt 14)),(1,1,(qt 28))]),qo 2 0 29]
 .ret))⟩
def i12:IFn:=⟨17,[.cell 4 3 true,.tmp 5],(qr [qa 4 (.box (.c (.agg [.x (.str []),.x (.int .i64 (0)),.x (.bool false)]))),qa 5 (.mv (qb false))]
 (.seq (qr [qm 6 0,qa 7 (.eq .ptr false (qt 6) (.c (.x .nilp)))]
 (qC 7
 (qr [qa 8 (.build [.x (.str []),.x (.int .i64 (0)),.x (.bool false)] []),qo 3 4 8,qa 5 (.mv (qb false))]
 .ret)
 .skip))
 (qr [qm 9 0,qa 10 (.nck (qt 9)),qa 11 (qf 0 10),qa 12 (qf 0 11),qm 13 1,qa 14 (qc 36 [qt 12,qt 13]),qe 15 14 0,qe 16 14 1,qo 3 4 15,qm 5 16]
 .ret)))⟩
def i13:IFn:=⟨36,[.cell 4 3 true,.tmp 5],(qr [qa 2 (.box (qt 0)),qa 4 (.box (.c (.agg [.x (.str []),.x (.int .i64 (0)),.x (.bool false)]))),qa 5 (.mv (qb false))]
 (.seq (qr [qa 6 (.mv (qi 0))]
 (.block 0
 (.loop
 (.seq (qr [qm 8 6,qa 9 (qf 0 2),qa 10 (ql 9),qa 11 (qk false 10),qa 12 (q2 .lss 8 11)]
 (qC 12
 .skip
 (.exit 0)))
 (.seq (.block 1
 (qr [qa 15 (qf 0 2),qa 16 (ql 15),qm 17 6,qa 18 (qy 3 16 17),qa 19 (qf 0 18),qa 20 (ql 19),qa 21 (qc 32 [qt 20]),qm 22 1,qa 23 (qc 32 [qt 22]),qa 24 (q2 .eql 21 23)]
 (qC 24
 (qr [qa 25 (qf 0 2),qa 26 (ql 25),qm 27 6,qa 28 (qy 3 26 27),qa 29 (qL 3 28),qa 7 (.box (.c (.agg [.x (.str []),.x (.int .i64 (0)),.x (.bool false)]))),qo 3 7 29]
 (qr [qa 30 (qf 0 7),qa 31 (ql 30),qa 32 (qc 32 [qt 31]),qa 33 (qf 0 7),qo 1 33 32]
 (qr [qa 34 (qL 3 7),qo 3 4 34,qa 5 (.mv (qb true))]
 .ret)))
 .skip)))
 (.reg [qm 13 6,qa 14 (q3 .add 13 1),qm 6 14]))))))
 (qr [qa 35 (.build [.x (.str []),.x (.int .i64 (0)),.x (.bool false)] []),qo 3 4 35,qa 5 (.mv (qb false))]
 .ret)))⟩
def i14:IFn:=⟨24,[.cell 4 3 true,.tmp 5],(qr [qa 4 (.box (.c (.agg [.x (.str []),.x .nils,.x .nils]))),qa 5 (.mv (qb false))]
 (.seq (qr [qm 8 0,qa 9 (.eq .ptr false (qt 8) (.c (.x .nilp)))]
 (qC 9
 (qr [qa 10 (.build [.x (.str []),.x .nils,.x .nils] []),qo 3 4 10,qa 5 (.mv (qb false))]
 .ret)
 .skip))
 (.seq (.dreg 12 [] [qm 12 0,qa 13 (.nck (qt 12)),qa 14 (qf 0 13),qa 15 (qf 1 14),qa 16 (ql 15),qm 17 1,qa 18 (qc 37 [qt 17]),qa 19 (.mlk .str true (.agg [.x (.str []),.x .nils,.x .nils]) (qt 16) (qt 18)),qm 11 19,qe 20 11 0,qe 21 11 1,qa 6 (.box (.c (.agg [.x (.str []),.x .nils,.x .nils]))),qo 3 6 20,qm 7 21])
 (qr [qa 22 (qL 3 6),qm 23 7,qo 3 4 22,qm 5 23]
 .ret))))⟩
def i15:IFn:=⟨37,[.cell 4 3 true,.tmp 5],(qr [qa 2 (.box (qt 0)),qa 4 (.box (.c (.agg [.x (.str []),.x .nils,.x .nils]))),qa 5 (.mv (qb false))]
 (.seq (qr [qa 6 (.mv (qi 0))]
 (.block 0
 (.loop
 (.seq (qr [qm 8 6,qa 9 (qf 1 2),qa 10 (ql 9),qa 11 (qk false 10),qa 12 (q2 .lss 8 11)]
 (qC 12
 .skip
 (.exit 0)))
 (.seq (.block 1
 (qr [qa 15 (qf 1 2),qa 16 (ql 15),qm 17 6,qa 18 (qy 3 16 17),qa 19 (qL 3 18),qa 7 (.box (.c (.agg [.x (.str []),.x .nils,.x .nils]))),qo 3 7 19]
 (qr [qa 20 (qf 0 7),qa 21 (ql 20),qa 22 (qc 32 [qt 21]),qm 23 1,qa 24 (qc 32 [qt 23]),qa 25 (q2 .eql 22 24)]
 (qC 25
 (.seq (.dreg 8 [] [qa 26 (qf 0 7),qa 27 (ql 26),qa 28 (qc 32 [qt 27]),qa 29 (qf 1 7),qa 30 (ql 29),qa 31 (qc 38 [qt 30]),qa 32 (qf 2 7),qa 33 (ql 32),qa 34 (qc 38 [qt 33]),qa 35 (.build [.x (.str []),.x .nils,.x .nils] [(0,1,(qt 28)),(1,1,(qt 31)),(2,1,(qt 34))]),qo 3 4 35,qa 5 (.mv (qb true))])
 .ret)
 .skip))))
 (.reg [qm 13 6,qa 14 (q3 .add 13 1),qm 6 14]))))))
 (qr [qa 36 (.build [.x (.str []),.x .nils,.x .nils] []),qo 3 4 36,qa 5 (.mv (qb false))]
 .ret)))⟩
def i16:IFn:=⟨26,[.tmp 4],(qr [qa 4 (.mv (qb false))]
 (.seq (qr [qm 6 0,qa 7 (qk false 6),qm 8 1,qa 9 (qk false 8),qa 10 (q2 .neq 7 9)]
 (qC 10
 (qr [qa 4 (.mv (qb false))]
 .ret)
 .skip))
 (.seq (qr [qa 5 (.mv (qi 0))]
 (.block 0
 (.loop
 (.seq (qr [qm 11 5,qm 12 0,qa 13 (qk false 12),qa 14 (q2 .lss 11 13)]
 (qC 14
 .skip
 (.exit 0)))
 (.seq (.block 1
 (.seq (.dreg 8 [] [qm 17 0,qm 18 5,qa 19 (qy 1 17 18),qa 20 (ql 19),qm 21 1,qm 22 5,qa 23 (qy 1 21 22),qa 24 (ql 23),qa 25 (q2 .neq 20 24)])
 (qC 25
 (qr [qa 4 (.mv (qb false))]
 .ret)
 .skip)))
 (.reg [qm 15 5,qa 16 (q3 .add 15 1),qm 5 16]))))))
 (qr [qa 4 (.mv (qb true))]
 .ret))))⟩
def i17:IFn:=⟨108,[.tmp 4],(qr [qa 3 (.box (qt 1)),qa 4 (.mv (qi 0))]
 (.seq (qr [qm 21 0,qa 22 (.eq .ptr false (qt 21) (.c (.x .nilp)))]
 (qC 22
 (qr [qa 4 (.mv (qi 80))]
 .ret)
 .skip))
 (.seq (qr [qm 23 0,qa 24 (qL 2 3),qa 25 (qc 39 [qt 23,qt 24]),qm 5 25]
 (qr [qm 26 5,qa 27 (q3 .neq 26 0)]
 (qC 27
 (qr [qm 28 5,qm 4 28]
 .ret)
 .skip)))
 (qr [qa 29 (.mkm .str false),qm 6 29]
 (qr [qa 7 (.mv (.c (.x .nils)))]
 (.seq (qr [qa 30 (qf 1 3),qa 31 (ql 30),qa 32 (qk false 31),qa 33 (.mv (qi 0))]
 (.block 0
 (.loop
 (qr [qa 34 (q2 .lss 33 32)]
 (.seq (qC 34
 .skip
 (.exit 0))
 (.seq (.block 1
 (qr [qa 35 (qy 2 31 33),qa 36 (qL 2 35),qa 9 (.box (.c (.agg [.x (.str []),.x .nils]))),qo 2 9 36]
 (qr [qa 37 (qf 0 9),qa 38 (ql 37),qa 39 (qc 37 [qt 38]),qm 10 39]
 (qr [qm 40 6,qm 41 10,qa 42 (.mlk .str false (.x (.int .i64 (0))) (qt 40) (qt 41)),qa 43 (q3 .add 42 1),⟨none,.mup .str (qt 40) (qt 41) (qt 43),none⟩]
 (qr [qm 44 10,qa 45 (.bin .eql (qt 44) (qs [111,98,106,101,99,116,99,108,97,115,115]))]
 (qC 45
 (.reg [qa 46 (qf 1 9),qa 47 (ql 46),qm 7 47])
 .skip))))))
 (.reg [qa 48 (q3 .add 33 1),qm 33 48])))))))
 (qr [qa 49 (.mkm .str false),⟨none,.mup .str (qt 49) (qs [111,98,106,101,99,116,99,108,97,115,115]) (qi 1),none⟩,qm 50 49,qm 11 50]
 (.seq (qr [qm 51 7,qa 52 (qk false 51),qa 53 (.mv (qi 0))]
 (.block 2
 (.loop
 (qr [qa 54 (q2 .lss 53 52)]
 (.seq (qC 54
 .skip
 (.exit 2))
 (.seq (.block 3
 (qr [qa 55 (qy 1 51 53),qa 56 (ql 55),qm 13 56]
 (qr [qm 58 0,qm 59 13,qa 60 (qc 14 [qt 58,qt 59]),qm 57 60,qe 61 57 0,qe 62 57 1,qa 14 (.box (.c (.agg [.x (.str []),.x .nils,.x .nils]))),qo 3 14 61,qm 15 62]
 (.seq (qr [qm 63 15,qa 64 (qz 63)]
 (qC 64
 (qr [qa 4 (.mv (qi 65))]
 .ret)
 .skip))
 (.seq (qr [qa 65 (qf 1 14),qa 66 (ql 65),qa 67 (qk false 66),qa 68 (.mv (qi 0))]
 (.block 4
 (.loop
 (qr [qa 69 (q2 .lss 68 67)]
 (.seq (qC 69
 .skip
 (.exit 4))
 (.seq (.block 5
 (qr [qa 70 (qy 1 66 68),qa 71 (ql 70),qm 17 71]
 (.seq (qr [qm 72 6,qm 73 17,qa 74 (.mlk .str false (.x (.int .i64 (0))) (qt 72) (qt 73)),qa 75 (q3 .eql 74 0)]
 (qC 75
 (qr [qa 4 (.mv (qi 65))]
 .ret)
 .skip))
 (.reg [qm 76 11,qm 77 17,qa 78 (.mlk .str false (.x (.int .i64 (0))) (qt 76) (qt 77)),qa 79 (q3 .add 78 1),⟨none,.mup .str (qt 76) (qt 77) (qt 79),none⟩]))))
 (.reg [qa 80 (q3 .add 68 1),qm 68 80])))))))
 (qr [qa 81 (qf 2 14),qa 82 (ql 81),qa 83 (qk false 82),qa 84 (.mv (qi 0))]
 (.block 6
 (.loop
 (qr [qa 85 (q2 .lss 84 83)]
 (.seq (qC 85
 .skip
 (.exit 6))
 (.seq (.block 7
 (qr [qa 86 (qy 1 82 84),qa 87 (ql 86),qm 19 87]
 (.reg [qm 88 11,qm 89 19,qa 90 (.mlk .str false (.x (.int .i64 (0))) (qt 88) (qt 89)),qa 91 (q3 .add 90 1),⟨none,.mup .str (qt 88) (qt 89) (qt 91),none⟩])))
 (.reg [qa 92 (q3 .add 84 1),qm 84 92]))))))))))))
 (.reg [qa 93 (q3 .add 53 1),qm 53 93])))))))
 (.seq (qr [qm 94 6,qa 95 (.rgm (qt 94))]
 (.block 8
 (.loop
 (qr [qa 96 (.nxt false (qt 95)),qe 97 96 0]
 (.seq (qC 97
 .skip
 (.exit 8))
 (.block 9
 (qr [qa 98 (.ent (qt 95)),qe 99 98 0,qm 20 99]
 (qr [qm 100 11,qm 101 20,qa 102 (.mlk .str false (.x (.int .i64 (0))) (qt 100) (qt 101)),qa 103 (q3 .eql 102 0)]
 (qC 103
 (qr [qa 4 (.mv (qi 65))]
 .ret)
 .skip)))))))))
 (qr [qm 104 7,qa 105 (qk false 104),qa 106 (q3 .eql 105 0),qa 107 (qc 40 [qt 106,qi 65]),qm 4 107]
 .ret))))))))))⟩
def i18:IFn:=⟨115,[.tmp 4],(qr [qa 2 (.box (qt 0)),qa 3 (.box (qt 1)),qa 4 (.mv (qi 0))]
 (.seq (qr [qa 15 (qL 2 2),qa 16 (qL 2 3),qa 17 (qc 41 [qt 15,qt 16]),qm 5 17]
 (qr [qm 18 5,qa 19 (q3 .neq 18 0)]
 (qC 19
 (qr [qm 20 5,qm 4 20]
 .ret)
 .skip)))
 (qr [qa 6 (.mv (.c (.x .nils))),qa 7 (.mv (.c (.x .nils))),qa 8 (.mv (.c (.x .nils)))]
 (.seq (qr [qa 9 (.mv (qi 0))]
 (.block 0
 (.loop
 (.seq (qr [qm 21 9,qa 22 (qf 1 3),qa 23 (ql 22),qa 24 (qk false 23),qa 25 (q2 .lss 21 24)]
 (qC 25
 .skip
 (.exit 0)))
 (.seq (.block 1
 (qr [qm 28 6,qa 29 (qf 1 3),qa 30 (ql 29),qm 31 9,qa 32 (qy 2 30 31),qa 33 (qf 0 32),qa 34 (ql 33),qa 35 (qc 32 [qt 34]),qa 36 (.bsl 9 1 1 [qt 35]),qa 37 (.app 9 1 16 (qt 28) (qt 36)),qm 6 37]
 (qr [qa 38 (qf 1 3),qa 39 (ql 38),qm 40 9,qa 41 (qy 2 39 40),qa 42 (qf 0 41),qa 43 (ql 42),qa 44 (qc 32 [qt 43]),qa 45 (.bin .eql (qt 44) (qs [111,98,106,101,99,116,99,108,97,115,115]))]
 (qC 45
 (.reg [qa 46 (qf 1 3),qa 47 (ql 46),qm 48 9,qa 49 (qy 2 47 48),qa 50 (qf 1 49),qa 51 (ql 50),qm 7 51])
 .skip))))
 (.reg [qm 26 9,qa 27 (q3 .add 26 1),qm 9 27]))))))
 (.seq (qr [qm 52 7,qa 53 (qk false 52),qa 54 (q3 .eql 53 0)]
 (qC 54
 (qr [qa 4 (.mv (qi 65))]
 .ret)
 .skip))
 (.seq (qr [qa 10 (.mv (qi 0))]
 (.block 2
 (.loop
 (.seq (qr [qm 55 10,qm 56 7,qa 57 (qk false 56),qa 58 (q2 .lss 55 57)]
 (qC 58
 .skip
 (.exit 2)))
 (.seq (.block 3
 (.seq (.dreg 10 [] [qa 62 (qL 2 2),qm 63 7,qm 64 10,qa 65 (qy 1 63 64),qa 66 (ql 65),qa 67 (qc 15 [qt 62,qt 66]),qm 61 67,qe 68 61 0,qe 69 61 1,qa 11 (.box (.c (.agg [.x (.str []),.x .nils,.x .nils]))),qo 3 11 68,qm 12 69])
 (.seq (qr [qm 70 12,qa 71 (qz 70)]
 (qC 71
 (qr [qa 4 (.mv (qi 65))]
 .ret)
 .skip))
 (.seq (qr [qa 13 (.mv (qi 0))]
 (.block 4
 (.loop
 (.seq (qr [qm 72 13,qa 73 (qf 1 11),qa 74 (ql 73),qa 75 (qk false 74),qa 76 (q2 .lss 72 75)]
 (qC 76
 .skip
 (.exit 4)))
 (.seq (.block 5
 (qr [qm 79 6,qa 80 (qf 1 11),qa 81 (ql 80),qm 82 13,qa 83 (qy 1 81 82),qa 84 (ql 83),qa 85 (qc 42 [qt 79,qt 84]),qa 86 (qz 85)]
 (qC 86
 (qr [qa 4 (.mv (qi 65))]
 .ret)
 .skip)))
 (.reg [qm 77 13,qa 78 (q3 .add 77 1),qm 13 78]))))))
 (qr [qm 87 8,qa 88 (qf 1 11),qa 89 (ql 88),qa 90 (.app 9 1 16 (qt 87) (qt 89)),qm 8 90]
 (.reg [qm 91 8,qa 92 (qf 2 11),qa 93 (ql 92),qa 94 (.app 9 1 16 (qt 91) (qt 93)),qm 8 94]))))))
 (.reg [qm 59 10,qa 60 (q3 .add 59 1),qm 10 60]))))))
 (.seq (qr [qa 14 (.mv (qi 0))]
 (.block 6
 (.loop
 (.seq (qr [qm 95 14,qm 96 6,qa 97 (qk false 96),qa 98 (q2 .lss 95 97)]
 (qC 98
 .skip
 (.exit 6)))
 (.seq (.block 7
 (qr [qm 101 6,qm 102 14,qa 103 (qy 1 101 102),qa 104 (ql 103),qa 105 (.bin .neq (qt 104) (qs [111,98,106,101,99,116,99,108,97,115,115])),qm 106 105,qh 107 8 106,qh 108 6 106,qh 109 14 106,qT 110 (qy 1 108 109) 106,qT 111 (ql 110) 106,qT 112 (qc 42 [qt 107,qt 111]) 106,qT 113 (qz 112) 106,qa 114 (qP 106 113)]
 (qC 114
 (qr [qa 4 (.mv (qi 65))]
 .ret)
 .skip)))
 (.reg [qm 99 14,qa 100 (q3 .add 99 1),qm 14 100]))))))
 (qr [qa 4 (.mv (qi 0))]
 .ret))))))))⟩
def i19:IFn:=⟨13,[.tmp 2],(qr [qa 2 (.mv (.c (.x .nils)))]
 (.seq (qr [qm 3 0,qa 4 (.eq .ptr false (qt 3) (.c (.x .nilp)))]
 (qC 4
 (qr [qa 2 (.mv (.c (.x .nils)))]
 .ret)
 .skip))
 (qr [qm 5 0,qa 6 (.nck (qt 5)),qa 7 (qf 0 6),qa 8 (qf 0 7),qa 9 (qf 0 8),qa 10 (ql 9),qa 11 (qc 44 [qt 10]),qa 12 (qc 43 [qt 11]),qm 2 12]
 .ret)))⟩
def i20:IFn:=⟨51,[.tmp 2],(qr [qa 1 (.box (qt 0)),qa 2 (.mv (.c (.x .nils)))]
 (qr [qa 3 (.mv (.c (.x .nils)))]
 (.seq (qr [qa 4 (.mv (qi 0))]
 (.block 0
 (.loop
 (.seq (qr [qm 8 4,qa 9 (qf 0 1),qa 10 (ql 9),qa 11 (qk false 10),qa 12 (q2 .lss 8 11)]
 (qC 12
 .skip
 (.exit 0)))
 (.seq (.block 1
 (qr [qa 15 (qf 0 1),qa 16 (ql 15),qm 17 4,qa 18 (qy 3 16 17),qa 19 (qf 0 18),qa 20 (ql 19),qa 21 (qc 32 [qt 20]),qm 5 21]
 (qr [qa 6 (.mv (qi 0))]
 (.seq (.block 2
 (.loop
 (.seq (qr [qm 22 6,qm 23 3,qa 24 (qk false 23),qa 25 (q2 .lss 22 24),qm 26 25,qh 27 3 26,qh 28 6 26,qT 29 (qy 1 27 28) 26,qT 30 (ql 29) 26,qh 31 5 26,qT 32 (q2 .lss 30 31) 26,qa 33 (qP 26 32)]
 (qC 33
 .skip
 (.exit 2)))
 (.block 3
 (.reg [qm 34 6,qa 35 (q3 .add 34 1),qm 6 35])))))
 (qr [qa 7 (.mv (.c (.x .nils)))]
 (qr [qm 36 7,qm 37 3,qm 38 6,qa 39 (.slc 1 (qt 37) none (some (qt 38)) none),qa 40 (.app 9 1 16 (qt 36) (qt 39)),qm 7 40]
 (qr [qm 41 7,qm 42 5,qa 43 (.bsl 9 1 1 [qt 42]),qa 44 (.app 9 1 16 (qt 41) (qt 43)),qm 7 44]
 (.reg [qm 45 7,qm 46 3,qm 47 6,qa 48 (.slc 1 (qt 46) (some (qt 47)) none none),qa 49 (.app 9 1 16 (qt 45) (qt 48)),qm 3 49]))))))))
 (.reg [qm 13 4,qa 14 (q3 .add 13 1),qm 4 14]))))))
 (qr [qm 50 3,qm 2 50]
 .ret))))⟩
def i21:IFn:=⟨59,[.tmp 4],(qr [qa 4 (.mv (qb false))]
 (.seq (qr [qm 7 0,qa 8 (qk false 7),qa 9 (q3 .gtr 8 12),qm 10 9,qj 11 1 10,qF 12 (qk false 11) 10,qF 13 (q3 .gtr 12 6) 10,qa 14 (qp 10 13)]
 (qC 14
 (qr [qa 4 (.mv (qb false))]
 .ret)
 .skip))
 (.seq (qr [qa 5 (.mv (qi 0))]
 (.block 0
 (.loop
 (.seq (qr [qm 15 5,qm 16 0,qa 17 (qk false 16),qa 18 (q2 .lss 15 17)]
 (qC 18
 .skip
 (.exit 0)))
 (.seq (.block 1
 (qr [qm 21 0,qm 22 5,qa 23 (qy 3 21 22),qa 24 (qf 0 23),qa 25 (ql 24),qa 26 (qk true 25),qa 27 (q3 .gtr 26 80)]
 (qC 27
 (qr [qa 4 (.mv (qb false))]
 .ret)
 .skip)))
 (.reg [qm 19 5,qa 20 (q3 .add 19 1),qm 5 20]))))))
 (.seq (qr [qa 6 (.mv (qi 0))]
 (.block 2
 (.loop
 (.seq (qr [qm 28 6,qm 29 1,qa 30 (qk false 29),qa 31 (q2 .lss 28 30)]
 (qC 31
 .skip
 (.exit 2)))
 (.seq (.block 3
 (qr [qm 34 1,qm 35 6,qa 36 (qy 3 34 35),qa 37 (qf 0 36),qa 38 (ql 37),qa 39 (qk true 38),qa 40 (q3 .gtr 39 80),qm 41 40,qj 42 1 41,qj 43 6 41,qF 44 (qy 3 42 43) 41,qF 45 (qf 1 44) 41,qF 46 (ql 45) 41,qF 47 (qk false 46) 41,qF 48 (q3 .gtr 47 5) 41,qa 49 (qp 41 48),qm 50 49,qj 51 1 50,qj 52 6 50,qF 53 (qy 3 51 52) 50,qF 54 (qf 2 53) 50,qF 55 (ql 54) 50,qF 56 (qk false 55) 50,qF 57 (q3 .gtr 56 5) 50,qa 58 (qp 50 57)]
 (qC 58
 (qr [qa 4 (.mv (qb false))]
 .ret)
 .skip)))
 (.reg [qm 32 6,qa 33 (q3 .add 32 1),qm 6 33]))))))
 (qr [qa 4 (.mv (qb true))]
 .ret)))))⟩
def i22:IFn:=⟨110,[.tmp 4,.tmp 5],(qr [qa 4 (.mv (.c (.x .nilp))),qa 5 (.mv (qi 0))]
 (.seq (qr [qm 19 0,qm 20 1,qa 21 (qc 45 [qt 19,qt 20]),qm 6 21]
 (qr [qm 22 6,qa 23 (q3 .neq 22 0)]
 (qC 23
 (qr [qm 24 6,qa 4 (.mv (.c (.x .nilp))),qm 5 24]
 .ret)
 .skip)))
 (qr [qa 25 (.mkm .str true),qa 26 (.build [.mnil] [(0,1,(qt 25))]),qa 27 (.mkm .str true),qa 28 (.build [.mnil,.mnil] [(0,1,(qt 26)),(1,1,(qt 27))]),qa 29 (.build [.mnil,.mnil] [(0,2,(qt 28))]),qa 30 (.box (qt 29)),qm 7 30]
 (.seq (qr [qm 31 0,qa 32 (qk false 31),qa 33 (.mv (qi 0))]
 (.block 0
 (.loop
 (qr [qa 34 (q2 .lss 33 32)]
 (.seq (qC 34
 .skip
 (.exit 0))
 (.seq (.block 1
 (qr [qa 35 (qy 3 31 33),qa 36 (qL 3 35),qa 9 (.box (.c (.agg [.x (.str []),.x (.int .i64 (0)),.x (.bool false)]))),qo 3 9 36]
 (qr [qa 37 (qf 0 9),qa 38 (ql 37),qa 39 (qc 37 [qt 38]),qa 40 (qf 0 9),qo 1 40 39]
 (.dreg 9 [] [qm 41 7,qa 42 (.nck (qt 41)),qa 43 (qf 0 42),qa 44 (qf 0 43),qa 45 (qf 0 44),qa 46 (ql 45),qa 47 (qf 0 9),qa 48 (ql 47),qa 49 (qL 3 9),⟨none,.mup .str (qt 46) (qt 48) (qt 49),none⟩]))))
 (.reg [qa 50 (q3 .add 33 1),qm 33 50])))))))
 (.seq (qr [qm 51 1,qa 52 (qk false 51),qa 53 (.mv (qi 0))]
 (.block 2
 (.loop
 (qr [qa 54 (q2 .lss 53 52)]
 (.seq (qC 54
 .skip
 (.exit 2))
 (.seq (.block 3
 (qr [qa 55 (qy 3 51 53),qa 56 (qL 3 55),qa 11 (.box (.c (.agg [.x (.str []),.x .nils,.x .nils]))),qo 3 11 56]
 (.seq (.dreg 11 [] [qa 57 (qf 0 11),qa 58 (ql 57),qa 59 (qc 37 [qt 58]),qa 60 (qf 1 11),qa 61 (ql 60),qa 62 (qc 46 [qt 61,(.c (.fn 37 []))]),qa 63 (qf 2 11),qa 64 (ql 63),qa 65 (qc 46 [qt 64,(.c (.fn 37 []))]),qa 66 (.build [.x (.str []),.x .nils,.x .nils] [(0,1,(qt 59)),(1,1,(qt 62)),(2,1,(qt 65))]),qa 12 (.box (.c (.agg [.x (.str []),.x .nils,.x .nils]))),qo 3 12 66])
 (.seq (qr [qa 67 (qf 1 12),qa 68 (ql 67),qa 69 (qf 2 12),qa 70 (ql 69),qa 71 (.bsl 38 1 2 [qt 68,qt 70]),qa 72 (qc 47 [qt 71]),qa 73 (qk false 72),qa 74 (.mv (qi 0))]
 (.block 4
 (.loop
 (qr [qa 75 (q2 .lss 74 73)]
 (.seq (qC 75
 .skip
 (.exit 4))
 (.seq (.block 5
 (qr [qa 76 (qy 1 72 74),qa 77 (ql 76),qm 14 77]
 (qr [qm 79 7,qa 80 (.nck (qt 79)),qa 81 (qf 0 80),qa 82 (qf 0 81),qm 83 14,qa 84 (qc 36 [qt 82,qt 83]),qm 78 84,qe 85 78 0,qe 86 78 1,qa 15 (.box (.c (.agg [.x (.str []),.x (.int .i64 (0)),.x (.bool false)]))),qo 3 15 85,qm 16 86]
 (qr [qm 87 16,qa 88 (qz 87)]
 (qC 88
 (qr [qa 4 (.mv (.c (.x .nilp))),qa 5 (.mv (qi 8))]
 .ret)
 .skip)))))
 (.reg [qa 89 (q3 .add 74 1),qm 74 89])))))))
 (.dreg 8 [] [qm 90 7,qa 91 (.nck (qt 90)),qa 92 (qf 0 91),qa 93 (qf 1 92),qa 94 (ql 93),qa 95 (qf 0 12),qa 96 (ql 95),qa 97 (qL 3 12),⟨none,.mup .str (qt 94) (qt 96) (qt 97),none⟩])))))
 (.reg [qa 98 (q3 .add 53 1),qm 53 98])))))))
 (.seq (qr [qm 100 7,qa 101 (.nck (qt 100)),qa 102 (qf 0 101),qa 103 (qf 0 102),qa 104 (qc 36 [qt 103,(qs [111,98,106,101,99,116,99,108,97,115,115])]),qm 99 104,qe 105 99 0,qe 106 99 1,qa 17 (.box (.c (.agg [.x (.str []),.x (.int .i64 (0)),.x (.bool false)]))),qo 3 17 105,qm 18 106]
 (qr [qm 107 18,qa 108 (qz 107)]
 (qC 108
 (qr [qa 4 (.mv (.c (.x .nilp))),qa 5 (.mv (qi 8))]
 .ret)
 .skip)))
 (qr [qm 109 7,qm 4 109,qa 5 (.mv (qi 0))]
 .ret)))))))⟩
def i23:IFn:=⟨81,[.cell 4 2 true,.tmp 5],(qr [qa 4 (.box (.c (.agg [.x .nils,.x .nils]))),qa 5 (.mv (qi 0))]
 (.seq (qr [qm 15 0,qa 16 (qk false 15),qa 17 (q3 .gtr 16 1024),qm 18 17,qj 19 1 18,qF 20 (qk false 19) 18,qF 21 (q3 .gtr 20 1024) 18,qa 22 (qp 18 21)]
 (qC 22
 (qr [qa 23 (.build [.x .nils,.x .nils] []),qo 2 4 23,qa 5 (.mv (qi 3))]
 .ret)
 .skip))
 (.seq (qr [qm 24 0,qm 25 1,qa 26 (qc 48 [qt 24,qt 25]),qm 6 26]
 (qr [qm 27 6,qa 28 (q3 .neq 27 0)]
 (qC 28
 (qr [qa 29 (.build [.x .nils,.x .nils] []),qm 30 6,qo 2 4 29,qm 5 30]
 .ret)
 .skip)))
 (qr [qm 31 0,qm 32 1,qa 33 (.build [.x .nils,.x .nils] [(0,1,(qt 31)),(1,1,(qt 32))]),qa 7 (.box (.c (.agg [.x .nils,.x .nils]))),qo 2 7 33]
 (.seq (qr [qa 8 (.mv (qi 0))]
 (.block 0
 (.loop
 (.seq (qr [qm 34 8,qm 35 1,qa 36 (qk false 35),qa 37 (q2 .lss 34 36)]
 (qC 37
 .skip
 (.exit 0)))
 (.seq (.block 1
 (qr [qa 9 (.mv (.c (.x .nils)))]
 (qr [qm 40 9,qm 41 1,qm 42 8,qa 43 (qy 3 41 42),qa 44 (qf 1 43),qa 45 (ql 44),qa 46 (.app 9 1 16 (qt 40) (qt 45)),qm 9 46]
 (qr [qm 47 9,qm 48 1,qm 49 8,qa 50 (qy 3 48 49),qa 51 (qf 2 50),qa 52 (ql 51),qa 53 (.app 9 1 16 (qt 47) (qt 52)),qm 9 53]
 (qr [qa 10 (.mv (qi 0))]
 (.block 2
 (.loop
 (.seq (qr [qm 54 10,qm 55 9,qa 56 (qk false 55),qa 57 (q2 .lss 54 56)]
 (qC 57
 .skip
 (.exit 2)))
 (.seq (.block 3
 (.seq (.dreg 10 [] [qa 61 (qL 2 7),qm 62 9,qm 63 10,qa 64 (qy 1 62 63),qa 65 (ql 64),qa 66 (qc 13 [qt 61,qt 65]),qm 60 66,qe 67 60 0,qe 68 60 1,qa 11 (.box (.c (.agg [.x (.str []),.x (.int .i64 (0)),.x (.bool false)]))),qo 3 11 67,qm 12 68])
 (qr [qm 69 12,qa 70 (qz 69)]
 (qC 70
 (qr [qa 71 (.build [.x .nils,.x .nils] []),qo 2 4 71,qa 5 (.mv (qi 8))]
 .ret)
 .skip))))
 (.reg [qm 58 10,qa 59 (q3 .add 58 1),qm 10 59]))))))))))
 (.reg [qm 38 8,qa 39 (q3 .add 38 1),qm 8 39]))))))
 (.seq (qr [qa 73 (qL 2 7),qa 74 (qc 13 [qt 73,(qs [111,98,106,101,99,116,99,108,97,115,115])]),qm 72 74,qe 75 72 0,qe 76 72 1,qa 13 (.box (.c (.agg [.x (.str []),.x (.int .i64 (0)),.x (.bool false)]))),qo 3 13 75,qm 14 76]
 (qr [qm 77 14,qa 78 (qz 77)]
 (qC 78
 (qr [qa 79 (.build [.x .nils,.x .nils] []),qo 2 4 79,qa 5 (.mv (qi 8))]
 .ret)
 .skip)))
 (qr [qa 80 (qL 2 7),qo 2 4 80,qa 5 (.mv (qi 0))]
 .ret)))))))⟩
def i32:IFn:=⟨29,[.tmp 2],(qr [qa 2 (.mv (qs []))]
 (qr [qa 3 (.mv (.c (.x .nils)))]
 (.seq (qr [qa 4 (.mv (qi 0))]
 (.block 0
 (.loop
 (.seq (qr [qm 6 4,qm 7 0,qa 8 (qk true 7),qa 9 (q2 .lss 6 8)]
 (qC 9
 .skip
 (.exit 0)))
 (.seq (.block 1
 (qr [qm 12 0,qm 13 4,qa 14 (qx 12 13),qm 5 14]
 (.seq (qr [qm 15 5,qa 16 (q8 .geq 15 65),qm 17 16,qh 18 5 17,qT 19 (q8 .leq 18 90) 17,qa 20 (qP 17 19)]
 (qC 20
 (.reg [qm 21 5,qa 22 (q8 .add 21 32),qm 5 22])
 .skip))
 (.reg [qm 23 3,qm 24 5,qa 25 (.bsl 5 1 1 [qt 24]),qa 26 (.app 5 1 1 (qt 23) (qt 25)),qm 3 26]))))
 (.reg [qm 10 4,qa 11 (q3 .add 10 1),qm 4 11]))))))
 (qr [qm 27 3,qa 28 (.b2s (qt 27)),qm 2 28]
 .ret))))⟩
def i33:IFn:=⟨9,[.cell 0 2 true],(qr [qa 0 (.box (.c (.agg [.x (.str []),.x .nils])))]
 (qr [qa 1 (.bsl 9 1 2 [(qs [116,111,112]),(qs [80,101,114,115,111,110])]),qa 2 (.build [.x (.str []),.x .nils] [(0,1,(qs [111,98,106,101,99,116,67,108,97,115,115])),(1,1,(qt 1))]),qa 3 (.bsl 9 1 1 [(qs [97])]),qa 4 (.build [.x (.str []),.x .nils] [(0,1,(qs [99,110])),(1,1,(qt 3))]),qa 5 (.bsl 9 1 1 [(qs [98])]),qa 6 (.build [.x (.str []),.x .nils] [(0,1,(qs [115,110])),(1,1,(qt 5))]),qa 7 (.bsl 72 2 3 [qt 2,qt 4,qt 6]),qa 8 (.build [.x (.str []),.x .nils] [(0,1,(qs [99,110,61,97])),(1,1,(qt 7))]),qo 2 0 8]
 .ret))⟩
def i34:IFn:=⟨19,[.tmp 2],(qr [qa 2 (.mv (.c (.x .nils)))]
 (qr [qa 3 (.mv (.c (.x .nils)))]
 (.seq (qr [qm 6 0,qa 7 (qk false 6),qa 8 (.mv (qi 0))]
 (.block 0
 (.loop
 (qr [qa 9 (q2 .lss 8 7)]
 (.seq (qC 9
 .skip
 (.exit 0))
 (.seq (.block 1
 (qr [qa 10 (qy 1 6 8),qa 11 (ql 10),qm 5 11]
 (.reg [qm 12 3,qm 13 5,qa 14 (.build [.x (.str []),.x (.int .i64 (0)),.x (.bool false)] [(0,1,(qt 13)),(1,1,(qi 1))]),qa 15 (.bsl 35 3 1 [qt 14]),qa 16 (.app 35 3 32 (qt 12) (qt 15)),qm 3 16])))
 (.reg [qa 17 (q3 .add 8 1),qm 8 17])))))))
 (qr [qm 18 3,qm 2 18]
 .ret))))⟩
def i35:IFn:=⟨11,[.cell 6 3 true],(qr [qa 6 (.box (.c (.agg [.x (.str []),.x (.int .i64 (0)),.x (.bool false)])))]
 (qr [qm 7 0,qm 8 1,qm 9 2,qa 10 (.build [.x (.str []),.x (.int .i64 (0)),.x (.bool false)] [(0,1,(qt 7)),(1,1,(qt 8)),(2,1,(qt 9))]),qo 3 6 10]
 .ret))⟩
def i36:IFn:=⟨20,[.cell 4 3 true,.tmp 5],(qr [qa 4 (.box (.c (.agg [.x (.str []),.x (.int .i64 (0)),.x (.bool false)]))),qa 5 (.mv (qb false))]
 (.seq (.dreg 11 [] [qm 9 0,qa 10 (.nck (qt 9)),qa 11 (qf 0 10),qa 12 (ql 11),qm 13 1,qa 14 (qc 37 [qt 13]),qa 15 (.mlk .str true (.agg [.x (.str []),.x (.int .i64 (0)),.x (.bool false)]) (qt 12) (qt 14)),qm 8 15,qe 16 8 0,qe 17 8 1,qa 6 (.box (.c (.agg [.x (.str []),.x (.int .i64 (0)),.x (.bool false)]))),qo 3 6 16,qm 7 17])
 (qr [qa 18 (qL 3 6),qm 19 7,qo 3 4 18,qm 5 19]
 .ret)))⟩
def i37:IFn:=⟨30,[.tmp 2],(qr [qa 2 (.mv (qs []))]
 (qr [qm 6 0,qa 7 (.s2b 5 (qt 6)),qm 3 7]
 (.seq (qr [qm 8 3,qa 9 (qk false 8),qa 10 (.mv (qi 0))]
 (.block 0
 (.loop
 (qr [qa 11 (q2 .lss 10 9)]
 (.seq (qC 11
 .skip
 (.exit 0))
 (.seq (.block 1
 (qr [qm 12 10,qa 13 (qy 1 8 10),qa 14 (ql 13),qm 4 12,qm 5 14]
 (qr [qm 15 5,qa 16 (q8 .geq 15 65),qm 17 16,qh 18 5 17,qT 19 (q8 .leq 18 90) 17,qa 20 (qP 17 19)]
 (qC 20
 (.reg [qm 21 3,qm 22 4,qm 23 5,qa 24 (q8 .sub 23 65),qa 25 (q8 .add 24 97),qa 26 (qy 1 21 22),qo 1 26 25])
 .skip))))
 (.reg [qa 27 (q3 .add 10 1),qm 10 27])))))))
 (qr [qm 28 3,qa 29 (.b2s (qt 28)),qm 2 29]
 .ret))))⟩
def i38:IFn:=⟨20,[.tmp 2],(qr [qa 2 (.mv (.c (.x .nils)))]
 (qr [qa 3 (.mv (.c (.x .nils)))]
 (.seq (qr [qa 4 (.mv (qi 0))]
 (.block 0
 (.loop
 (.seq (qr [qm 5 4,qm 6 0,qa 7 (qk false 6),qa 8 (q2 .lss 5 7)]
 (qC 8
 .skip
 (.exit 0)))
 (.seq (.block 1
 (.reg [qm 11 3,qm 12 0,qm 13 4,qa 14 (qy 1 12 13),qa 15 (ql 14),qa 16 (qc 32 [qt 15]),qa 17 (.bsl 9 1 1 [qt 16]),qa 18 (.app 9 1 16 (qt 11) (qt 17)),qm 3 18]))
 (.reg [qm 9 4,qa 10 (q3 .add 9 1),qm 4 10]))))))
 (qr [qm 19 3,qm 2 19]
 .ret))))⟩
def i39:IFn:=⟨23,[.tmp 4],(qr [qa 3 (.box (qt 1)),qa 4 (.mv (qi 0))]
 (qr [qa 9 (.mkm .str false),qa 5 (.box (.c (.mnil))),qo 1 5 9]
 (.seq (qr [qa 10 (.mkf 66 [qt 5]),qa 11 (.build [.und,.und,.und,.und,.und] [(0,1,(.c (.fn 62 []))),(1,1,(.c (.fn 63 []))),(2,1,(.c (.fn 64 []))),(3,1,(qt 10)),(4,1,(.c (.fn 68 [])))]),qa 12 (.mv (qi 0))]
 (.block 0
 (.loop
 (qr [qa 13 (q3 .lss 12 5)]
 (.seq (qC 13
 .skip
 (.exit 0))
 (.seq (.block 1
 (qr [qa 14 (.idxa 1 5 false (qt 11) (qt 12)),qm 7 14]
 (qr [qm 15 0,qa 16 (qL 2 3),qm 17 7,qa 18 (qc 69 [qt 15,qt 16,qt 17]),qm 8 18]
 (qr [qm 19 8,qa 20 (q3 .neq 19 0)]
 (qC 20
 (qr [qm 21 8,qm 4 21]
 .ret)
 .skip)))))
 (.reg [qa 22 (q3 .add 12 1),qm 12 22])))))))
 (qr [qa 4 (.mv (qi 0))]
 .ret))))⟩
def i40:IFn:=⟨7,[.tmp 4],(qr [qa 4 (.mv (qi 0))]
 (.seq (qr [qm 5 0]
 (qC 5
 (qr [qm 6 1,qm 4 6]
 .ret)
 .skip))
 (qr [qa 4 (.mv (qi 0))]
 .ret)))⟩
def i41:IFn:=⟨99,[.tmp 4],(qr [qa 2 (.box (qt 0)),qa 3 (.box (qt 1)),qa 4 (.mv (qi 0))]
 (.seq (qr [qa 5 (.mv (qi 0))]
 (.block 0
 (.loop
 (.seq (qr [qm 15 5,qa 16 (qf 1 3),qa 17 (ql 16),qa 18 (qk false 17),qa 19 (q2 .lss 15 18)]
 (qC 19
 .skip
 (.exit 0)))
 (.seq (.block 1
 (.seq (.dreg 12 [] [qa 23 (qL 2 2),qa 24 (qf 1 3),qa 25 (ql 24),qm 26 5,qa 27 (qy 2 25 26),qa 28 (qf 0 27),qa 29 (ql 28),qa 30 (qc 13 [qt 23,qt 29]),qm 22 30,qe 31 22 0,qe 32 22 1,qa 6 (.box (.c (.agg [.x (.str []),.x (.int .i64 (0)),.x (.bool false)]))),qo 3 6 31,qm 7 32])
 (qr [qm 33 7,qa 34 (qz 33)]
 (qC 34
 (qr [qa 4 (.mv (qi 17))]
 .ret)
 .skip))))
 (.reg [qm 20 5,qa 21 (q3 .add 20 1),qm 5 21]))))))
 (.seq (qr [qa 8 (.mv (qi 0))]
 (.block 2
 (.loop
 (.seq (qr [qm 35 8,qa 36 (qf 1 3),qa 37 (ql 36),qa 38 (qk false 37),qa 39 (q2 .lss 35 38)]
 (qC 39
 .skip
 (.exit 2)))
 (.seq (.block 3
 (qr [qa 42 (qf 1 3),qa 43 (ql 42),qm 44 8,qa 45 (qy 2 43 44),qa 46 (qf 1 45),qa 47 (ql 46),qa 48 (qk false 47),qa 49 (q3 .eql 48 0)]
 (qC 49
 (qr [qa 4 (.mv (qi 19))]
 .ret)
 .skip)))
 (.reg [qm 40 8,qa 41 (q3 .add 40 1),qm 8 41]))))))
 (.seq (qr [qa 9 (.mv (qi 0))]
 (.block 4
 (.loop
 (.seq (qr [qm 50 9,qa 51 (qf 1 3),qa 52 (ql 51),qa 53 (qk false 52),qa 54 (q2 .lss 50 53)]
 (qC 54
 .skip
 (.exit 4)))
 (.seq (.block 5
 (.seq (.dreg 12 [] [qa 58 (qL 2 2),qa 59 (qf 1 3),qa 60 (ql 59),qm 61 9,qa 62 (qy 2 60 61),qa 63 (qf 0 62),qa 64 (ql 63),qa 65 (qc 13 [qt 58,qt 64]),qm 57 65,qe 66 57 0,qe 67 57 1,qa 10 (.box (.c (.agg [.x (.str []),.x (.int .i64 (0)),.x (.bool false)]))),qo 3 10 66,qm 11 67])
 (qr [qa 12 (.mv (qi 0))]
 (.block 6
 (.loop
 (.seq (qr [qm 68 12,qa 69 (qf 1 3),qa 70 (ql 69),qm 71 9,qa 72 (qy 2 70 71),qa 73 (qf 1 72),qa 74 (ql 73),qa 75 (qk false 74),qa 76 (q2 .lss 68 75)]
 (qC 76
 .skip
 (.exit 6)))
 (.seq (.block 7
 (.seq (.dreg 11 [] [qa 80 (qf 1 10),qa 81 (ql 80),qa 82 (qf 1 3),qa 83 (ql 82),qm 84 9,qa 85 (qy 2 83 84),qa 86 (qf 1 85),qa 87 (ql 86),qm 88 12,qa 89 (qy 1 87 88),qa 90 (ql 89),qa 91 (qc 70 [qt 81,qt 90]),qm 79 91,qe 92 79 0,qe 93 79 1,qm 13 92,qm 14 93])
 (qr [qm 94 14,qa 95 (qz 94)]
 (qC 95
 (qr [qa 4 (.mv (qi 21))]
 .ret)
 .skip))))
 (.reg [qm 77 12,qa 78 (q3 .add 77 1),qm 12 78]))))))))
 (.reg [qm 55 9,qa 56 (q3 .add 55 1),qm 9 56]))))))
 (qr [qa 96 (qL 2 2),qa 97 (qL 2 3),qa 98 (qc 71 [qt 96,qt 97]),qm 4 98]
 .ret)))))⟩
def i42:IFn:=⟨18,[.tmp 4],(qr [qa 4 (.mv (qb false))]
 (.seq (qr [qa 5 (.mv (qi 0))]
 (.block 0
 (.loop
 (.seq (qr [qm 6 5,qm 7 0,qa 8 (qk false 7),qa 9 (q2 .lss 6 8)]
 (qC 9
 .skip
 (.exit 0)))
 (.seq (.block 1
 (qr [qm 12 0,qm 13 5,qa 14 (qy 1 12 13),qa 15 (ql 14),qm 16 1,qa 17 (q2 .eql 15 16)]
 (qC 17
 (qr [qa 4 (.mv (qb true))]
 .ret)
 .skip)))
 (.reg [qm 10 5,qa 11 (q3 .add 10 1),qm 5 11]))))))
 (qr [qa 4 (.mv (qb false))]
 .ret)))⟩
def i45:IFn:=⟨24,[.tmp 4],(qr [qa 2 (.box (qt 0)),qa 4 (.mv (qi 0))]
 (.seq (qr [qa 6 (ql 2),qa 7 (qk false 6),qa 8 (q3 .gtr 7 1024),qm 9 8,qj 10 1 9,qF 11 (qk false 10) 9,qF 12 (q3 .gtr 11 1024) 9,qa 13 (qp 9 12)]
 (qC 13
 (qr [qa 4 (.mv (qi 3))]
 .ret)
 .skip))
 (qr [qa 14 (ql 2),qa 15 (qc 76 [qt 14,(.c (.fn 77 []))]),qa 16 (.mkf 78 [qt 2]),qa 17 (qc 75 [qt 15,qt 16]),qm 5 17]
 (.seq (qr [qm 18 5,qa 19 (q3 .neq 18 0)]
 (qC 19
 (qr [qm 20 5,qm 4 20]
 .ret)
 .skip))
 (qr [qm 21 1,qa 22 (qc 79 [qt 21,(.c (.fn 80 []))]),qa 23 (qc 75 [qt 22,(.c (.fn 81 []))]),qm 4 23]
 .ret)))))⟩
def i46:IFn:=⟨22,[.tmp 4],(qr [qa 4 (.mv (.c (.x .nils)))]
 (qr [qa 5 (.mv (.c (.x .nils)))]
 (.seq (qr [qm 8 0,qa 9 (qk false 8),qa 10 (.mv (qi 0))]
 (.block 0
 (.loop
 (qr [qa 11 (q2 .lss 10 9)]
 (.seq (qC 11
 .skip
 (.exit 0))
 (.seq (.block 1
 (qr [qa 12 (qy 1 8 10),qa 13 (ql 12),qm 7 13]
 (.reg [qm 14 5,qm 15 1,qm 16 7,qa 17 (.call (qt 15) [qt 16]),qa 18 (.bsl 9 1 1 [qt 17]),qa 19 (.app 9 1 16 (qt 14) (qt 18)),qm 5 19])))
 (.reg [qa 20 (q3 .add 10 1),qm 10 20])))))))
 (qr [qm 21 5,qm 4 21]
 .ret))))⟩
def i47:IFn:=⟨36,[.tmp 2],(qr [qa 2 (.mv (.c (.x .nils)))]
 (qr [qa 3 (.mv (qi 0))]
 (.seq (qr [qm 9 0,qa 10 (qk false 9),qa 11 (.mv (qi 0))]
 (.block 0
 (.loop
 (qr [qa 12 (q2 .lss 11 10)]
 (.seq (qC 12
 .skip
 (.exit 0))
 (.seq (.block 1
 (qr [qa 13 (qy 1 9 11),qa 14 (ql 13),qm 5 14]
 (qr [qm 15 3,qm 16 5,qa 17 (qk false 16),qa 18 (q2 .add 15 17),qm 3 18]
 (qr [qm 19 3,qa 20 (q3 .lss 19 0)]
 (qC 20
 .dead
 .skip)))))
 (.reg [qa 22 (q3 .add 11 1),qm 11 22])))))))
 (qr [qm 23 3,qa 24 (qc 82 [(.c (.x .nils)),qt 23]),qm 6 24]
 (.seq (qr [qm 25 0,qa 26 (qk false 25),qa 27 (.mv (qi 0))]
 (.block 2
 (.loop
 (qr [qa 28 (q2 .lss 27 26)]
 (.seq (qC 28
 .skip
 (.exit 2))
 (.seq (.block 3
 (qr [qa 29 (qy 1 25 27),qa 30 (ql 29),qm 8 30]
 (.reg [qm 31 6,qm 32 8,qa 33 (.app 9 1 16 (qt 31) (qt 32)),qm 6 33])))
 (.reg [qa 34 (q3 .add 27 1),qm 27 34])))))))
 (qr [qm 35 6,qm 2 35]
 .ret))))))⟩
def i48:IFn:=⟨74,[.tmp 4],(qr [qa 4 (.mv (qi 0))]
 (qr [qa 5 (.mv (.c (.x .nils))),qa 6 (.mv (.c (.x .nils)))]
 (.seq (qr [qa 7 (.mv (qi 0))]
 (.block 0
 (.loop
 (.seq (qr [qm 12 7,qm 13 0,qa 14 (qk false 13),qa 15 (q2 .lss 12 14)]
 (qC 15
 .skip
 (.exit 0)))
 (.seq (.block 1
 (.reg [qm 18 5,qm 19 0,qm 20 7,qa 21 (qy 3 19 20),qa 22 (qf 0 21),qa 23 (ql 22),qa 24 (.bsl 9 1 1 [qt 23]),qa 25 (.app 9 1 16 (qt 18) (qt 24)),qm 5 25]))
 (.reg [qm 16 7,qa 17 (q3 .add 16 1),qm 7 17]))))))
 (.seq (qr [qa 8 (.mv (qi 0))]
 (.block 2
 (.loop
 (.seq (qr [qm 26 8,qm 27 1,qa 28 (qk false 27),qa 29 (q2 .lss 26 28)]
 (qC 29
 .skip
 (.exit 2)))
 (.seq (.block 3
 (.reg [qm 32 6,qm 33 1,qm 34 8,qa 35 (qy 3 33 34),qa 36 (qf 0 35),qa 37 (ql 36),qa 38 (.bsl 9 1 1 [qt 37]),qa 39 (.app 9 1 16 (qt 32) (qt 38)),qm 6 39]))
 (.reg [qm 30 8,qa 31 (q3 .add 30 1),qm 8 31]))))))
 (.seq (qr [qm 40 5,qa 41 (qc 83 [qt 40]),qm 9 41]
 (qr [qm 42 9,qa 43 (q3 .neq 42 0)]
 (qC 43
 (qr [qm 44 9,qm 4 44]
 .ret)
 .skip)))
 (.seq (qr [qa 10 (.mv (qi 0))]
 (.block 4
 (.loop
 (.seq (qr [qm 45 10,qm 46 0,qa 47 (qk false 46),qa 48 (q2 .lss 45 47)]
 (qC 48
 .skip
 (.exit 4)))
 (.seq (.block 5
 (qr [qm 51 0,qm 52 10,qa 53 (qy 3 51 52),qa 54 (qf 1 53),qa 55 (ql 54),qa 56 (q3 .lss 55 1),qm 57 56,qj 58 0 57,qj 59 10 57,qF 60 (qy 3 58 59) 57,qF 61 (qf 1 60) 57,qF 62 (ql 61) 57,qF 63 (q3 .gtr 62 5) 57,qa 64 (qp 57 63)]
 (qC 64
 (qr [qa 4 (.mv (qi 1))]
 .ret)
 .skip)))
 (.reg [qm 49 10,qa 50 (q3 .add 49 1),qm 10 50]))))))
 (.seq (qr [qm 65 5,qa 66 (qc 84 [qt 65])]
 (qC 66
 (qr [qa 4 (.mv (qi 9))]
 .ret)
 .skip))
 (.seq (qr [qm 67 6,qa 68 (qc 83 [qt 67]),qm 11 68]
 (qr [qm 69 11,qa 70 (q3 .neq 69 0)]
 (qC 70
 (qr [qm 71 11,qm 4 71]
 .ret)
 .skip)))
 (.seq (qr [qm 72 6,qa 73 (qc 84 [qt 72])]
 (qC 73
 (qr [qa 4 (.mv (qi 9))]
 .ret)
 .skip))
 (qr [qa 4 (.mv (qi 0))]
 .ret))))))))))⟩
def i62:IFn:=⟨9,[.tmp 4],(qr [qa 2 (.box (qt 0)),qa 3 (.box (qt 1)),qa 4 (.mv (qi 0))]
 (qr [qa 5 (qf 0 2),qa 6 (ql 5),qa 7 (.bin .eql (qt 6) (qs [])),qa 8 (qc 40 [qt 7,qi 17]),qm 4 8]
 .ret))⟩
def i63:IFn:=⟨10,[.tmp 4],(qr [qa 2 (.box (qt 0)),qa 3 (.box (qt 1)),qa 4 (.mv (qi 0))]
 (qr [qa 5 (qf 1 3),qa 6 (ql 5),qa 7 (qk false 6),qa 8 (q3 .eql 7 0),qa 9 (qc 40 [qt 8,qi 19]),qm 4 9]
 .ret))⟩
def i64:IFn:=⟨26,[.tmp 4],(qr [qa 2 (.box (qt 0)),qa 3 (.box (qt 1)),qa 4 (.mv (qi 0))]
 (.seq (qr [qa 9 (qf 1 3),qa 10 (ql 9),qa 11 (qk false 10),qa 12 (.mv (qi 0))]
 (.block 0
 (.loop
 (qr [qa 13 (q2 .lss 12 11)]
 (.seq (qC 13
 .skip
 (.exit 0))
 (.seq (.block 1
 (qr [qa 14 (qy 1 10 12),qa 15 (ql 14),qm 6 15]
 (qr [qa 17 (qf 1 2),qa 18 (ql 17),qm 19 6,qa 20 (qc 65 [qt 18,qt 19]),qm 16 20,qe 21 16 0,qe 22 16 1,qm 7 21,qm 8 22]
 (qr [qm 23 8,qa 24 (qz 23)]
 (qC 24
 (qr [qa 4 (.mv (qi 21))]
 .ret)
 .skip)))))
 (.reg [qa 25 (q3 .add 12 1),qm 12 25])))))))
 (qr [qa 4 (.mv (qi 0))]
 .ret)))⟩
def i65:IFn:=⟨44,[.tmp 4,.tmp 5],(qr [qa 4 (.mv (qs [])),qa 5 (.mv (qb false))]
 (.seq (qr [qm 9 1,qa 10 (qk true 9),qa 11 (q3 .gtr 10 4096)]
 (qC 11
 (qr [qa 4 (.mv (qs [])),qa 5 (.mv (qb false))]
 .ret)
 .skip))
 (qr [qm 12 1,qm 6 12]
 (.seq (qr [qm 13 0]
 (.block 0
 (.seq (.block 5
 (.seq (.block 4
 (.seq (.block 3
 (.seq (.block 2
 (.seq (.block 1
 (.seq (.seq (qr [qa 15 (q3 .eql 13 1),qm 14 15]
 (qC 14
 (.exit 1)
 .skip))
 (.seq (qr [qa 17 (q3 .eql 13 2),qm 16 17]
 (qC 16
 (.exit 2)
 .skip))
 (.seq (qr [qa 19 (q3 .eql 13 3),qm 18 19]
 (qC 18
 (.exit 3)
 .skip))
 (.seq (qr [qa 21 (q3 .eql 13 4),qm 20 21]
 (qC 20
 (.exit 4)
 .skip))
 (qr [qa 23 (q3 .eql 13 5),qm 22 23]
 (qC 22
 (.exit 5)
 .skip))))))
 (.exit 0)))
 (.reg [qm 24 6,qa 25 (qc 37 [qt 24]),qm 6 25])))
 (.seq (qr [qm 26 6,qa 27 (qc 104 [qt 26]),qm 6 27]
 (qr [qm 28 6,qm 29 6,qa 30 (.bin .neq (qt 29) (qs [])),qm 4 28,qm 5 30]
 .ret))
 (.exit 0))))
 (.seq (qr [qm 31 1,qa 32 (qc 105 [qt 31]),qe 33 32 0,qe 34 32 1,qm 4 33,qm 5 34]
 .ret)
 (.exit 0))))
 (.seq (qr [qm 35 1,qm 4 35,qa 5 (.mv (qb true))]
 .ret)
 (.exit 0))))
 (.seq (qr [qm 37 1,qa 38 (qc 106 [qt 37]),qm 36 38,qe 39 36 0,qe 40 36 1,qm 7 39,qm 8 40]
 (qr [qm 41 7,qm 42 8,qa 43 (q3 .eql 42 0),qm 4 41,qm 5 43]
 .ret))
 (.exit 0)))))
 (qr [qa 4 (.mv (qs [])),qa 5 (.mv (qb false))]
 .ret)))))⟩
def i66:IFn:=⟨26,[.tmp 5],(qr [qa 3 (.box (qt 0)),qa 4 (.box (qt 1)),qa 5 (.mv (qi 0))]
 (qr [qa 7 (ql 2),qa 8 (qf 0 3),qa 9 (ql 8),qa 10 (.mlk .str false (.x (.int .i64 (0))) (qt 7) (qt 9)),qa 11 (q3 .gtr 10 0),qm 12 11,qF 13 (qf 1 3) 12,qF 14 (ql 13) 12,qF 15 (qf 1 4) 12,qF 16 (ql 15) 12,qF 17 (qc 67 [qt 14,qt 16]) 12,qa 18 (qp 12 17),qm 6 18]
 (qr [qa 19 (ql 2),qa 20 (qf 0 3),qa 21 (ql 20),qa 22 (.mlk .str false (.x (.int .i64 (0))) (qt 19) (qt 21)),qa 23 (q3 .add 22 1),⟨none,.mup .str (qt 19) (qt 21) (qt 23),none⟩]
 (qr [qm 24 6,qa 25 (qc 40 [qt 24,qi 20]),qm 5 25]
 .ret))))⟩
def i67:IFn:=⟨32,[.tmp 4],(qr [qa 4 (.mv (qb false))]
 (qr [qa 10 (.mkm .str false),qm 5 10]
 (.seq (qr [qm 11 1,qa 12 (qk false 11),qa 13 (.mv (qi 0))]
 (.block 0
 (.loop
 (qr [qa 14 (q2 .lss 13 12)]
 (.seq (qC 14
 .skip
 (.exit 0))
 (.seq (.block 1
 (qr [qa 15 (qy 1 11 13),qa 16 (ql 15),qm 7 16]
 (qr [qm 18 0,qm 19 7,qa 20 (qc 65 [qt 18,qt 19]),qm 17 20,qe 21 17 0,qe 22 17 1,qm 8 21,qm 9 22]
 (.seq (qr [qm 23 5,qm 24 8,qa 25 (.mlk .str false (.x (.int .i64 (0))) (qt 23) (qt 24)),qa 26 (q3 .gtr 25 0)]
 (qC 26
 (qr [qa 4 (.mv (qb true))]
 .ret)
 .skip))
 (.reg [qm 27 5,qm 28 8,qa 29 (.mlk .str false (.x (.int .i64 (0))) (qt 27) (qt 28)),qa 30 (q3 .add 29 1),⟨none,.mup .str (qt 27) (qt 28) (qt 30),none⟩])))))
 (.reg [qa 31 (q3 .add 13 1),qm 13 31])))))))
 (qr [qa 4 (.mv (qb false))]
 .ret))))⟩
def i68:IFn:=⟨14,[.tmp 4],(qr [qa 2 (.box (qt 0)),qa 3 (.box (qt 1)),qa 4 (.mv (qi 0))]
 (qr [qa 5 (qf 2 2),qa 6 (ql 5),qm 7 6,qT 8 (qf 1 3) 7,qT 9 (ql 8) 7,qT 10 (qk false 9) 7,qT 11 (q3 .gtr 10 1) 7,qa 12 (qP 7 11),qa 13 (qc 40 [qt 12,qi 19]),qm 4 13]
 .ret))⟩
def i69:IFn:=⟨37,[.tmp 6],(qr [qa 4 (.box (qt 1)),qa 6 (.mv (qi 0))]
 (.seq (qr [qa 12 (qf 1 4),qa 13 (ql 12),qa 14 (qk false 13),qa 15 (.mv (qi 0))]
 (.block 0
 (.loop
 (qr [qa 16 (q2 .lss 15 14)]
 (.seq (qC 16
 .skip
 (.exit 0))
 (.seq (.block 1
 (qr [qa 17 (qy 2 13 15),qa 18 (qL 2 17),qa 8 (.box (.c (.agg [.x (.str []),.x .nils]))),qo 2 8 18]
 (.seq (.dreg 11 [] [qm 20 0,qa 21 (.nck (qt 20)),qa 22 (qf 0 21),qa 23 (qf 0 22),qa 24 (qf 0 8),qa 25 (ql 24),qa 26 (qc 36 [qt 23,qt 25]),qm 19 26,qe 27 19 0,qe 28 19 1,qa 9 (.box (.c (.agg [.x (.str []),.x (.int .i64 (0)),.x (.bool false)]))),qo 3 9 27,qm 10 28])
 (qr [qm 29 2,qa 30 (qL 3 9),qa 31 (qL 2 8),qa 32 (.call (qt 29) [qt 30,qt 31]),qm 11 32]
 (qr [qm 33 11,qa 34 (q3 .neq 33 0)]
 (qC 34
 (qr [qm 35 11,qm 6 35]
 .ret)
 .skip))))))
 (.reg [qa 36 (q3 .add 15 1),qm 15 36])))))))
 (qr [qa 6 (.mv (qi 0))]
 .ret)))⟩
def i70:IFn:=⟨47,[.tmp 4,.tmp 5],(qr [qa 4 (.mv (qs [])),qa 5 (.mv (qb false))]
 (.seq (qr [qm 10 1,qa 11 (qk true 10),qa 12 (q3 .gtr 11 4096)]
 (qC 12
 (qr [qa 4 (.mv (qs [])),qa 5 (.mv (qb false))]
 .ret)
 .skip))
 (.seq (qr [qm 13 0]
 (.block 0
 (qr [qa 15 (q3 .eql 13 1),qm 14 15]
 (qC 14
 (qr [qm 16 1,qa 17 (qc 107 [qt 16]),qm 6 17]
 (qr [qm 18 6,qm 19 6,qa 20 (.bin .neq (qt 19) (qs [])),qm 4 18,qm 5 20]
 .ret))
 (qr [qa 22 (q3 .eql 13 2),qm 21 22]
 (qC 21
 (qr [qm 23 1,qa 24 (qc 108 [qt 23]),qm 7 24]
 (qr [qm 25 7,qm 26 7,qa 27 (.bin .neq (qt 26) (qs [])),qm 4 25,qm 5 27]
 .ret))
 (qr [qa 29 (q3 .eql 13 3),qm 28 29]
 (qC 28
 (qr [qm 30 1,qa 31 (qc 109 [qt 30]),qe 32 31 0,qe 33 31 1,qm 4 32,qm 5 33]
 .ret)
 (qr [qa 35 (q3 .eql 13 4),qm 34 35]
 (qC 34
 (qr [qm 36 1,qm 4 36,qa 5 (.mv (qb true))]
 .ret)
 (qr [qa 38 (q3 .eql 13 5),qm 37 38]
 (qC 37
 (qr [qm 40 1,qa 41 (qc 110 [qt 40]),qm 39 41,qe 42 39 0,qe 43 39 1,qm 8 42,qm 9 43]
 (qr [qm 44 8,qm 45 9,qa 46 (q3 .eql 45 0),qm 4 44,qm 5 46]
 .ret))
 .skip))))))))))))
 (qr [qa 4 (.mv (qs [])),qa 5 (.mv (qb false))]
 .ret))))⟩
def i71:IFn:=⟨101,[.tmp 4],(qr [qa 2 (.box (qt 0)),qa 3 (.box (qt 1)),qa 4 (.mv (qi 0))]
 (qr [qa 5 (.mv (.c (.x .nils)))]
 (.seq (qr [qa 6 (.mv (qi 0))]
 (.block 0
 (.loop
 (.seq (qr [qm 15 6,qa 16 (qf 1 3),qa 17 (ql 16),qa 18 (qk false 17),qa 19 (q2 .lss 15 18)]
 (qC 19
 .skip
 (.exit 0)))
 (.seq (.block 1
 (.seq (.dreg 12 [] [qa 23 (qL 2 2),qa 24 (qf 1 3),qa 25 (ql 24),qm 26 6,qa 27 (qy 2 25 26),qa 28 (qf 0 27),qa 29 (ql 28),qa 30 (qc 13 [qt 23,qt 29]),qm 22 30,qe 31 22 0,qe 32 22 1,qa 7 (.box (.c (.agg [.x (.str []),.x (.int .i64 (0)),.x (.bool false)]))),qo 3 7 31,qm 8 32])
 (.seq (qr [qm 33 5,qa 34 (qf 0 7),qa 35 (ql 34),qa 36 (qc 42 [qt 33,qt 35])]
 (qC 36
 (qr [qa 4 (.mv (qi 20))]
 .ret)
 .skip))
 (qr [qm 37 5,qa 38 (qf 0 7),qa 39 (ql 38),qa 40 (.bsl 9 1 1 [qt 39]),qa 41 (.app 9 1 16 (qt 37) (qt 40)),qm 5 41]
 (qr [qa 42 (qf 1 3),qa 43 (ql 42),qm 44 6,qa 45 (qy 2 43 44),qa 46 (qf 1 45),qa 47 (ql 46),qm 9 47]
 (qr [qa 10 (.mv (qi 0))]
 (.block 2
 (.loop
 (.seq (qr [qm 48 10,qm 49 9,qa 50 (qk false 49),qa 51 (q2 .lss 48 50)]
 (qC 51
 .skip
 (.exit 2)))
 (.seq (.block 3
 (qr [qa 11 (.mv (qi 0))]
 (.block 4
 (.loop
 (.seq (qr [qm 54 11,qm 55 10,qa 56 (q2 .lss 54 55)]
 (qC 56
 .skip
 (.exit 4)))
 (.seq (.block 5
 (.seq (.dreg 10 [] [qa 59 (qf 1 7),qa 60 (ql 59),qm 61 9,qm 62 11,qa 63 (qy 1 61 62),qa 64 (ql 63),qm 65 9,qm 66 10,qa 67 (qy 1 65 66),qa 68 (ql 67),qa 69 (qc 91 [qt 60,qt 64,qt 68]),qa 70 (q3 .eql 69 1)])
 (qC 70
 (qr [qa 4 (.mv (qi 20))]
 .ret)
 .skip)))
 (.reg [qm 57 11,qa 58 (q3 .add 57 1),qm 11 58])))))))
 (.reg [qm 52 10,qa 53 (q3 .add 52 1),qm 10 53])))))))))))
 (.reg [qm 20 6,qa 21 (q3 .add 20 1),qm 6 21]))))))
 (.seq (qr [qa 12 (.mv (qi 0))]
 (.block 6
 (.loop
 (.seq (qr [qm 71 12,qa 72 (qf 1 3),qa 73 (ql 72),qa 74 (qk false 73),qa 75 (q2 .lss 71 74)]
 (qC 75
 .skip
 (.exit 6)))
 (.seq (.block 7
 (.seq (.dreg 12 [] [qa 79 (qL 2 2),qa 80 (qf 1 3),qa 81 (ql 80),qm 82 12,qa 83 (qy 2 81 82),qa 84 (qf 0 83),qa 85 (ql 84),qa 86 (qc 13 [qt 79,qt 85]),qm 78 86,qe 87 78 0,qe 88 78 1,qa 13 (.box (.c (.agg [.x (.str []),.x (.int .i64 (0)),.x (.bool false)]))),qo 3 13 87,qm 14 88])
 (qr [qa 89 (qf 2 13),qa 90 (ql 89),qm 91 90,qT 92 (qf 1 3) 91,qT 93 (ql 92) 91,qh 94 12 91,qT 95 (qy 2 93 94) 91,qT 96 (qf 1 95) 91,qT 97 (ql 96) 91,qT 98 (qk false 97) 91,qT 99 (q3 .gtr 98 1) 91,qa 100 (qP 91 99)]
 (qC 100
 (qr [qa 4 (.mv (qi 19))]
 .ret)
 .skip))))
 (.reg [qm 76 12,qa 77 (q3 .add 76 1),qm 12 77]))))))
 (qr [qa 4 (.mv (qi 0))]
 .ret)))))⟩
def i75:IFn:=⟨44,[.tmp 4],(qr [qa 4 (.mv (qi 0))]
 (.seq (qr [qm 11 0,qa 12 (qk false 11),qa 13 (.mv (qi 0))]
 (.block 0
 (.loop
 (qr [qa 14 (q2 .lss 13 12)]
 (.seq (qC 14
 .skip
 (.exit 0))
 (.seq (.block 1
 (qr [qa 15 (qy 1 11 13),qa 16 (ql 15),qm 6 16]
 (qr [qm 17 6,qa 18 (qc 114 [qt 17]),qa 19 (qz 18)]
 (qC 19
 (qr [qa 4 (.mv (qi 13))]
 .ret)
 .skip))))
 (.reg [qa 20 (q3 .add 13 1),qm 13 20])))))))
 (.seq (qr [qm 21 1,qa 22 (.call (qt 21) []),qm 7 22]
 (qr [qm 23 7,qa 24 (q3 .neq 23 0)]
 (qC 24
 (qr [qm 25 7,qm 4 25]
 .ret)
 .skip)))
 (qr [qa 26 (.mkm .str false),qm 8 26]
 (.seq (qr [qm 27 0,qa 28 (qk false 27),qa 29 (.mv (qi 0))]
 (.block 2
 (.loop
 (qr [qa 30 (q2 .lss 29 28)]
 (.seq (qC 30
 .skip
 (.exit 2))
 (.seq (.block 3
 (qr [qa 31 (qy 1 27 29),qa 32 (ql 31),qm 10 32]
 (.seq (qr [qm 33 8,qm 34 10,qa 35 (qc 37 [qt 34]),qa 36 (.mlk .str false (.x (.int .i64 (0))) (qt 33) (qt 35)),qa 37 (q3 .gtr 36 0)]
 (qC 37
 (qr [qa 4 (.mv (qi 9))]
 .ret)
 .skip))
 (.reg [qm 38 8,qm 39 10,qa 40 (qc 37 [qt 39]),qa 41 (.mlk .str false (.x (.int .i64 (0))) (qt 38) (qt 40)),qa 42 (q3 .add 41 1),⟨none,.mup .str (qt 38) (qt 40) (qt 42),none⟩]))))
 (.reg [qa 43 (q3 .add 29 1),qm 29 43])))))))
 (qr [qa 4 (.mv (qi 0))]
 .ret))))))⟩
def i76:IFn:=⟨22,[.tmp 4],(qr [qa 4 (.mv (.c (.x .nils)))]
 (qr [qa 5 (.mv (.c (.x .nils)))]
 (.seq (qr [qm 8 0,qa 9 (qk false 8),qa 10 (.mv (qi 0))]
 (.block 0
 (.loop
 (qr [qa 11 (q2 .lss 10 9)]
 (.seq (qC 11
 .skip
 (.exit 0))
 (.seq (.block 1
 (qr [qa 12 (qy 3 8 10),qa 13 (qL 3 12),qa 7 (.box (.c (.agg [.x (.str []),.x (.int .i64 (0)),.x (.bool false)]))),qo 3 7 13]
 (.reg [qm 14 5,qm 15 1,qa 16 (qL 3 7),qa 17 (.call (qt 15) [qt 16]),qa 18 (.bsl 9 1 1 [qt 17]),qa 19 (.app 9 1 16 (qt 14) (qt 18)),qm 5 19])))
 (.reg [qa 20 (q3 .add 10 1),qm 10 20])))))))
 (qr [qm 21 5,qm 4 21]
 .ret))))⟩
def i77:IFn:=⟨5,[.tmp 2],(qr [qa 1 (.box (qt 0)),qa 2 (.mv (qs []))]
 (qr [qa 3 (qf 0 1),qa 4 (ql 3),qm 2 4]
 .ret))⟩
def i78:IFn:=⟨19,[.tmp 1],(qr [qa 1 (.mv (qi 0))]
 (.seq (qr [qa 4 (ql 0),qa 5 (qk false 4),qa 6 (.mv (qi 0))]
 (.block 0
 (.loop
 (qr [qa 7 (q2 .lss 6 5)]
 (.seq (qC 7
 .skip
 (.exit 0))
 (.seq (.block 1
 (qr [qa 8 (qy 3 4 6),qa 9 (qL 3 8),qa 3 (.box (.c (.agg [.x (.str []),.x (.int .i64 (0)),.x (.bool false)]))),qo 3 3 9]
 (qr [qa 10 (qf 1 3),qa 11 (ql 10),qa 12 (q3 .lss 11 1),qm 13 12,qF 14 (qf 1 3) 13,qF 15 (ql 14) 13,qF 16 (q3 .gtr 15 5) 13,qa 17 (qp 13 16)]
 (qC 17
 (qr [qa 1 (.mv (qi 1))]
 .ret)
 .skip))))
 (.reg [qa 18 (q3 .add 6 1),qm 6 18])))))))
 (qr [qa 1 (.mv (qi 0))]
 .ret)))⟩
def i79:IFn:=⟨22,[.tmp 4],(qr [qa 4 (.mv (.c (.x .nils)))]
 (qr [qa 5 (.mv (.c (.x .nils)))]
 (.seq (qr [qm 8 0,qa 9 (qk false 8),qa 10 (.mv (qi 0))]
 (.block 0
 (.loop
 (qr [qa 11 (q2 .lss 10 9)]
 (.seq (qC 11
 .skip
 (.exit 0))
 (.seq (.block 1
 (qr [qa 12 (qy 3 8 10),qa 13 (qL 3 12),qa 7 (.box (.c (.agg [.x (.str []),.x .nils,.x .nils]))),qo 3 7 13]
 (.reg [qm 14 5,qm 15 1,qa 16 (qL 3 7),qa 17 (.call (qt 15) [qt 16]),qa 18 (.bsl 9 1 1 [qt 17]),qa 19 (.app 9 1 16 (qt 14) (qt 18)),qm 5 19])))
 (.reg [qa 20 (q3 .add 10 1),qm 10 20])))))))
 (qr [qm 21 5,qm 4 21]
 .ret))))⟩
def i80:IFn:=⟨5,[.tmp 2],(qr [qa 1 (.box (qt 0)),qa 2 (.mv (qs []))]
 (qr [qa 3 (qf 0 1),qa 4 (ql 3),qm 2 4]
 .ret))⟩
def i81:IFn:=⟨1,[.tmp 0],(qr [qa 0 (.mv (qi 0))]
 (qr [qa 0 (.mv (qi 0))]
 .ret))⟩
def i83:IFn:=⟨16,[.tmp 2],(qr [qa 2 (.mv (qi 0))]
 (.seq (qr [qa 3 (.mv (qi 0))]
 (.block 0
 (.loop
 (.seq (qr [qm 4 3,qm 5 0,qa 6 (qk false 5),qa 7 (q2 .lss 4 6)]
 (qC 7
 .skip
 (.exit 0)))
 (.seq (.block 1
 (qr [qm 10 0,qm 11 3,qa 12 (qy 1 10 11),qa 13 (ql 12),qa 14 (qc 115 [qt 13]),qa 15 (qz 14)]
 (qC 15
 (qr [qa 2 (.mv (qi 13))]
 .ret)
 .skip)))
 (.reg [qm 8 3,qa 9 (q3 .add 8 1),qm 3 9]))))))
 (qr [qa 2 (.mv (qi 0))]
 .ret)))⟩
def i84:IFn:=⟨27,[.tmp 2],(qr [qa 2 (.mv (qb false))]
 (.seq (qr [qa 3 (.mv (qi 0))]
 (.block 0
 (.loop
 (.seq (qr [qm 5 3,qm 6 0,qa 7 (qk false 6),qa 8 (q2 .lss 5 7)]
 (qC 8
 .skip
 (.exit 0)))
 (.seq (.block 1
 (qr [qa 4 (.mv (qi 0))]
 (.block 2
 (.loop
 (.seq (qr [qm 11 4,qm 12 3,qa 13 (q2 .lss 11 12)]
 (qC 13
 .skip
 (.exit 2)))
 (.seq (.block 3
 (.seq (.dreg 9 [] [qm 16 0,qm 17 3,qa 18 (qy 1 16 17),qa 19 (ql 18),qa 20 (qc 32 [qt 19]),qm 21 0,qm 22 4,qa 23 (qy 1 21 22),qa 24 (ql 23),qa 25 (qc 32 [qt 24]),qa 26 (q2 .eql 20 25)])
 (qC 26
 (qr [qa 2 (.mv (qb true))]
 .ret)
 .skip)))
 (.reg [qm 14 4,qa 15 (q3 .add 14 1),qm 4 15])))))))
 (.reg [qm 9 3,qa 10 (q3 .add 9 1),qm 3 10]))))))
 (qr [qa 2 (.mv (qb false))]
 .ret)))⟩
def i91:IFn:=⟨33,[.tmp 6],(qr [qa 6 (.mv (qi 0))]
 (qr [qm 12 0,qm 13 1,qa 14 (qc 70 [qt 12,qt 13]),qm 11 14,qe 15 11 0,qe 16 11 1,qm 7 15,qm 8 16]
 (qr [qm 18 0,qm 19 2,qa 20 (qc 70 [qt 18,qt 19]),qm 17 20,qe 21 17 0,qe 22 17 1,qm 9 21,qm 10 22]
 (.seq (qr [qm 23 8,qa 24 (qz 23),qm 25 24,qj 26 10 25,qF 27 (qz 26) 25,qa 28 (qp 25 27)]
 (qC 28
 (qr [qa 6 (.mv (qi 2))]
 .ret)
 .skip))
 (qr [qm 29 7,qm 30 9,qa 31 (q2 .eql 29 30),qa 32 (qc 122 [qt 31]),qm 6 32]
 .ret)))))⟩
def ZN0:IFn:=⟨22,[.tmp 2],(qr [qa 2 (.mv (qs []))]
 (qr [qa 3 (.mv (.c (.x .nils)))]
 (.seq (qr [qm 6 0,qa 7 (qc 137 [qt 6,(qs [32])]),qa 8 (qk false 7),qa 9 (.mv (qi 0))]
 (.block 0
 (.loop
 (qr [qa 10 (q2 .lss 9 8)]
 (.seq (qC 10
 .skip
 (.exit 0))
 (.seq (.block 1
 (qr [qa 11 (qy 1 7 9),qa 12 (ql 11),qm 5 12]
 (qr [qm 13 5,qa 14 (.bin .neq (qt 13) (qs []))]
 (qC 14
 (.reg [qm 15 3,qm 16 5,qa 17 (.bsl 9 1 1 [qt 16]),qa 18 (.app 9 1 16 (qt 15) (qt 17)),qm 3 18])
 .skip))))
 (.reg [qa 19 (q3 .add 9 1),qm 9 19])))))))
 (qr [qm 20 3,qa 21 (qc 97 [qt 20,(qs [32])]),qm 2 21]
 .ret))))⟩
def ZK5:IFn:=⟨32,[.tmp 2,.tmp 3],(qr [qa 2 (.mv (qs [])),qa 3 (.mv (qb false))]
 (qr [qm 7 0,qa 8 (qc 138 [qt 7,(qs [45])]),qm 6 8,qe 9 6 0,qe 10 6 1,qm 4 9,qm 5 10]
 (.seq (qr [qm 11 4,qa 12 (qc 139 [qt 11]),qa 13 (qz 12)]
 (qC 13
 (qr [qa 2 (.mv (qs [])),qa 3 (.mv (qb false))]
 .ret)
 .skip))
 (.seq (.block 0
 (.loop
 (.seq (qr [qm 14 4,qa 15 (qk true 14),qa 16 (q3 .gtr 15 1),qm 17 16,qh 18 4 17,qT 19 (.idx (qt 18) (qi 0)) 17,qT 20 (q8 .eql 19 48) 17,qa 21 (qP 17 20)]
 (qC 21
 .skip
 (.exit 0)))
 (.block 1
 (.reg [qm 22 4,qa 23 (.slc 0 (qt 22) (some (qi 1)) none none),qm 4 23])))))
 (.seq (qr [qm 24 5,qm 25 24,qh 26 4 25,qT 27 (.bin .neq (qt 26) (qs [48])) 25,qa 28 (qP 25 27)]
 (qC 28
 (.reg [qm 29 4,qa 30 (.bin .add (qs [45]) (qt 29)),qm 4 30])
 .skip))
 (qr [qm 31 4,qm 2 31,qa 3 (.mv (qb true))]
 .ret))))))⟩
def ZIE:IFn:=⟨55,[.tmp 2,.tmp 3],(qr [qa 2 (.mv (qs [])),qa 3 (.mv (qi 0))]
 (qr [qm 11 0,qa 12 (qc 131 [qt 11]),qm 10 12,qe 13 10 0,qe 14 10 1,qm 4 13,qm 5 14]
 (.seq (qr [qm 15 5,qa 16 (q3 .neq 15 0)]
 (qC 16
 (qr [qm 17 5,qa 2 (.mv (qs [])),qm 3 17]
 .ret)
 .skip))
 (.seq (qr [qm 18 4,qa 19 (qk false 18),qa 20 (.mv (qi 0))]
 (.block 0
 (.loop
 (qr [qa 21 (q2 .lss 20 19)]
 (.seq (qC 21
 .skip
 (.exit 0))
 (.seq (.block 1
 (qr [qa 22 (qy 1 18 20),qa 23 (ql 22),qm 7 23]
 (.seq (qr [qm 24 7,qa 25 (qk false 24),qa 26 (.mv (qi 0))]
 (.block 2
 (.loop
 (qr [qa 27 (q2 .lss 26 25)]
 (.seq (qC 27
 .skip
 (.exit 2))
 (.seq (.block 3
 (qr [qm 28 26,qa 29 (qy 2 24 26),qa 30 (qL 2 29),qa 9 (.box (.c (.agg [.x (.str []),.x (.str [])]))),qm 8 28,qo 2 9 30]
 (.seq (.dreg 7 [] [qm 31 7,qm 32 8,qa 33 (qf 0 9),qa 34 (ql 33),qa 35 (qc 37 [qt 34]),qa 36 (qf 1 9),qa 37 (ql 36),qa 38 (qc 140 [qt 37]),qa 39 (.build [.x (.str []),.x (.str [])] [(0,1,(qt 35)),(1,1,(qt 38))]),qa 40 (qy 2 31 32),qo 2 40 39])
 (qr [qm 41 7,qm 42 8,qa 43 (qy 2 41 42),qa 44 (qf 1 43),qa 45 (ql 44),qa 46 (.bin .eql (qt 45) (qs []))]
 (qC 46
 (qr [qa 2 (.mv (qs [])),qa 3 (.mv (qi 5))]
 .ret)
 .skip)))))
 (.reg [qa 47 (q3 .add 26 1),qm 26 47])))))))
 (.reg [qm 48 7,qa 49 (qc 141 [qt 48,(.c (.fn 142 []))])]))))
 (.reg [qa 50 (q3 .add 20 1),qm 20 50])))))))
 (qr [qm 51 4,qa 52 (qc 143 [qt 51]),qe 53 52 0,qe 54 52 1,qm 2 53,qm 3 54]
 .ret)))))⟩
def ZN4:IFn:=⟨6,[.tmp 2],(qr [qa 2 (.mv (qs []))]
 (qr [qm 3 0,qa 4 (qc 108 [qt 3]),qa 5 (qc 32 [qt 4]),qm 2 5]
 .ret))⟩
def ZNP:IFn:=⟨41,[.tmp 2],(qr [qa 2 (.mv (qs []))]
 (qr [qa 3 (.mv (qs []))]
 (.seq (qr [qa 4 (.mv (qi 0))]
 (.block 0
 (.loop
 (.seq (qr [qm 5 4,qm 6 0,qa 7 (qk true 6),qa 8 (q2 .lss 5 7)]
 (qC 8
 .skip
 (.exit 0)))
 (.seq (.block 1
 (.seq (qr [qm 11 0,qm 12 4,qa 13 (qx 11 12),qa 14 (q8 .neq 13 32)]
 (qC 14
 (qr [qm 15 3,qm 16 0,qm 17 4,qm 18 4,qa 19 (q3 .add 18 1),qa 20 (.slc 0 (qt 16) (some (qt 17)) (some (qt 19)) none),qa 21 (q2 .add 15 20),qm 3 21]
 (.exit 1))
 .skip))
 (qr [qm 22 3,qa 23 (.bin .neq (qt 22) (qs [])),qm 24 23,qh 25 4 24,qT 26 (q3 .add 25 1) 24,qh 27 0 24,qT 28 (qk true 27) 24,qT 29 (q2 .lss 26 28) 24,qa 30 (qP 24 29),qm 31 30,qh 32 0 31,qh 33 4 31,qT 34 (q3 .add 33 1) 31,qT 35 (qx 32 34) 31,qT 36 (q8 .neq 35 32) 31,qa 37 (qP 31 36)]
 (qC 37
 (.reg [qm 38 3,qa 39 (.bin .add (qt 38) (qs [32])),qm 3 39])
 .skip))))
 (.reg [qm 9 4,qa 10 (q3 .add 9 1),qm 4 10]))))))
 (qr [qm 40 3,qm 2 40]
 .ret))))⟩
def ZSU:IFn:=⟨55,[.tmp 2,.tmp 3],(qr [qa 2 (.mv (qs [])),qa 3 (.mv (qb false))]
 (qr [qa 4 (.mv (qs []))]
 (.seq (qr [qm 6 0,qa 7 (.bin .neq (qt 6) (qs [])),qm 8 7,qh 9 0 8,qT 10 (.idx (qt 9) (qi 0)) 8,qT 11 (q8 .eql 10 45) 8,qa 12 (qP 8 11)]
 (qC 12
 (qr [qa 4 (.mv (qs [45]))]
 (.reg [qm 13 0,qa 14 (.slc 0 (qt 13) (some (qi 1)) none none),qm 0 14]))
 .skip))
 (.seq (qr [qm 15 0,qa 16 (qk true 15),qa 17 (q3 .lss 16 1),qm 18 17,qj 19 0 18,qF 20 (qk true 19) 18,qF 21 (q3 .gtr 20 32) 18,qa 22 (qp 18 21)]
 (qC 22
 (qr [qa 2 (.mv (qs [])),qa 3 (.mv (qb false))]
 .ret)
 .skip))
 (.seq (qr [qa 5 (.mv (qi 0))]
 (.block 0
 (.loop
 (.seq (qr [qm 23 5,qm 24 0,qa 25 (qk true 24),qa 26 (q2 .lss 23 25)]
 (qC 26
 .skip
 (.exit 0)))
 (.seq (.block 1
 (qr [qm 29 0,qm 30 5,qa 31 (qx 29 30),qa 32 (q8 .lss 31 48),qm 33 32,qj 34 0 33,qj 35 5 33,qF 36 (qx 34 35) 33,qF 37 (q8 .gtr 36 57) 33,qa 38 (qp 33 37)]
 (qC 38
 (qr [qa 2 (.mv (qs [])),qa 3 (.mv (qb false))]
 .ret)
 .skip)))
 (.reg [qm 27 5,qa 28 (q3 .add 27 1),qm 5 28]))))))
 (.seq (.block 2
 (.loop
 (.seq (qr [qm 39 0,qa 40 (qk true 39),qa 41 (q3 .gtr 40 1),qm 42 41,qh 43 0 42,qT 44 (.idx (qt 43) (qi 0)) 42,qT 45 (q8 .eql 44 48) 42,qa 46 (qP 42 45)]
 (qC 46
 .skip
 (.exit 2)))
 (.block 3
 (.reg [qm 47 0,qa 48 (.slc 0 (qt 47) (some (qi 1)) none none),qm 0 48])))))
 (.seq (qr [qm 49 0,qa 50 (.bin .eql (qt 49) (qs [48]))]
 (qC 50
 (qr [qm 51 0,qm 2 51,qa 3 (.mv (qb true))]
 .ret)
 .skip))
 (qr [qm 52 4,qm 53 0,qa 54 (q2 .add 52 53),qm 2 54,qa 3 (.mv (qb true))]
 .ret))))))))⟩
def ZSq:IFn:=⟨42,[.tmp 2,.tmp 3],(qr [qa 2 (.mv (qs [])),qa 3 (.mv (qi 0))]
 (qr [qm 11 0,qa 12 (qc 119 [qt 11]),qm 10 12,qe 13 10 0,qe 14 10 1,qm 4 13,qm 5 14]
 (.seq (qr [qm 15 5,qa 16 (q3 .neq 15 0)]
 (qC 16
 (qr [qm 17 5,qa 2 (.mv (qs [])),qm 3 17]
 .ret)
 .skip))
 (qr [qa 6 (.mv (.c (.x .nils)))]
 (.seq (qr [qa 7 (.mv (qi 0))]
 (.block 0
 (.loop
 (.seq (qr [qm 18 7,qm 19 4,qa 20 (qk false 19),qa 21 (q2 .lss 18 20)]
 (qC 21
 .skip
 (.exit 0)))
 (.seq (.block 1
 (qr [qm 25 4,qm 26 7,qa 27 (qy 1 25 26),qa 28 (ql 27),qa 29 (qc 144 [qt 28]),qm 24 29,qe 30 24 0,qe 31 24 1,qm 8 30,qm 9 31]
 (.seq (qr [qm 32 9,qa 33 (qz 32)]
 (qC 33
 (qr [qa 2 (.mv (qs [])),qa 3 (.mv (qi 5))]
 .ret)
 .skip))
 (.reg [qm 34 6,qm 35 8,qa 36 (.bsl 159 1 1 [qt 35]),qa 37 (.app 159 1 24 (qt 34) (qt 36)),qm 6 37]))))
 (.reg [qm 22 7,qa 23 (q3 .add 22 1),qm 7 23]))))))
 (qr [qm 38 6,qa 39 (qc 145 [qt 38]),qe 40 39 0,qe 41 39 1,qm 2 40,qm 3 41]
 .ret))))))⟩
def ZeH:IFn:=⟨8,[.tmp 2],(qr [qa 2 (.mv (qi 0))]
 (.seq (.cond (qb false)
 (qr [qm 3 0,qa 4 (.cvi .u32 (qt 3)),qa 5 (qc 155 [qt 4]),qm 2 5]
 .ret)
 .skip)
 (qr [qm 6 0,qa 7 (qc 156 [qt 6]),qm 2 7]
 .ret)))⟩
def ZSz:IFn:=⟨51,[.tmp 2],(qr [qa 2 (.mv (qb false))]
 (qr [qm 7 0,qa 8 (.bin .neq (qt 7) (qs [])),qm 9 8,qh 10 0 9,qT 11 (qk true 10) 9,qT 12 (q3 .leq 11 64) 9,qa 13 (qP 9 12),qm 3 13]
 (.seq (qr [qm 14 0,qa 15 (qc 37 [qt 14]),qa 16 (.s2b 5 (qt 15)),qa 17 (qk false 16),qa 18 (.mv (qi 0))]
 (.block 0
 (.loop
 (qr [qa 19 (q2 .lss 18 17)]
 (.seq (qC 19
 .skip
 (.exit 0))
 (.seq (.block 1
 (qr [qm 20 18,qa 21 (qy 1 16 18),qa 22 (ql 21),qm 4 20,qm 5 22]
 (qr [qm 23 5,qa 24 (q8 .geq 23 97),qm 25 24,qh 26 5 25,qT 27 (q8 .leq 26 122) 25,qa 28 (qP 25 27),qm 6 28]
 (.reg [qm 29 3,qm 30 29,qh 31 6 30,qh 32 31 30,qj 33 4 32,qF 34 (q3 .gtr 33 0) 32,qj 35 34 32,qh 36 5 35,qT 37 (q8 .geq 36 48) 35,qh 38 37 35,qh 39 5 38,qT 40 (q8 .leq 39 57) 38,qT 41 (qP 38 40) 35,qh 42 41 35,qj 43 5 42,qF 44 (q8 .eql 43 45) 42,qT 45 (qp 42 44) 35,qF 46 (qP 35 45) 32,qT 47 (qp 32 46) 30,qa 48 (qP 30 47),qm 3 48]))))
 (.reg [qa 49 (q3 .add 18 1),qm 18 49])))))))
 (qr [qm 50 3,qm 2 50]
 .ret))))⟩
def ZLP:IFn:=⟨56,[.tmp 2],(qr [qa 2 (.mv (qb false))]
 (.seq (qr [qa 3 (.mv (qi 0))]
 (.block 0
 (.loop
 (.seq (qr [qm 6 3,qm 7 0,qa 8 (qk true 7),qa 9 (q2 .lss 6 8)]
 (qC 9
 .skip
 (.exit 0)))
 (.seq (.block 1
 (qr [qm 12 0,qm 13 3,qa 14 (qx 12 13),qm 4 14]
 (qr [qm 15 4,qa 16 (q8 .geq 15 97),qm 17 16,qh 18 4 17,qT 19 (q8 .leq 18 122) 17,qa 20 (qP 17 19),qm 21 20,qj 22 4 21,qF 23 (q8 .geq 22 65) 21,qj 24 23 21,qh 25 4 24,qT 26 (q8 .leq 25 90) 24,qF 27 (qP 24 26) 21,qa 28 (qp 21 27),qm 5 28]
 (qr [qm 29 5,qa 30 (qz 29),qm 31 30,qh 32 3 31,qT 33 (q3 .eql 32 0) 31,qh 34 33 31,qj 35 4 34,qF 36 (q8 .geq 35 48) 34,qj 37 36 34,qh 38 4 37,qT 39 (q8 .leq 38 57) 37,qF 40 (qP 37 39) 34,qj 41 40 34,qj 42 4 41,qF 43 (q8 .eql 42 45) 41,qF 44 (qp 41 43) 34,qF 45 (qz 44) 34,qT 46 (qp 34 45) 31,qa 47 (qP 31 46)]
 (qC 47
 (qr [qa 2 (.mv (qb false))]
 .ret)
 .skip)))))
 (.reg [qm 10 3,qa 11 (q3 .add 10 1),qm 3 11]))))))
 (qr [qm 48 0,qa 49 (qk true 48),qa 50 (q3 .geq 49 1),qm 51 50,qh 52 0 51,qT 53 (qk true 52) 51,qT 54 (q3 .leq 53 64) 51,qa 55 (qP 51 54),qm 2 55]
 .ret)))⟩
def ZSv:IFn:=⟨74,[.tmp 2,.tmp 3],(qr [qa 2 (.mv (.c (.x .nils))),qa 3 (.mv (qi 0))]
 (.seq (qr [qm 14 0,qa 15 (qk true 14),qa 16 (q3 .gtr 15 4096)]
 (qC 16
 (qr [qa 2 (.mv (.c (.x .nils))),qa 3 (.mv (qi 3))]
 .ret)
 .skip))
 (.seq (qr [qm 17 0,qa 18 (.bin .eql (qt 17) (qs []))]
 (qC 18
 (qr [qa 2 (.mv (.c (.x .nils))),qa 3 (.mv (qi 0))]
 .ret)
 .skip))
 (qr [qa 4 (.mv (.c (.x .nils)))]
 (qr [qa 5 (.mv (qb false))]
 (qr [qm 19 0,qa 20 (qc 158 [qt 19,(.c (.x (.int .u8 (44))))]),qm 6 20]
 (.seq (qr [qa 7 (.mv (qi 0))]
 (.block 0
 (.loop
 (.seq (qr [qm 21 7,qm 22 6,qa 23 (qk false 22),qa 24 (q2 .lss 21 23)]
 (qC 24
 .skip
 (.exit 0)))
 (.seq (.block 1
 (qr [qm 27 6,qm 28 7,qa 29 (qy 1 27 28),qa 30 (ql 29),qa 31 (qc 158 [qt 30,(.c (.x (.int .u8 (43))))]),qm 8 31]
 (qr [qa 9 (.mv (.c (.x .nils)))]
 (.seq (qr [qa 10 (.mv (qi 0))]
 (.block 2
 (.loop
 (.seq (qr [qm 32 10,qm 33 8,qa 34 (qk false 33),qa 35 (q2 .lss 32 34)]
 (qC 35
 .skip
 (.exit 2)))
 (.seq (.block 3
 (qr [qm 39 8,qm 40 10,qa 41 (qy 1 39 40),qa 42 (ql 41),qa 43 (qc 159 [qt 42]),qm 38 43,qe 44 38 0,qe 45 38 1,qa 11 (.box (.c (.agg [.x (.str []),.x (.str [])]))),qo 2 11 44,qm 12 45]
 (.seq (qr [qm 46 12,qa 47 (qz 46)]
 (qC 47
 (qr [qa 2 (.mv (.c (.x .nils))),qa 3 (.mv (qi 5))]
 .ret)
 .skip))
 (.reg [qm 48 9,qa 49 (qL 2 11),qa 50 (.bsl 161 2 1 [qt 49]),qa 51 (.app 161 2 32 (qt 48) (qt 50)),qm 9 51]))))
 (.reg [qm 36 10,qa 37 (q3 .add 36 1),qm 10 37]))))))
 (qr [qm 52 5,qm 53 52,qj 54 9 53,qF 55 (qk false 54) 53,qF 56 (q3 .gtr 55 8) 53,qa 57 (qp 53 56),qm 5 57]
 (.reg [qm 58 4,qm 59 9,qa 60 (.bsl 159 1 1 [qt 59]),qa 61 (.app 159 1 24 (qt 58) (qt 60)),qm 4 61]))))))
 (.reg [qm 25 7,qa 26 (q3 .add 25 1),qm 7 26]))))))
 (.seq (qr [qm 62 5,qm 63 62,qj 64 4 63,qF 65 (qk false 64) 63,qF 66 (q3 .gtr 65 32) 63,qa 67 (qp 63 66)]
 (qC 67
 (qr [qa 2 (.mv (.c (.x .nils))),qa 3 (.mv (qi 3))]
 .ret)
 .skip))
 (.seq (qr [qm 68 4,qa 69 (qc 160 [qt 68]),qm 13 69]
 (qr [qm 70 13,qa 71 (q3 .neq 70 0)]
 (qC 71
 (qr [qm 72 13,qa 2 (.mv (.c (.x .nils))),qm 3 72]
 .ret)
 .skip)))
 (qr [qm 73 4,qm 2 73,qa 3 (.mv (qi 0))]
 .ret))))))))))⟩
def ZSS:IFn:=⟨4,[.tmp 2],(qr [qa 2 (.mv (qi 0))]
 (.seq (qr [qm 3 0]
 (qC 3
 (qr [qa 2 (.mv (qi 1))]
 .ret)
 .skip))
 (qr [qa 2 (.mv (qi 0))]
 .ret)))⟩
def ZJV:IFn:=⟨49,[.tmp 2,.tmp 3],(qr [qa 2 (.mv (.c (.x .nils))),qa 3 (.mv (qi 0))]
 (.seq (.block 0
 (qr [qm 12 0,qa 13 (qk true 12),qa 14 (q3 .gtr 13 4096),qm 11 14]
 (qC 11
 (qr [qa 2 (.mv (.c (.x .nils))),qa 3 (.mv (qi 3))]
 .ret)
 (qr [qm 16 0,qa 17 (.bin .eql (qt 16) (qs [])),qm 15 17]
 (qC 15
 (qr [qa 2 (.mv (.c (.x .nils))),qa 3 (.mv (qi 0))]
 .ret)
 .skip)))))
 (qr [qa 4 (.mv (.c (.x .nils)))]
 (qr [qa 5 (.mv (qi 0))]
 (.seq (qr [qm 18 0,qa 19 (qc 166 [qt 18,(.c (.x (.int .u8 (44))))]),qa 20 (qk false 19),qa 21 (.mv (qi 0))]
 (.block 1
 (.loop
 (qr [qa 22 (q2 .lss 21 20)]
 (.seq (qC 22
 .skip
 (.exit 1))
 (.seq (.block 2
 (qr [qa 23 (qy 1 19 21),qa 24 (ql 23),qm 7 24]
 (qr [qm 26 7,qa 27 (qc 167 [qt 26]),qm 25 27,qe 28 25 0,qe 29 25 1,qm 8 28,qm 9 29]
 (.seq (qr [qm 30 9,qa 31 (qz 30)]
 (qC 31
 (qr [qa 2 (.mv (.c (.x .nils))),qa 3 (.mv (qi 5))]
 .ret)
 .skip))
 (qr [qm 32 5,qm 33 8,qa 34 (qk false 33),qa 35 (.mnx true (qt 32) (qt 34)),qm 5 35]
 (.reg [qm 36 4,qm 37 8,qa 38 (.bsl 159 1 1 [qt 37]),qa 39 (.app 159 1 24 (qt 36) (qt 38)),qm 4 39]))))))
 (.reg [qa 40 (q3 .add 21 1),qm 21 40])))))))
 (.seq (qr [qm 41 5,qa 42 (q3 .gtr 41 8)]
 (qC 42
 (qr [qa 2 (.mv (.c (.x .nils))),qa 3 (.mv (qi 3))]
 .ret)
 .skip))
 (.seq (qr [qm 43 4,qa 44 (qc 168 [qt 43]),qm 10 44]
 (qr [qm 45 10,qa 46 (q3 .neq 45 0)]
 (qC 46
 (qr [qm 47 10,qa 2 (.mv (.c (.x .nils))),qm 3 47]
 .ret)
 .skip)))
 (qr [qm 48 4,qm 2 48,qa 3 (.mv (qi 0))]
 .ret))))))))⟩
def ZSD:IFn:=⟨23,[.tmp 2],(qr [qa 2 (.mv (qb false))]
 (.seq (qr [qm 5 0,qa 6 (.rgs (qt 5))]
 (.block 0
 (.loop
 (qr [qa 7 (.nxt true (qt 6)),qe 8 7 0]
 (.seq (qC 8
 .skip
 (.exit 0))
 (.block 1
 (qr [qe 9 7 2,qm 4 9]
 (qr [qm 10 4,qa 11 (.bin .lss (qt 10) (.c (.x (.int .i32 (48))))),qm 12 11,qj 13 4 12,qg 14 (.bin .gtr (qt 13) (.c (.x (.int .i32 (57))))) 12 false,qa 15 (qp 12 14)]
 (qC 15
 (qr [qa 2 (.mv (qb false))]
 .ret)
 .skip)))))))))
 (qr [qm 16 0,qa 17 (.bin .neq (qt 16) (qs [])),qm 18 17,qh 19 0 18,qT 20 (qk true 19) 18,qT 21 (q3 .leq 20 32) 18,qa 22 (qP 18 21),qm 2 22]
 .ret)))⟩
def ZSk:IFn:=⟨6,[.tmp 2],(qr [qa 2 (.mv (qs []))]
 (qr [qm 3 0,qa 4 (qc 104 [qt 3]),qa 5 (qc 37 [qt 4]),qm 2 5]
 .ret))⟩
def ZSe:IFn:=⟨14,[],(qr [qm 5 0,qa 6 (qk false 5),qm 4 6]
 (.reg [qm 7 0,qm 8 4,qm 9 4,qa 10 (.cvi .u64 (qt 9)),qa 11 (qc 113 [qt 10]),qm 12 1,qa 13 (qc 175 [qt 7,qi 0,qt 8,qt 11,qt 12])]))⟩
def ZK6:IFn:=⟨52,[.tmp 2,.tmp 3],(qr [qa 2 (.mv (qs [])),qa 3 (.mv (qi 0))]
 (.seq (qr [qm 12 0,qa 13 (qc 168 [qt 12]),qm 4 13]
 (qr [qm 14 4,qa 15 (q3 .neq 14 0)]
 (qC 15
 (qr [qm 16 4,qa 2 (.mv (qs [])),qm 3 16]
 .ret)
 .skip)))
 (qr [qa 5 (.mv (.c (.x .nils)))]
 (.seq (qr [qm 17 0,qa 18 (qk false 17),qa 19 (.mv (qi 0))]
 (.block 0
 (.loop
 (qr [qa 20 (q2 .lss 19 18)]
 (.seq (qC 20
 .skip
 (.exit 0))
 (.seq (.block 1
 (qr [qa 21 (qy 1 17 19),qa 22 (ql 21),qm 7 22]
 (qr [qa 8 (.mv (.c (.x .nils)))]
 (.seq (qr [qm 23 7,qa 24 (qk false 23),qa 25 (.mv (qi 0))]
 (.block 2
 (.loop
 (qr [qa 26 (q2 .lss 25 24)]
 (.seq (qC 26
 .skip
 (.exit 2))
 (.seq (.block 3
 (qr [qa 27 (qy 2 23 25),qa 28 (qL 2 27),qa 10 (.box (.c (.agg [.x (.str []),.x (.str [])]))),qo 2 10 28]
 (.dreg 7 [] [qm 29 8,qa 30 (qf 0 10),qa 31 (ql 30),qa 32 (.bin .add (qt 31) (qs [61])),qa 33 (qf 1 10),qa 34 (ql 33),qa 35 (qc 176 [qt 34]),qa 36 (q2 .add 32 35),qa 37 (.bsl 9 1 1 [qt 36]),qa 38 (.app 9 1 16 (qt 29) (qt 37)),qm 8 38])))
 (.reg [qa 39 (q3 .add 25 1),qm 25 39])))))))
 (.reg [qm 40 5,qm 41 8,qa 42 (qc 97 [qt 41,(qs [43])]),qa 43 (.bsl 9 1 1 [qt 42]),qa 44 (.app 9 1 16 (qt 40) (qt 43)),qm 5 44])))))
 (.reg [qa 45 (q3 .add 19 1),qm 19 45])))))))
 (qr [qm 46 5,qa 47 (qc 97 [qt 46,(qs [44])]),qm 11 47]
 (.seq (qr [qm 48 11,qa 49 (qk true 48),qa 50 (q3 .gtr 49 4096)]
 (qC 50
 (qr [qa 2 (.mv (qs [])),qa 3 (.mv (qi 3))]
 .ret)
 .skip))
 (qr [qm 51 11,qm 2 51,qa 3 (.mv (qi 0))]
 .ret)))))))⟩
def ZSf:IFn:=⟨63,[.tmp 2,.tmp 3],(qr [qa 2 (.mv (.c (.x .nils))),qa 3 (.mv (qb false))]
 (qr [qa 4 (.mv (.c (.x .nils)))]
 (.seq (qr [qa 5 (.mv (qi 0))]
 (.block 0
 (.loop
 (.seq (qr [qm 9 5,qm 10 0,qa 11 (qk false 10),qa 12 (q2 .lss 9 11)]
 (qC 12
 .skip
 (.exit 0)))
 (.seq (.block 1
 (.seq (.dreg 14 [] [qm 15 0,qm 16 5,qa 17 (qy 2 15 16),qa 18 (qf 0 17),qa 19 (ql 18),qa 20 (qc 32 [qt 19]),qm 21 0,qm 22 5,qa 23 (qy 2 21 22),qa 24 (qf 1 23),qa 25 (ql 24),qa 26 (qc 107 [qt 25]),qa 27 (.build [.x (.str []),.x (.str [])] [(0,1,(qt 20)),(1,1,(qt 26))]),qa 6 (.box (.c (.agg [.x (.str []),.x (.str [])]))),qo 2 6 27])
 (.seq (qr [qa 28 (qf 1 6),qa 29 (ql 28),qa 30 (.bin .eql (qt 29) (qs []))]
 (qC 30
 (qr [qa 2 (.mv (.c (.x .nils))),qa 3 (.mv (qb false))]
 .ret)
 .skip))
 (qr [qa 7 (.mv (qi 0))]
 (.seq (.block 2
 (.loop
 (.seq (.seq (.dreg 12 [] [qm 31 7,qm 32 4,qa 33 (qk false 32),qa 34 (q2 .lss 31 33),qm 35 34,qh 36 4 35,qh 37 7 35,qT 38 (qy 2 36 37) 35,qT 39 (qf 0 38) 35,qT 40 (ql 39) 35,qT 41 (qf 0 6) 35,qT 42 (ql 41) 35,qT 43 (q2 .lss 40 42) 35,qa 44 (qP 35 43)])
 (qC 44
 .skip
 (.exit 2)))
 (.block 3
 (.reg [qm 45 7,qa 46 (q3 .add 45 1),qm 7 46])))))
 (qr [qa 8 (.mv (.c (.x .nils)))]
 (qr [qm 47 8,qm 48 4,qm 49 7,qa 50 (.slc 2 (qt 48) none (some (qt 49)) none),qa 51 (.app 161 2 32 (qt 47) (qt 50)),qm 8 51]
 (qr [qm 52 8,qa 53 (qL 2 6),qa 54 (.bsl 161 2 1 [qt 53]),qa 55 (.app 161 2 32 (qt 52) (qt 54)),qm 8 55]
 (qr [qm 56 8,qm 57 4,qm 58 7,qa 59 (.slc 2 (qt 57) (some (qt 58)) none none),qa 60 (.app 161 2 32 (qt 56) (qt 59)),qm 8 60]
 (.reg [qm 61 8,qm 4 61]))))))))))
 (.reg [qm 13 5,qa 14 (q3 .add 13 1),qm 5 14]))))))
 (qr [qm 62 4,qm 2 62,qa 3 (.mv (qb true))]
 .ret))))⟩
def ZNG:IFn:=⟨33,[.tmp 2,.tmp 3],(qr [qa 2 (.mv (qs [])),qa 3 (.mv (qi 0))]
 (.seq (qr [qm 7 0,qa 8 (qc 160 [qt 7]),qm 4 8]
 (qr [qm 9 4,qa 10 (q3 .neq 9 0)]
 (qC 10
 (qr [qm 11 4,qa 2 (.mv (qs [])),qm 3 11]
 .ret)
 .skip)))
 (qr [qa 5 (.mv (qs []))]
 (.seq (qr [qa 6 (.mv (qi 0))]
 (.block 0
 (.loop
 (.seq (qr [qm 12 6,qm 13 0,qa 14 (qk false 13),qa 15 (q2 .lss 12 14)]
 (qC 15
 .skip
 (.exit 0)))
 (.seq (.block 1
 (.seq (qr [qm 18 6,qa 19 (q3 .gtr 18 0)]
 (qC 19
 (.reg [qm 20 5,qa 21 (.bin .add (qt 20) (qs [44])),qm 5 21])
 .skip))
 (.reg [qm 22 5,qm 23 0,qm 24 6,qa 25 (qy 1 23 24),qa 26 (ql 25),qa 27 (qc 157 [qt 26]),qa 28 (q2 .add 22 27),qm 5 28])))
 (.reg [qm 16 6,qa 17 (q3 .add 16 1),qm 6 17]))))))
 (.seq (qr [qm 29 5,qa 30 (qk true 29),qa 31 (q3 .gtr 30 4096)]
 (qC 31
 (qr [qa 2 (.mv (qs [])),qa 3 (.mv (qi 3))]
 .ret)
 .skip))
 (qr [qm 32 5,qm 2 32,qa 3 (.mv (qi 0))]
 .ret))))))⟩
def ZSA:IFn:=⟨31,[.tmp 2],(qr [qa 2 (.mv (qs []))]
 (qr [qa 3 (.mv (qs []))]
 (.seq (qr [qa 4 (.mv (qi 0))]
 (.block 0
 (.loop
 (.seq (qr [qm 5 4,qm 6 0,qa 7 (qk false 6),qa 8 (q2 .lss 5 7)]
 (qC 8
 .skip
 (.exit 0)))
 (.seq (.block 1
 (.seq (qr [qm 11 4,qa 12 (q3 .gtr 11 0)]
 (qC 12
 (.reg [qm 13 3,qa 14 (.bin .add (qt 13) (qs [43])),qm 3 14])
 .skip))
 (.dreg 14 [] [qm 15 3,qm 16 0,qm 17 4,qa 18 (qy 2 16 17),qa 19 (qf 0 18),qa 20 (ql 19),qa 21 (q2 .add 15 20),qa 22 (.bin .add (qt 21) (qs [61])),qm 23 0,qm 24 4,qa 25 (qy 2 23 24),qa 26 (qf 1 25),qa 27 (ql 26),qa 28 (qc 182 [qt 27]),qa 29 (q2 .add 22 28),qm 3 29])))
 (.reg [qm 9 4,qa 10 (q3 .add 9 1),qm 4 10]))))))
 (qr [qm 30 3,qm 2 30]
 .ret))))⟩
def ZR0:IFn:=⟨40,[.tmp 4],(qr [qa 4 (.mv (.c (.x .nils)))]
 (qr [qa 5 (.mv (.c (.x .nils)))]
 (qr [qa 6 (.mv (qi 0))]
 (.seq (qr [qa 7 (.mv (qi 0))]
 (.block 0
 (.loop
 (.seq (qr [qm 8 7,qm 9 0,qa 10 (qk true 9),qa 11 (q2 .lss 8 10)]
 (qC 11
 .skip
 (.exit 0)))
 (.seq (.block 1
 (qr [qm 14 0,qm 15 7,qa 16 (qx 14 15),qa 17 (q8 .eql 16 92)]
 (qC 17
 (.reg [qm 18 7,qa 19 (q3 .add 18 1),qm 7 19])
 (qr [qm 20 0,qm 21 7,qa 22 (qx 20 21),qm 23 1,qa 24 (q2 .eql 22 23)]
 (qC 24
 (qr [qm 25 5,qm 26 0,qm 27 6,qm 28 7,qa 29 (.slc 0 (qt 26) (some (qt 27)) (some (qt 28)) none),qa 30 (.bsl 9 1 1 [qt 29]),qa 31 (.app 9 1 16 (qt 25) (qt 30)),qm 5 31]
 (.reg [qm 32 7,qa 33 (q3 .add 32 1),qm 6 33]))
 .skip)))))
 (.reg [qm 12 7,qa 13 (q3 .add 12 1),qm 7 13]))))))
 (qr [qm 34 5,qm 35 0,qm 36 6,qa 37 (.slc 0 (qt 35) (some (qt 36)) none none),qa 38 (.bsl 9 1 1 [qt 37]),qa 39 (.app 9 1 16 (qt 34) (qt 38)),qm 4 39]
 .ret)))))⟩
def ZSh:IFn:=⟨51,[.cell 2 2 true,.tmp 3],(qr [qa 2 (.box (.c (.agg [.x (.str []),.x (.str [])]))),qa 3 (.mv (qb false))]
 (qr [qa 4 (.mv (qi 0))]
 (.seq (.block 0
 (.loop
 (.seq (qr [qm 7 4,qm 8 0,qa 9 (qk true 8),qa 10 (q2 .lss 7 9),qm 11 10,qh 12 0 11,qh 13 4 11,qT 14 (qx 12 13) 11,qT 15 (q8 .neq 14 61) 11,qa 16 (qP 11 15)]
 (qC 16
 .skip
 (.exit 0)))
 (.block 1
 (.reg [qm 17 4,qa 18 (q3 .add 17 1),qm 4 18])))))
 (.seq (qr [qm 19 4,qm 20 0,qa 21 (qk true 20),qa 22 (q2 .eql 19 21),qm 23 22,qj 24 0 23,qj 25 4 23,qg 26 (.slc 0 (qt 24) none (some (qt 25)) none) 23 false,qF 27 (qc 183 [qt 26]) 23,qF 28 (qc 115 [qt 27]) 23,qF 29 (qz 28) 23,qa 30 (qp 23 29)]
 (qC 30
 (qr [qa 31 (.build [.x (.str []),.x (.str [])] []),qo 2 2 31,qa 3 (.mv (qb false))]
 .ret)
 .skip))
 (qr [qm 33 0,qm 34 4,qa 35 (q3 .add 34 1),qa 36 (.slc 0 (qt 33) (some (qt 35)) none none),qa 37 (qc 184 [qt 36]),qm 32 37,qe 38 32 0,qe 39 32 1,qm 5 38,qm 6 39]
 (qr [qm 40 0,qm 41 4,qa 42 (.slc 0 (qt 40) none (some (qt 41)) none),qa 43 (qc 183 [qt 42]),qm 44 5,qa 45 (.build [.x (.str []),.x (.str [])] [(0,1,(qt 43)),(1,1,(qt 44))]),qm 46 6,qm 47 46,qh 48 5 47,qT 49 (.bin .neq (qt 48) (qs [])) 47,qa 50 (qP 47 49),qo 2 2 45,qm 3 50]
 .ret))))))⟩
def ZNF:IFn:=⟨80,[.tmp 2],(qr [qa 2 (.mv (qi 0))]
 (.seq (qr [qm 7 0,qa 8 (qk false 7),qa 9 (q3 .gtr 8 32)]
 (qC 9
 (qr [qa 2 (.mv (qi 3))]
 .ret)
 .skip))
 (.seq (qr [qa 3 (.mv (qi 0))]
 (.block 0
 (.loop
 (.seq (qr [qm 10 3,qm 11 0,qa 12 (qk false 11),qa 13 (q2 .lss 10 12)]
 (qC 13
 .skip
 (.exit 0)))
 (.seq (.block 1
 (.seq (qr [qm 16 0,qm 17 3,qa 18 (qy 1 16 17),qa 19 (ql 18),qa 20 (qk false 19),qa 21 (q3 .lss 20 1),qm 22 21,qj 23 0 22,qj 24 3 22,qF 25 (qy 1 23 24) 22,qF 26 (ql 25) 22,qF 27 (qk false 26) 22,qF 28 (q3 .gtr 27 8) 22,qa 29 (qp 22 28)]
 (qC 29
 (qr [qa 2 (.mv (qi 5))]
 .ret)
 .skip))
 (qr [qa 4 (.mv (qi 0))]
 (.block 2
 (.loop
 (.seq (qr [qm 30 4,qm 31 0,qm 32 3,qa 33 (qy 1 31 32),qa 34 (ql 33),qa 35 (qk false 34),qa 36 (q2 .lss 30 35)]
 (qC 36
 .skip
 (.exit 2)))
 (.seq (.block 3
 (qr [qm 39 0,qm 40 3,qa 41 (qy 1 39 40),qa 42 (ql 41),qm 43 4,qa 44 (qy 2 42 43),qa 45 (qL 2 44),qa 5 (.box (.c (.agg [.x (.str []),.x (.str [])]))),qo 2 5 45]
 (.seq (qr [qa 46 (qf 0 5),qa 47 (ql 46),qa 48 (qc 115 [qt 47]),qa 49 (qz 48),qm 50 49,qF 51 (qf 1 5) 50,qF 52 (ql 51) 50,qF 53 (qk true 52) 50,qF 54 (q3 .lss 53 1) 50,qa 55 (qp 50 54),qm 56 55,qF 57 (qf 1 5) 56,qF 58 (ql 57) 56,qF 59 (qk true 58) 56,qF 60 (q3 .gtr 59 256) 56,qa 61 (qp 56 60)]
 (qC 61
 (qr [qa 2 (.mv (qi 5))]
 .ret)
 .skip))
 (qr [qa 6 (.mv (qi 0))]
 (.block 4
 (.loop
 (.seq (qr [qm 62 6,qm 63 4,qa 64 (q2 .lss 62 63)]
 (qC 64
 .skip
 (.exit 4)))
 (.seq (.block 5
 (.seq (.dreg 11 [] [qm 67 0,qm 68 3,qa 69 (qy 1 67 68),qa 70 (ql 69),qm 71 6,qa 72 (qy 2 70 71),qa 73 (qf 0 72),qa 74 (ql 73),qa 75 (qc 32 [qt 74]),qa 76 (qf 0 5),qa 77 (ql 76),qa 78 (qc 32 [qt 77]),qa 79 (q2 .eql 75 78)])
 (qC 79
 (qr [qa 2 (.mv (qi 5))]
 .ret)
 .skip)))
 (.reg [qm 65 6,qa 66 (q3 .add 65 1),qm 6 66])))))))))
 (.reg [qm 37 4,qa 38 (q3 .add 37 1),qm 4 38]))))))))
 (.reg [qm 14 3,qa 15 (q3 .add 14 1),qm 3 15]))))))
 (qr [qa 2 (.mv (qi 0))]
 .ret))))⟩
def ZLU:IFn:=⟨39,[.tmp 4],(qr [qa 4 (.mv (.c (.x .nils)))]
 (qr [qa 5 (.mv (.c (.x .nils)))]
 (qr [qa 6 (.mv (qi 0))]
 (.seq (qr [qa 7 (.mv (qi 0))]
 (.block 0
 (.loop
 (.seq (qr [qm 8 7,qm 9 0,qa 10 (qk true 9),qa 11 (q2 .lss 8 10)]
 (qC 11
 .skip
 (.exit 0)))
 (.seq (.block 1
 (qr [qm 14 0,qm 15 7,qa 16 (qx 14 15)]
 (.block 2
 (qr [qa 18 (q8 .eql 16 92),qm 17 18]
 (qC 17
 (.reg [qm 19 7,qa 20 (q3 .add 19 1),qm 7 20])
 (qr [qm 22 1,qa 23 (q2 .eql 16 22),qm 21 23]
 (qC 21
 (qr [qm 24 5,qm 25 0,qm 26 6,qm 27 7,qa 28 (.slc 0 (qt 25) (some (qt 26)) (some (qt 27)) none),qa 29 (.bsl 9 1 1 [qt 28]),qa 30 (.app 9 1 16 (qt 24) (qt 29)),qm 5 30]
 (.reg [qm 31 7,qa 32 (q3 .add 31 1),qm 6 32]))
 .skip)))))))
 (.reg [qm 12 7,qa 13 (q3 .add 12 1),qm 7 13]))))))
 (qr [qm 33 5,qm 34 0,qm 35 6,qa 36 (.slc 0 (qt 34) (some (qt 35)) none none),qa 37 (.bsl 9 1 1 [qt 36]),qa 38 (.app 9 1 16 (qt 33) (qt 37)),qm 4 38]
 .ret)))))⟩
def ZJb:IFn:=⟨29,[.tmp 2,.tmp 3],(qr [qa 2 (.mv (.c (.x .nils))),qa 3 (.mv (qb false))]
 (qr [qa 4 (.mv (.c (.x .nils)))]
 (.seq (qr [qm 9 0,qa 10 (qc 166 [qt 9,(.c (.x (.int .u8 (43))))]),qa 11 (qk false 10),qa 12 (.mv (qi 0))]
 (.block 0
 (.loop
 (qr [qa 13 (q2 .lss 12 11)]
 (.seq (qC 13
 .skip
 (.exit 0))
 (.seq (.block 1
 (qr [qa 14 (qy 1 10 12),qa 15 (ql 14),qm 6 15]
 (qr [qm 17 6,qa 18 (qc 187 [qt 17]),qm 16 18,qe 19 16 0,qe 20 16 1,qa 7 (.box (.c (.agg [.x (.str []),.x (.str [])]))),qo 2 7 19,qm 8 20]
 (.seq (qr [qm 21 8,qa 22 (qz 21)]
 (qC 22
 (qr [qa 2 (.mv (.c (.x .nils))),qa 3 (.mv (qb false))]
 .ret)
 .skip))
 (.reg [qm 23 4,qa 24 (qL 2 7),qa 25 (.bsl 161 2 1 [qt 24]),qa 26 (.app 161 2 32 (qt 23) (qt 25)),qm 4 26])))))
 (.reg [qa 27 (q3 .add 12 1),qm 12 27])))))))
 (qr [qm 28 4,qm 2 28,qa 3 (.mv (qb true))]
 .ret))))⟩
def ZHV:IFn:=⟨18,[.tmp 2],(qr [qa 2 (.mv (qi 0))]
 (.seq (qr [qm 5 0,qa 6 (qk false 5),qa 7 (q3 .gtr 6 32)]
 (qC 7
 (qr [qa 2 (.mv (qi 3))]
 .ret)
 .skip))
 (.seq (qr [qm 8 0,qa 9 (qk false 8),qa 10 (.mv (qi 0))]
 (.block 0
 (.loop
 (qr [qa 11 (q2 .lss 10 9)]
 (.seq (qC 11
 .skip
 (.exit 0))
 (.seq (.block 1
 (qr [qa 12 (qy 1 8 10),qa 13 (ql 12),qm 4 13]
 (qr [qm 14 4,qa 15 (qc 188 [qt 14]),qa 16 (qz 15)]
 (qC 16
 (qr [qa 2 (.mv (qi 5))]
 .ret)
 .skip))))
 (.reg [qa 17 (q3 .add 10 1),qm 10 17])))))))
 (qr [qa 2 (.mv (qi 0))]
 .ret))))⟩
def Zd1:IFn:=⟨148,[],(qr [qa 10 (.mv (qb true))]
 (qr [qa 11 (.mv (qb true))]
 (.block 0
 (.loop
 (.block 1
 (qr [qm 21 2,qm 22 1,qa 23 (q2 .sub 21 22),qm 12 23]
 (.seq (qr [qm 24 12,qa 25 (q3 .leq 24 12)]
 (qC 25
 (qr [qm 26 0,qm 27 1,qm 28 2,qm 29 4,qa 30 (qc 194 [qt 26,qt 27,qt 28,qt 29])]
 .ret)
 .skip))
 (.seq (qr [qm 31 3,qa 32 (q3 .eql 31 0)]
 (qC 32
 (qr [qm 33 0,qm 34 1,qm 35 2,qm 36 4,qa 37 (qc 195 [qt 33,qt 34,qt 35,qt 36])]
 .ret)
 .skip))
 (.seq (qr [qm 38 10,qa 39 (qz 38)]
 (qC 39
 (qr [qm 40 0,qm 41 1,qm 42 2,qm 43 4,qa 44 (qc 196 [qt 40,qt 41,qt 42,qt 43])]
 (.reg [qm 45 3,qa 46 (q3 .sub 45 1),qm 3 46]))
 .skip))
 (qr [qm 48 0,qm 49 1,qm 50 2,qm 51 4,qa 52 (qc 197 [qt 48,qt 49,qt 50,qt 51]),qm 47 52,qe 53 47 0,qe 54 47 1,qm 13 53,qm 14 54]
 (.seq (qr [qm 55 14,qa 56 (q3 .eql 55 2)]
 (qC 56
 (qr [qm 57 0,qm 58 1,qm 59 2,qm 60 4,qa 61 (qc 198 [qt 57,qt 58,qt 59,qt 60])]
 (qr [qm 62 2,qa 63 (q3 .sub 62 1),qm 64 13,qm 65 1,qa 66 (q2 .sub 64 65),qa 67 (q2 .sub 63 66),qm 13 67]
 (.reg [qa 14 (.mv (qi 1))])))
 .skip))
 (.seq (qr [qm 68 10,qm 69 68,qh 70 11 69,qa 71 (qP 69 70),qm 72 71,qh 73 14 72,qT 74 (q3 .eql 73 1) 72,qa 75 (qP 72 74)]
 (qC 75
 (qr [qm 76 0,qm 77 1,qm 78 2,qm 79 4,qa 80 (qc 199 [qt 76,qt 77,qt 78,qt 79])]
 (qC 80
 .ret
 .skip))
 .skip))
 (.seq (.seq (.dreg 13 [] [qm 81 1,qa 82 (q3 .gtr 81 0),qm 83 82,qh 84 4 83,qh 85 0 83,qh 86 1 83,qT 87 (q3 .sub 86 1) 83,qT 88 (qy 2 85 87) 83,qT 89 (qL 2 88) 83,qh 90 0 83,qh 91 13 83,qT 92 (qy 2 90 91) 83,qT 93 (qL 2 92) 83,qT 94 (.call (qt 84) [qt 89,qt 93]) 83,qT 95 (q3 .lss 94 0) 83,qT 96 (qz 95) 83,qa 97 (qP 83 96)])
 (qC 97
 (qr [qm 98 0,qm 99 1,qm 100 2,qm 101 13,qm 102 4,qa 103 (qc 200 [qt 98,qt 99,qt 100,qt 101,qt 102]),qm 15 103]
 (qr [qm 104 15,qm 1 104]
 (.exit 1)))
 .skip))
 (qr [qm 106 0,qm 107 1,qm 108 2,qm 109 13,qm 110 4,qa 111 (qc 201 [qt 106,qt 107,qt 108,qt 109,qt 110]),qm 105 111,qe 112 105 0,qe 113 105 1,qm 16 112,qm 17 113]
 (qr [qm 114 17,qm 11 114]
 (qr [qm 115 16,qm 116 1,qa 117 (q2 .sub 115 116),qm 118 2,qm 119 16,qa 120 (q2 .sub 118 119),qm 18 117,qm 19 120]
 (qr [qm 121 12,qa 122 (q3 .quo 121 8),qm 20 122]
 (qr [qm 123 18,qm 124 19,qa 125 (q2 .lss 123 124)]
 (qC 125
 (qr [qm 126 18,qm 127 20,qa 128 (q2 .geq 126 127),qm 10 128]
 (qr [qm 129 0,qm 130 1,qm 131 16,qm 132 3,qm 133 4,qa 134 (qc 175 [qt 129,qt 130,qt 131,qt 132,qt 133])]
 (.reg [qm 135 16,qa 136 (q3 .add 135 1),qm 1 136])))
 (qr [qm 137 19,qm 138 20,qa 139 (q2 .geq 137 138),qm 10 139]
 (qr [qm 140 0,qm 141 16,qa 142 (q3 .add 141 1),qm 143 2,qm 144 3,qm 145 4,qa 146 (qc 175 [qt 140,qt 142,qt 143,qt 144,qt 145])]
 (.reg [qm 147 16,qm 2 147]))))))))))))))))))))))⟩
def ZSP:IFn:=⟨70,[.tmp 2],(qr [qa 2 (.mv (qs []))]
 (qr [qa 3 (.mv (.c (.x .nils)))]
 (.seq (qr [qm 8 0,qa 9 (.s2b 5 (qt 8)),qa 10 (qk false 9),qa 11 (.mv (qi 0))]
 (.block 0
 (.loop
 (qr [qa 12 (q2 .lss 11 10)]
 (.seq (qC 12
 .skip
 (.exit 0))
 (.seq (.block 1
 (qr [qm 13 11,qa 14 (qy 1 9 11),qa 15 (ql 14),qm 4 13,qm 5 15]
 (qr [qm 16 4,qa 17 (q3 .eql 16 0),qm 18 4,qm 19 0,qa 20 (qk true 19),qa 21 (q3 .sub 20 1),qa 22 (q2 .eql 18 21),qm 6 17,qm 7 22]
 (.seq (.block 2
 (qr [qm 24 5,qa 25 (q8 .lss 24 32),qm 26 25,qj 27 5 26,qF 28 (q8 .eql 27 127) 26,qa 29 (qp 26 28),qm 23 29]
 (qC 23
 (.seq (.dreg 0 [] [qm 30 3,qm 31 5,qa 32 (q8 .quo 31 16),qa 33 (.idx (qs [48,49,50,51,52,53,54,55,56,57,97,98,99,100,101,102]) (qt 32)),qm 34 5,qa 35 (q8 .rem 34 16),qa 36 (.idx (qs [48,49,50,51,52,53,54,55,56,57,97,98,99,100,101,102]) (qt 35)),qa 37 (.bsl 5 1 3 [(.c (.x (.int .u8 (92)))),qt 33,qt 36]),qa 38 (.app 5 1 1 (qt 30) (qt 37)),qm 3 38])
 (.exit 1))
 (qr [qm 40 5,qa 41 (qc 202 [(qs [44,43,34,92,60,62,59,61]),qt 40]),qm 42 41,qj 43 6 42,qj 44 43 42,qh 45 5 44,qT 46 (q8 .eql 45 32) 44,qh 47 46 44,qj 48 5 47,qF 49 (q8 .eql 48 35) 47,qT 50 (qp 47 49) 44,qF 51 (qP 44 50) 42,qa 52 (qp 42 51),qm 53 52,qj 54 7 53,qj 55 54 53,qh 56 5 55,qT 57 (q8 .eql 56 32) 55,qF 58 (qP 55 57) 53,qa 59 (qp 53 58),qm 39 59]
 (qC 39
 (.reg [qm 60 3,qa 61 (.bsl 5 1 1 [(.c (.x (.int .u8 (92))))]),qa 62 (.app 5 1 1 (qt 60) (qt 61)),qm 3 62])
 .skip)))))
 (.reg [qm 63 3,qm 64 5,qa 65 (.bsl 5 1 1 [qt 64]),qa 66 (.app 5 1 1 (qt 63) (qt 65)),qm 3 66])))))
 (.reg [qa 67 (q3 .add 11 1),qm 11 67])))))))
 (qr [qm 68 3,qa 69 (.b2s (qt 68)),qm 2 69]
 .ret))))⟩
def ZSm:IFn:=⟨83,[.tmp 2],(qr [qa 2 (.mv (qs []))]
 (qr [qa 3 (.mv (qs [48,49,50,51,52,53,54,55,56,57,97,98,99,100,101,102]))]
 (qr [qa 4 (.mv (qs []))]
 (.seq (qr [qa 5 (.mv (qi 0))]
 (.block 0
 (.loop
 (.seq (qr [qm 7 5,qm 8 0,qa 9 (qk true 8),qa 10 (q2 .lss 7 9)]
 (qC 10
 .skip
 (.exit 0)))
 (.seq (.block 1
 (qr [qm 13 0,qm 14 5,qa 15 (qx 13 14),qm 6 15]
 (.block 2
 (qr [qm 24 6,qa 25 (q8 .lss 24 32),qm 26 25,qj 27 6 26,qF 28 (q8 .eql 27 127) 26,qa 29 (qp 26 28),qm 23 29]
 (qC 23
 (.dreg 0 [] [qm 30 4,qa 31 (.bin .add (qt 30) (qs [92])),qm 32 3,qm 33 6,qa 34 (q8 .quo 33 16),qm 35 6,qa 36 (q8 .quo 35 16),qa 37 (q8 .add 36 1),qa 38 (.slc 0 (qt 32) (some (qt 34)) (some (qt 37)) none),qa 39 (q2 .add 31 38),qm 40 3,qm 41 6,qa 42 (q8 .rem 41 16),qm 43 6,qa 44 (q8 .rem 43 16),qa 45 (q8 .add 44 1),qa 46 (.slc 0 (qt 40) (some (qt 42)) (some (qt 45)) none),qa 47 (q2 .add 39 46),qm 4 47])
 (qr [qm 49 6,qa 50 (qc 204 [qt 49]),qm 51 50,qj 52 5 51,qF 53 (q3 .eql 52 0) 51,qj 54 53 51,qh 55 6 54,qT 56 (q8 .eql 55 32) 54,qh 57 56 54,qj 58 6 57,qF 59 (q8 .eql 58 35) 57,qT 60 (qp 57 59) 54,qF 61 (qP 54 60) 51,qa 62 (qp 51 61),qm 63 62,qj 64 5 63,qj 65 0 63,qF 66 (qk true 65) 63,qF 67 (q3 .sub 66 1) 63,qF 68 (q2 .eql 64 67) 63,qj 69 68 63,qh 70 6 69,qT 71 (q8 .eql 70 32) 69,qF 72 (qP 69 71) 63,qa 73 (qp 63 72),qm 48 73]
 (qC 48
 (.reg [qm 74 4,qa 75 (.bin .add (qt 74) (qs [92])),qm 76 0,qm 77 5,qm 78 5,qa 79 (q3 .add 78 1),qa 80 (.slc 0 (qt 76) (some (qt 77)) (some (qt 79)) none),qa 81 (q2 .add 75 80),qm 4 81])
 (.reg [qm 16 4,qm 17 0,qm 18 5,qm 19 5,qa 20 (q3 .add 19 1),qa 21 (.slc 0 (qt 17) (some (qt 18)) (some (qt 20)) none),qa 22 (q2 .add 16 21),qm 4 22]))))))))
 (.reg [qm 11 5,qa 12 (q3 .add 11 1),qm 5 12]))))))
 (qr [qm 82 4,qm 2 82]
 .ret)))))⟩
def ZRz:IFn:=⟨28,[.tmp 2],(qr [qa 2 (.mv (qs []))]
 (.seq (.block 0
 (.loop
 (.seq (qr [qm 3 0,qa 4 (.bin .neq (qt 3) (qs [])),qm 5 4,qh 6 0 5,qT 7 (.idx (qt 6) (qi 0)) 5,qT 8 (q8 .eql 7 32) 5,qa 9 (qP 5 8)]
 (qC 9
 .skip
 (.exit 0)))
 (.block 1
 (.reg [qm 10 0,qa 11 (.slc 0 (qt 10) (some (qi 1)) none none),qm 0 11])))))
 (.seq (.block 2
 (.loop
 (.seq (qr [qm 12 0,qa 13 (.bin .neq (qt 12) (qs [])),qm 14 13,qh 15 0 14,qh 16 0 14,qT 17 (qk true 16) 14,qT 18 (q3 .sub 17 1) 14,qT 19 (qx 15 18) 14,qT 20 (q8 .eql 19 32) 14,qa 21 (qP 14 20)]
 (qC 21
 .skip
 (.exit 2)))
 (.block 3
 (.reg [qm 22 0,qm 23 0,qa 24 (qk true 23),qa 25 (q3 .sub 24 1),qa 26 (.slc 0 (qt 22) none (some (qt 25)) none),qm 0 26])))))
 (qr [qm 27 0,qm 2 27]
 .ret))))⟩
def ZTI:IFn:=⟨155,[.tmp 2,.tmp 3],(qr [qa 2 (.mv (qs [])),qa 3 (.mv (qb false))]
 (.seq (.block 0
 (.loop
 (.seq (qr [qm 8 0,qa 9 (.bin .neq (qt 8) (qs [])),qm 10 9,qh 11 0 10,qT 12 (.idx (qt 11) (qi 0)) 10,qT 13 (q8 .eql 12 32) 10,qa 14 (qP 10 13)]
 (qC 14
 .skip
 (.exit 0)))
 (.block 1
 (.reg [qm 15 0,qa 16 (.slc 0 (qt 15) (some (qi 1)) none none),qm 0 16])))))
 (qr [qa 4 (.mv (.c (.x .nils)))]
 (qr [qa 5 (.mv (qi 0))]
 (.seq (qr [qa 6 (.mv (qi 0))]
 (.block 2
 (.loop
 (.seq (qr [qm 17 6,qm 18 0,qa 19 (qk true 18),qa 20 (q2 .lss 17 19)]
 (qC 20
 .skip
 (.exit 2)))
 (.seq (.block 3
 (qr [qm 23 0,qm 24 6,qa 25 (qx 23 24),qm 7 25]
 (.block 4
 (qr [qm 33 7,qa 34 (q8 .eql 33 92),qm 35 34,qh 36 6 35,qT 37 (q3 .add 36 1) 35,qh 38 0 35,qT 39 (qk true 38) 35,qT 40 (q2 .lss 37 39) 35,qa 41 (qP 35 40),qm 42 41,qh 43 0 42,qh 44 6 42,qT 45 (q3 .add 44 1) 42,qT 46 (qx 43 45) 42,qT 47 (qc 204 [qt 46]) 42,qh 48 47 42,qj 49 0 48,qj 50 6 48,qF 51 (q3 .add 50 1) 48,qF 52 (qx 49 51) 48,qF 53 (q8 .eql 52 32) 48,qT 54 (qp 48 53) 42,qh 55 54 42,qj 56 0 55,qj 57 6 55,qF 58 (q3 .add 57 1) 55,qF 59 (qx 56 58) 55,qF 60 (q8 .eql 59 35) 55,qT 61 (qp 55 60) 42,qa 62 (qP 42 61),qm 32 62]
 (qC 32
 (qr [qm 63 4,qm 64 0,qm 65 6,qa 66 (q3 .add 65 1),qa 67 (qx 64 66),qa 68 (.bsl 5 1 1 [qt 67]),qa 69 (.app 5 1 1 (qt 63) (qt 68)),qm 4 69]
 (qr [qm 70 6,qa 71 (q3 .add 70 1),qm 6 71]
 (.reg [qm 72 4,qa 73 (qk false 72),qm 5 73])))
 (qr [qm 75 7,qa 76 (q8 .eql 75 92),qm 77 76,qh 78 6 77,qT 79 (q3 .add 78 2) 77,qh 80 0 77,qT 81 (qk true 80) 77,qT 82 (q2 .lss 79 81) 77,qa 83 (qP 77 82),qm 84 83,qh 85 0 84,qh 86 6 84,qT 87 (q3 .add 86 1) 84,qT 88 (qx 85 87) 84,qT 89 (qc 205 [qt 88]) 84,qT 90 (q3 .lss 89 16) 84,qa 91 (qP 84 90),qm 92 91,qh 93 0 92,qh 94 6 92,qT 95 (q3 .add 94 2) 92,qT 96 (qx 93 95) 92,qT 97 (qc 205 [qt 96]) 92,qT 98 (q3 .lss 97 16) 92,qa 99 (qP 92 98),qm 74 99]
 (qC 74
 (.seq (.dreg 0 [] [qm 100 4,qm 101 0,qm 102 6,qa 103 (q3 .add 102 1),qa 104 (qx 101 103),qa 105 (qc 205 [qt 104]),qa 106 (.bin .mul (qi 16) (qt 105)),qm 107 0,qm 108 6,qa 109 (q3 .add 108 2),qa 110 (qx 107 109),qa 111 (qc 205 [qt 110]),qa 112 (q2 .add 106 111),qa 113 (.cvi .u8 (qt 112)),qa 114 (.bsl 5 1 1 [qt 113]),qa 115 (.app 5 1 1 (qt 100) (qt 114)),qm 4 115])
 (qr [qm 116 6,qa 117 (q3 .add 116 2),qm 6 117]
 (.reg [qm 118 4,qa 119 (qk false 118),qm 5 119])))
 (qr [qm 121 7,qa 122 (q8 .eql 121 32),qm 120 122]
 (qC 120
 (.reg [qm 123 4,qm 124 7,qa 125 (.bsl 5 1 1 [qt 124]),qa 126 (.app 5 1 1 (qt 123) (qt 125)),qm 4 126])
 (qr [qm 128 7,qa 129 (q8 .lss 128 32),qm 130 129,qj 131 7 130,qF 132 (q8 .eql 131 127) 130,qa 133 (qp 130 132),qm 134 133,qj 135 7 134,qF 136 (qc 204 [qt 135]) 134,qj 137 136 134,qh 138 7 137,qT 139 (q8 .neq 138 61) 137,qF 140 (qP 137 139) 134,qa 141 (qp 134 140),qm 142 141,qj 143 7 142,qF 144 (q8 .eql 143 35) 142,qj 145 144 142,qh 146 4 145,qT 147 (qk false 146) 145,qT 148 (q3 .eql 147 0) 145,qF 149 (qP 145 148) 142,qa 150 (qp 142 149),qm 127 150]
 (qC 127
 (qr [qa 2 (.mv (qs [])),qa 3 (.mv (qb false))]
 .ret)
 (qr [qm 26 4,qm 27 7,qa 28 (.bsl 5 1 1 [qt 27]),qa 29 (.app 5 1 1 (qt 26) (qt 28)),qm 4 29]
 (.reg [qm 30 4,qa 31 (qk false 30),qm 5 31])))))))))))))
 (.reg [qm 21 6,qa 22 (q3 .add 21 1),qm 6 22]))))))
 (qr [qm 151 4,qm 152 5,qa 153 (.slc 1 (qt 151) none (some (qt 152)) none),qa 154 (.b2s (qt 153)),qm 2 154,qa 3 (.mv (qb true))]
 .ret))))))⟩
def ZTb:IFn:=⟨33,[.cell 2 2 true,.tmp 3],(qr [qa 2 (.box (.c (.agg [.x (.str []),.x (.str [])]))),qa 3 (.mv (qb false))]
 (qr [qm 9 0,qa 10 (qc 206 [qt 9,(qs [61])]),qm 8 10,qe 11 8 0,qe 12 8 1,qe 13 8 2,qm 4 11,qm 5 12,qm 6 13]
 (qr [qm 14 4,qa 15 (qc 207 [qt 14,(qs [32])]),qm 4 15]
 (.seq (qr [qm 16 6,qa 17 (qz 16),qm 18 17,qj 19 4 18,qF 20 (qc 208 [qt 19]) 18,qF 21 (qz 20) 18,qa 22 (qp 18 21)]
 (qC 22
 (qr [qa 23 (.build [.x (.str []),.x (.str [])] []),qo 2 2 23,qa 3 (.mv (qb false))]
 .ret)
 .skip))
 (qr [qm 25 5,qa 26 (qc 209 [qt 25]),qm 24 26,qe 27 24 0,qe 28 24 1,qm 7 27,qm 6 28]
 (qr [qm 29 4,qm 30 7,qa 31 (.build [.x (.str []),.x (.str [])] [(0,1,(qt 29)),(1,1,(qt 30))]),qm 32 6,qo 2 2 31,qm 3 32]
 .ret))))))⟩
def ZJh:IFn:=⟨51,[.tmp 2],(qr [qa 2 (.mv (qb false))]
 (qr [qa 7 (.mkm .str false),qm 3 7]
 (.seq (qr [qm 8 0,qa 9 (qk false 8),qa 10 (.mv (qi 0))]
 (.block 0
 (.loop
 (qr [qa 11 (q2 .lss 10 9)]
 (.seq (qC 11
 .skip
 (.exit 0))
 (.seq (.block 1
 (qr [qa 12 (qy 2 8 10),qa 13 (qL 2 12),qa 5 (.box (.c (.agg [.x (.str []),.x (.str [])]))),qo 2 5 13]
 (qr [qa 14 (qf 0 5),qa 15 (ql 14),qa 16 (qc 37 [qt 15]),qm 6 16]
 (.seq (qr [qa 17 (qf 0 5),qa 18 (ql 17),qa 19 (qc 208 [qt 18]),qa 20 (qz 19),qm 21 20,qF 22 (qf 1 5) 21,qF 23 (ql 22) 21,qF 24 (.bin .eql (qt 23) (qs [])) 21,qa 25 (qp 21 24),qm 26 25,qF 27 (qf 1 5) 26,qF 28 (ql 27) 26,qF 29 (qk true 28) 26,qF 30 (q3 .gtr 29 256) 26,qa 31 (qp 26 30),qm 32 31,qj 33 3 32,qj 34 6 32,qg 35 (.mlk .str false (.x (.int .i64 (0))) (qt 33) (qt 34)) 32 false,qF 36 (q3 .gtr 35 0) 32,qa 37 (qp 32 36)]
 (qC 37
 (qr [qa 2 (.mv (qb false))]
 .ret)
 .skip))
 (.reg [qm 38 3,qm 39 6,qa 40 (.mlk .str false (.x (.int .i64 (0))) (qt 38) (qt 39)),qa 41 (q3 .add 40 1),⟨none,.mup .str (qt 38) (qt 39) (qt 41),none⟩])))))
 (.reg [qa 42 (q3 .add 10 1),qm 10 42])))))))
 (qr [qm 43 0,qa 44 (qk false 43),qa 45 (q3 .geq 44 1),qm 46 45,qh 47 0 46,qT 48 (qk false 47) 46,qT 49 (q3 .leq 48 8) 46,qa 50 (qP 46 49),qm 2 50]
 .ret))))⟩
def ZLC:IFn:=⟨18,[.tmp 4],(qr [qa 4 (.mv (qb false))]
 (.seq (qr [qm 7 0,qa 8 (.s2b 5 (qt 7)),qa 9 (qk false 8),qa 10 (.mv (qi 0))]
 (.block 0
 (.loop
 (qr [qa 11 (q2 .lss 10 9)]
 (.seq (qC 11
 .skip
 (.exit 0))
 (.seq (.block 1
 (qr [qa 12 (qy 1 8 10),qa 13 (ql 12),qm 6 13]
 (qr [qm 14 6,qm 15 1,qa 16 (q2 .eql 14 15)]
 (qC 16
 (qr [qa 4 (.mv (qb true))]
 .ret)
 .skip))))
 (.reg [qa 17 (q3 .add 10 1),qm 10 17])))))))
 (qr [qa 4 (.mv (qb false))]
 .ret)))⟩
def ZPH:IFn:=⟨33,[.tmp 2],(qr [qa 2 (.mv (qb false))]
 (qr [qm 3 0,qa 4 (q8 .eql 3 44),qm 5 4,qj 6 0 5,qF 7 (q8 .eql 6 43) 5,qa 8 (qp 5 7),qm 9 8,qj 10 0 9,qF 11 (q8 .eql 10 34) 9,qa 12 (qp 9 11),qm 13 12,qj 14 0 13,qF 15 (q8 .eql 14 92) 13,qa 16 (qp 13 15),qm 17 16,qj 18 0 17,qF 19 (q8 .eql 18 60) 17,qa 20 (qp 17 19),qm 21 20,qj 22 0 21,qF 23 (q8 .eql 22 62) 21,qa 24 (qp 21 23),qm 25 24,qj 26 0 25,qF 27 (q8 .eql 26 59) 25,qa 28 (qp 25 27),qm 29 28,qj 30 0 29,qF 31 (q8 .eql 30 61) 29,qa 32 (qp 29 31),qm 2 32]
 .ret))⟩
def ZTh:IFn:=⟨35,[.tmp 2],(qr [qa 2 (.mv (qi 0))]
 (.seq (.block 0
 (qr [qm 4 0,qa 5 (q8 .geq 4 48),qm 6 5,qh 7 0 6,qT 8 (q8 .leq 7 57) 6,qa 9 (qP 6 8),qm 3 9]
 (qC 3
 (qr [qm 10 0,qa 11 (.cvi .i64 (qt 10)),qa 12 (q3 .sub 11 48),qm 2 12]
 .ret)
 (qr [qm 14 0,qa 15 (q8 .geq 14 97),qm 16 15,qh 17 0 16,qT 18 (q8 .leq 17 102) 16,qa 19 (qP 16 18),qm 13 19]
 (qC 13
 (qr [qm 20 0,qa 21 (.cvi .i64 (qt 20)),qa 22 (q3 .sub 21 97),qa 23 (q3 .add 22 10),qm 2 23]
 .ret)
 (qr [qm 25 0,qa 26 (q8 .geq 25 65),qm 27 26,qh 28 0 27,qT 29 (q8 .leq 28 70) 27,qa 30 (qP 27 29),qm 24 30]
 (qC 24
 (qr [qm 31 0,qa 32 (.cvi .i64 (qt 31)),qa 33 (q3 .sub 32 65),qa 34 (q3 .add 33 10),qm 2 34]
 .ret)
 .skip)))))))
 (qr [qa 2 (.mv (qi 16))]
 .ret)))⟩
def ZSR:IFn:=⟨43,[.tmp 4],(qr [qa 4 (.mv (qs []))]
 (.seq (qr [qm 7 0,qa 8 (.bin .eql (qt 7) (qs [])),qm 9 8,qj 10 1 9,qF 11 (.bin .eql (qt 10) (qs [])) 9,qa 12 (qp 9 11)]
 (qC 12
 (qr [qm 13 0,qm 4 13]
 .ret)
 .skip))
 (.seq (qr [qm 14 1,qa 15 (qk true 14),qa 16 (q3 .eql 15 1),qm 17 16,qh 18 1 17,qT 19 (.idx (qt 18) (qi 0)) 17,qT 20 (q8 .lss 19 128) 17,qa 21 (qP 17 20)]
 (qC 21
 (.seq (.dreg 0 [] [qm 22 0,qm 23 1,qa 24 (.idx (qt 23) (qi 0)),qa 25 (qc 220 [qt 22,qt 24]),qm 26 1,qa 27 (.idx (qt 26) (qi 0)),qa 28 (qc 219 [qt 25,qt 27]),qm 4 28])
 .ret)
 .skip))
 (.seq (qr [qm 30 1,qa 31 (qc 221 [qt 30]),qm 29 31,qe 32 29 0,qe 33 29 1,qa 5 (.abx 246 (.c (.agg [.x (.bool false),.x (.bool false),.x (.bool false),.x (.bool false),.x (.bool false),.x (.bool false),.x (.bool false),.x (.bool false),.x (.bool false),.x (.bool false),.x (.bool false),.x (.bool false),.x (.bool false),.x (.bool false),.x (.bool false),.x (.bool false),.x (.bool false),.x (.bool false),.x (.bool false),.x (.bool false),.x (.bool false),.x (.bool false),.x (.bool false),.x (.bool false),.x (.bool false),.x (.bool false),.x (.bool false),.x (.bool false),.x (.bool false),.x (.bool false),.x (.bool false),.x (.bool false),.x (.bool false),.x (.bool false),.x (.bool false),.x (.bool false),.x (.bool false),.x (.bool false),.x (.bool false),.x (.bool false),.x (.bool false),.x (.bool false),.x (.bool false),.x (.bool false),.x (.bool false),.x (.bool false),.x (.bool false),.x (.bool false),.x (.bool false),.x (.bool false),.x (.bool false),.x (.bool false),.x (.bool false),.x (.bool false),.x (.bool false),.x (.bool false),.x (.bool false),.x (.bool false),.x (.bool false),.x (.bool false),.x (.bool false),.x (.bool false),.x (.bool false),.x (.bool false),.x (.bool false),.x (.bool false),.x (.bool false),.x (.bool false),.x (.bool false),.x (.bool false),.x (.bool false),.x (.bool false),.x (.bool false),.x (.bool false),.x (.bool false),.x (.bool false),.x (.bool false),.x (.bool false),.x (.bool false),.x (.bool false),.x (.bool false),.x (.bool false),.x (.bool false),.x (.bool false),.x (.bool false),.x (.bool false),.x (.bool false),.x (.bool false),.x (.bool false),.x (.bool false),.x (.bool false),.x (.bool false),.x (.bool false),.x (.bool false),.x (.bool false),.x (.bool false),.x (.bool false),.x (.bool false),.x (.bool false),.x (.bool false),.x (.bool false),.x (.bool false),.x (.bool false),.x (.bool false),.x (.bool false),.x (.bool false),.x (.bool false),.x (.bool false),.x (.bool false),.x (.bool false),.x (.bool false),.x (.bool false),.x (.bool false),.x (.bool false),.x (.bool false),.x (.bool false),.x (.bool false),.x (.bool false),.x (.bool false),.x (.bool false),.x (.bool false),.x (.bool false),.x (.bool false),.x (.bool false),.x (.bool false),.x (.bool false),.x (.bool false),.x (.bool false),.x (.bool false),.x (.bool false),.x (.bool false),.x (.bool false),.x (.bool false),.x (.bool false),.x (.bool false),.x (.bool false),.x (.bool false),.x (.bool false),.x (.bool false),.x (.bool false),.x (.bool false),.x (.bool false),.x (.bool false),.x (.bool false),.x (.bool false),.x (.bool false),.x (.bool false),.x (.bool false),.x (.bool false),.x (.bool false),.x (.bool false),.x (.bool false),.x (.bool false),.x (.bool false),.x (.bool false),.x (.bool false),.x (.bool false),.x (.bool false),.x (.bool false),.x (.bool false),.x (.bool false),.x (.bool false),.x (.bool false),.x (.bool false),.x (.bool false),.x (.bool false),.x (.bool false),.x (.bool false),.x (.bool false),.x (.bool false),.x (.bool false),.x (.bool false),.x (.bool false),.x (.bool false),.x (.bool false),.x (.bool false),.x (.bool false),.x (.bool false),.x (.bool false),.x (.bool false),.x (.bool false),.x (.bool false),.x (.bool false),.x (.bool false),.x (.bool false),.x (.bool false),.x (.bool false),.x (.bool false),.x (.bool false),.x (.bool false),.x (.bool false),.x (.bool false),.x (.bool false),.x (.bool false),.x (.bool false),.x (.bool false),.x (.bool false),.x (.bool false),.x (.bool false),.x (.bool false),.x (.bool false),.x (.bool false),.x (.bool false),.x (.bool false),.x (.bool false),.x (.bool false),.x (.bool false),.x (.bool false),.x (.bool false),.x (.bool false),.x (.bool false),.x (.bool false),.x (.bool false),.x (.bool false),.x (.bool false),.x (.bool false),.x (.bool false),.x (.bool false),.x (.bool false),.x (.bool false),.x (.bool false),.x (.bool false),.x (.bool false),.x (.bool false),.x (.bool false),.x (.bool false),.x (.bool false),.x (.bool false),.x (.bool false),.x (.bool false),.x (.bool false),.x (.bool false),.x (.bool false),.x (.bool false),.x (.bool false),.x (.bool false),.x (.bool false),.x (.bool false),.x (.bool false),.x (.bool false),.x (.bool false),.x (.bool false),.x (.bool false),.x (.bool false),.x (.bool false),.x (.bool false),.x (.bool false),.x (.bool false),.x (.bool false),.x (.bool false),.x (.bool false),.x (.bool false),.x (.bool false),.x (.bool false),.x (.bool false),.x (.bool false)]))),qo 256 5 32,qm 6 33]
 (qr [qm 34 6]
 (qC 34
 (qr [qm 35 0,qa 36 (qc 223 [qt 35,qt 5]),qa 37 (qc 222 [qt 36,qt 5]),qm 4 37]
 .ret)
 .skip)))
 (qr [qm 38 0,qm 39 1,qa 40 (qc 225 [qt 38,qt 39]),qm 41 1,qa 42 (qc 224 [qt 40,qt 41]),qm 4 42]
 .ret)))))⟩
def ZNR:IFn:=⟨51,[.tmp 2],(qr [qa 2 (.mv (qb false))]
 (qr [qm 7 0,qa 8 (.bin .neq (qt 7) (qs [])),qm 9 8,qh 10 0 9,qT 11 (qk true 10) 9,qT 12 (q3 .leq 11 64) 9,qa 13 (qP 9 12),qm 3 13]
 (.seq (qr [qm 14 0,qa 15 (qc 37 [qt 14]),qa 16 (.s2b 5 (qt 15)),qa 17 (qk false 16),qa 18 (.mv (qi 0))]
 (.block 0
 (.loop
 (qr [qa 19 (q2 .lss 18 17)]
 (.seq (qC 19
 .skip
 (.exit 0))
 (.seq (.block 1
 (qr [qm 20 18,qa 21 (qy 1 16 18),qa 22 (ql 21),qm 4 20,qm 5 22]
 (qr [qm 23 5,qa 24 (q8 .geq 23 97),qm 25 24,qh 26 5 25,qT 27 (q8 .leq 26 122) 25,qa 28 (qP 25 27),qm 6 28]
 (.reg [qm 29 3,qm 30 29,qh 31 6 30,qh 32 31 30,qj 33 4 32,qF 34 (q3 .gtr 33 0) 32,qj 35 34 32,qh 36 5 35,qT 37 (q8 .geq 36 48) 35,qh 38 37 35,qh 39 5 38,qT 40 (q8 .leq 39 57) 38,qT 41 (qP 38 40) 35,qh 42 41 35,qj 43 5 42,qF 44 (q8 .eql 43 45) 42,qT 45 (qp 42 44) 35,qF 46 (qP 35 45) 32,qT 47 (qp 32 46) 30,qa 48 (qP 30 47),qm 3 48]))))
 (.reg [qa 49 (q3 .add 18 1),qm 18 49])))))))
 (qr [qm 50 3,qm 2 50]
 .ret))))⟩
def ZSW:IFn:=⟨56,[.tmp 2,.tmp 3],(qr [qa 2 (.mv (qs [])),qa 3 (.mv (qb false))]
 (.scope (qr [qm 10 0,qa 11 (qc 226 [qt 10,(qs [32])]),qm 0 11]
 (qr [qa 4 (.mv (.c (.x .nils)))]
 (qr [qa 5 (.mv (qi 0))]
 (.seq (.label 0)
 (.seq (.block 0
 (.loop
 (.seq (qr [qm 12 0,qa 13 (.bin .neq (qt 12) (qs []))]
 (qC 13
 .skip
 (.exit 0)))
 (.block 1
 (qr [qm 14 0,qa 15 (.idx (qt 14) (qi 0)),qm 6 15]
 (qr [qm 16 0,qa 17 (.slc 0 (qt 16) (some (qi 1)) none none),qm 0 17]
 (.seq (.block 2
 (qr [qm 25 6,qa 26 (q8 .eql 25 92),qm 24 26]
 (qC 24
 (qr [qm 28 0,qa 29 (qc 227 [qt 28]),qm 27 29,qe 30 27 0,qe 31 27 1,qe 32 27 2,qm 7 30,qm 8 31,qm 9 32]
 (.seq (qr [qm 33 9,qa 34 (qz 33)]
 (qC 34
 (qr [qa 2 (.mv (qs [])),qa 3 (.mv (qb false))]
 .ret)
 .skip))
 (.dreg 0 [] [qm 35 4,qm 36 7,qa 37 (.bsl 5 1 1 [qt 36]),qa 38 (.app 5 1 1 (qt 35) (qt 37)),qm 39 0,qm 40 8,qa 41 (.slc 0 (qt 39) (some (qt 40)) none none),qm 4 38,qm 0 41])))
 (qr [qm 43 6,qm 44 4,qa 45 (qk false 44),qa 46 (q3 .eql 45 0),qa 47 (qc 228 [qt 43,qt 46]),qm 42 47]
 (qC 42
 (qr [qa 2 (.mv (qs [])),qa 3 (.mv (qb false))]
 .ret)
 (qr [qm 18 4,qm 19 6,qa 20 (.bsl 5 1 1 [qt 19]),qa 21 (.app 5 1 1 (qt 18) (qt 20)),qm 4 21]
 (qr [qm 22 6,qa 23 (q8 .eql 22 32)]
 (qC 23
 (.exit 1)
 .skip))))))))
 (.reg [qm 48 4,qa 49 (qk false 48),qm 5 49]))))))))
 (qr [qm 50 4,qm 51 5,qa 52 (.slc 1 (qt 50) none (some (qt 51)) none),qa 53 (.b2s (qt 52)),qm 54 5,qa 55 (q3 .gtr 54 0),qm 2 53,qm 3 55]
 .ret))))))
 (qr [qm 10 0,qa 11 (qc 226 [qt 10,(qs [32])]),qm 0 11]
 (qr [qa 4 (.mv (.c (.x .nils)))]
 (qr [qa 5 (.mv (qi 0))]
 (.seq (.label 0)
 (.seq (.block 0
 (.loop
 (.seq (qr [qm 12 0,qa 13 (.bin .neq (qt 12) (qs []))]
 (qC 13
 .skip
 (.exit 0)))
 (.block 1
 (qr [qm 14 0,qa 15 (.idx (qt 14) (qi 0)),qm 6 15]
 (qr [qm 16 0,qa 17 (.slc 0 (qt 16) (some (qi 1)) none none),qm 0 17]
 (.seq (.block 2
 (qr [qm 25 6,qa 26 (q8 .eql 25 92),qm 24 26]
 (qC 24
 (qr [qm 28 0,qa 29 (qc 227 [qt 28]),qm 27 29,qe 30 27 0,qe 31 27 1,qe 32 27 2,qm 7 30,qm 8 31,qm 9 32]
 (.seq (qr [qm 33 9,qa 34 (qz 33)]
 (qC 34
 (qr [qa 2 (.mv (qs [])),qa 3 (.mv (qb false))]
 .ret)
 .skip))
 (.dreg 0 [] [qm 35 4,qm 36 7,qa 37 (.bsl 5 1 1 [qt 36]),qa 38 (.app 5 1 1 (qt 35) (qt 37)),qm 39 0,qm 40 8,qa 41 (.slc 0 (qt 39) (some (qt 40)) none none),qm 4 38,qm 0 41])))
 (qr [qm 43 6,qm 44 4,qa 45 (qk false 44),qa 46 (q3 .eql 45 0),qa 47 (qc 228 [qt 43,qt 46]),qm 42 47]
 (qC 42
 (qr [qa 2 (.mv (qs [])),qa 3 (.mv (qb false))]
 .ret)
 (qr [qm 18 4,qm 19 6,qa 20 (.bsl 5 1 1 [qt 19]),qa 21 (.app 5 1 1 (qt 18) (qt 20)),qm 4 21]
 (qr [qm 22 6,qa 23 (q8 .eql 22 32)]
 (qC 23
 (.exit 1)
 .skip))))))))
 (.reg [qm 48 4,qa 49 (qk false 48),qm 5 49]))))))))
 (qr [qm 50 4,qm 51 5,qa 52 (.slc 1 (qt 50) none (some (qt 51)) none),qa 53 (.b2s (qt 52)),qm 54 5,qa 55 (q3 .gtr 54 0),qm 2 53,qm 3 55]
 .ret))))))))⟩
def ZTH:IFn:=⟨17,[.tmp 4],(qr [qa 4 (.mv (qs []))]
 (.seq (.block 0
 (.loop
 (.seq (qr [qm 5 0,qa 6 (qk true 5),qa 7 (q3 .gtr 6 0),qm 8 7,qh 9 0 8,qT 10 (.idx (qt 9) (qi 0)) 8,qh 11 1 8,qT 12 (q2 .eql 10 11) 8,qa 13 (qP 8 12)]
 (qC 13
 .skip
 (.exit 0)))
 (.block 1
 (.reg [qm 14 0,qa 15 (.slc 0 (qt 14) (some (qi 1)) none none),qm 0 15])))))
 (qr [qm 16 0,qm 4 16]
 .ret)))⟩
def ZRr:IFn:=⟨23,[.tmp 4],(qr [qa 4 (.mv (qs []))]
 (.seq (.block 0
 (.loop
 (.seq (qr [qm 5 0,qa 6 (qk true 5),qa 7 (q3 .gtr 6 0),qm 8 7,qh 9 0 8,qh 10 0 8,qT 11 (qk true 10) 8,qT 12 (q3 .sub 11 1) 8,qT 13 (qx 9 12) 8,qh 14 1 8,qT 15 (q2 .eql 13 14) 8,qa 16 (qP 8 15)]
 (qC 16
 .skip
 (.exit 0)))
 (.block 1
 (.reg [qm 17 0,qm 18 0,qa 19 (qk true 18),qa 20 (q3 .sub 19 1),qa 21 (.slc 0 (qt 17) none (some (qt 20)) none),qm 0 21])))))
 (qr [qm 22 0,qm 4 22]
 .ret)))⟩
def ZTk:IFn:=⟨37,[.tmp 4],(qr [qa 4 (.mv (qs []))]
 (.seq (qr [qm 7 0,qa 8 (.bin .eql (qt 7) (qs [])),qm 9 8,qj 10 1 9,qF 11 (.bin .eql (qt 10) (qs [])) 9,qa 12 (qp 9 11)]
 (qC 12
 (qr [qm 13 0,qm 4 13]
 .ret)
 .skip))
 (.seq (qr [qm 14 1,qa 15 (qk true 14),qa 16 (q3 .eql 15 1),qm 17 16,qh 18 1 17,qT 19 (.idx (qt 18) (qi 0)) 17,qT 20 (q8 .lss 19 128) 17,qa 21 (qP 17 20)]
 (qC 21
 (qr [qm 22 0,qm 23 1,qa 24 (.idx (qt 23) (qi 0)),qa 25 (qc 219 [qt 22,qt 24]),qm 4 25]
 .ret)
 .skip))
 (.seq (qr [qm 27 1,qa 28 (qc 221 [qt 27]),qm 26 28,qe 29 26 0,qe 30 26 1,qa 5 (.abx 246 (.c (.agg [.x (.bool false),.x (.bool false),.x (.bool false),.x (.bool false),.x (.bool false),.x (.bool false),.x (.bool false),.x (.bool false),.x (.bool false),.x (.bool false),.x (.bool false),.x (.bool false),.x (.bool false),.x (.bool false),.x (.bool false),.x (.bool false),.x (.bool false),.x (.bool false),.x (.bool false),.x (.bool false),.x (.bool false),.x (.bool false),.x (.bool false),.x (.bool false),.x (.bool false),.x (.bool false),.x (.bool false),.x (.bool false),.x (.bool false),.x (.bool false),.x (.bool false),.x (.bool false),.x (.bool false),.x (.bool false),.x (.bool false),.x (.bool false),.x (.bool false),.x (.bool false),.x (.bool false),.x (.bool false),.x (.bool false),.x (.bool false),.x (.bool false),.x (.bool false),.x (.bool false),.x (.bool false),.x (.bool false),.x (.bool false),.x (.bool false),.x (.bool false),.x (.bool false),.x (.bool false),.x (.bool false),.x (.bool false),.x (.bool false),.x (.bool false),.x (.bool false),.x (.bool false),.x (.bool false),.x (.bool false),.x (.bool false),.x (.bool false),.x (.bool false),.x (.bool false),.x (.bool false),.x (.bool false),.x (.bool false),.x (.bool false),.x (.bool false),.x (.bool false),.x (.bool false),.x (.bool false),.x (.bool false),.x (.bool false),.x (.bool false),.x (.bool false),.x (.bool false),.x (.bool false),.x (.bool false),.x (.bool false),.x (.bool false),.x (.bool false),.x (.bool false),.x (.bool false),.x (.bool false),.x (.bool false),.x (.bool false),.x (.bool false),.x (.bool false),.x (.bool false),.x (.bool false),.x (.bool false),.x (.bool false),.x (.bool false),.x (.bool false),.x (.bool false),.x (.bool false),.x (.bool false),.x (.bool false),.x (.bool false),.x (.bool false),.x (.bool false),.x (.bool false),.x (.bool false),.x (.bool false),.x (.bool false),.x (.bool false),.x (.bool false),.x (.bool false),.x (.bool false),.x (.bool false),.x (.bool false),.x (.bool false),.x (.bool false),.x (.bool false),.x (.bool false),.x (.bool false),.x (.bool false),.x (.bool false),.x (.bool false),.x (.bool false),.x (.bool false),.x (.bool false),.x (.bool false),.x (.bool false),.x (.bool false),.x (.bool false),.x (.bool false),.x (.bool false),.x (.bool false),.x (.bool false),.x (.bool false),.x (.bool false),.x (.bool false),.x (.bool false),.x (.bool false),.x (.bool false),.x (.bool false),.x (.bool false),.x (.bool false),.x (.bool false),.x (.bool false),.x (.bool false),.x (.bool false),.x (.bool false),.x (.bool false),.x (.bool false),.x (.bool false),.x (.bool false),.x (.bool false),.x (.bool false),.x (.bool false),.x (.bool false),.x (.bool false),.x (.bool false),.x (.bool false),.x (.bool false),.x (.bool false),.x (.bool false),.x (.bool false),.x (.bool false),.x (.bool false),.x (.bool false),.x (.bool false),.x (.bool false),.x (.bool false),.x (.bool false),.x (.bool false),.x (.bool false),.x (.bool false),.x (.bool false),.x (.bool false),.x (.bool false),.x (.bool false),.x (.bool false),.x (.bool false),.x (.bool false),.x (.bool false),.x (.bool false),.x (.bool false),.x (.bool false),.x (.bool false),.x (.bool false),.x (.bool false),.x (.bool false),.x (.bool false),.x (.bool false),.x (.bool false),.x (.bool false),.x (.bool false),.x (.bool false),.x (.bool false),.x (.bool false),.x (.bool false),.x (.bool false),.x (.bool false),.x (.bool false),.x (.bool false),.x (.bool false),.x (.bool false),.x (.bool false),.x (.bool false),.x (.bool false),.x (.bool false),.x (.bool false),.x (.bool false),.x (.bool false),.x (.bool false),.x (.bool false),.x (.bool false),.x (.bool false),.x (.bool false),.x (.bool false),.x (.bool false),.x (.bool false),.x (.bool false),.x (.bool false),.x (.bool false),.x (.bool false),.x (.bool false),.x (.bool false),.x (.bool false),.x (.bool false),.x (.bool false),.x (.bool false),.x (.bool false),.x (.bool false),.x (.bool false),.x (.bool false),.x (.bool false),.x (.bool false),.x (.bool false),.x (.bool false),.x (.bool false),.x (.bool false),.x (.bool false),.x (.bool false),.x (.bool false),.x (.bool false),.x (.bool false),.x (.bool false),.x (.bool false),.x (.bool false),.x (.bool false),.x (.bool false),.x (.bool false),.x (.bool false),.x (.bool false),.x (.bool false),.x (.bool false),.x (.bool false),.x (.bool false),.x (.bool false),.x (.bool false),.x (.bool false),.x (.bool false)]))),qo 256 5 29,qm 6 30]
 (qr [qm 31 6]
 (qC 31
 (qr [qm 32 0,qa 33 (qc 222 [qt 32,qt 5]),qm 4 33]
 .ret)
 .skip)))
 (qr [qm 34 0,qm 35 1,qa 36 (qc 224 [qt 34,qt 35]),qm 4 36]
 .ret)))))⟩
def ZTQ:IFn:=⟨49,[.tmp 2,.tmp 3,.tmp 4],(qr [qa 2 (.mv (.c (.x (.int .u8 (0))))),qa 3 (.mv (qi 0)),qa 4 (.mv (qb false))]
 (.seq (qr [qm 8 0,qa 9 (.bin .eql (qt 8) (qs []))]
 (qC 9
 (qr [qa 2 (.mv (.c (.x (.int .u8 (0))))),qa 3 (.mv (qi 0)),qa 4 (.mv (qb false))]
 .ret)
 .skip))
 (.seq (qr [qm 10 0,qa 11 (.idx (qt 10) (qi 0)),qa 12 (qc 202 [(qs [44,43,34,92,60,62,59,61]),qt 11]),qm 13 12,qj 14 0 13,qF 15 (.idx (qt 14) (qi 0)) 13,qF 16 (q8 .eql 15 32) 13,qa 17 (qp 13 16),qm 18 17,qj 19 0 18,qF 20 (.idx (qt 19) (qi 0)) 18,qF 21 (q8 .eql 20 35) 18,qa 22 (qp 18 21)]
 (qC 22
 (qr [qm 23 0,qa 24 (.idx (qt 23) (qi 0)),qm 2 24,qa 3 (.mv (qi 1)),qa 4 (.mv (qb true))]
 .ret)
 .skip))
 (qr [qm 26 0,qa 27 (.idx (qt 26) (qi 0)),qa 28 (qc 238 [qt 27]),qm 25 28,qe 29 25 0,qe 30 25 1,qm 5 29,qm 6 30]
 (.seq (qr [qm 31 6,qa 32 (qz 31),qm 33 32,qj 34 0 33,qF 35 (qk true 34) 33,qF 36 (q3 .lss 35 2) 33,qa 37 (qp 33 36)]
 (qC 37
 (qr [qa 2 (.mv (.c (.x (.int .u8 (0))))),qa 3 (.mv (qi 0)),qa 4 (.mv (qb false))]
 .ret)
 .skip))
 (qr [qm 39 0,qa 40 (.idx (qt 39) (qi 1)),qa 41 (qc 238 [qt 40]),qm 38 41,qe 42 38 0,qe 43 38 1,qm 7 42,qm 6 43]
 (qr [qm 44 5,qa 45 (.bin .shl (qt 44) (.c (.x (.int .u64 (4))))),qm 46 7,qa 47 (q2 .or 45 46),qm 48 6,qm 2 47,qa 3 (.mv (qi 2)),qm 4 48]
 .ret)))))))⟩
def ZRv:IFn:=⟨26,[.tmp 4],(qr [qa 4 (.mv (qb false))]
 (qr [qm 5 0,qa 6 (q8 .lss 5 32),qm 7 6,qj 8 0 7,qF 9 (q8 .eql 8 127) 7,qa 10 (qp 7 9),qm 11 10,qj 12 0 11,qF 13 (q8 .neq 12 61) 11,qj 14 13 11,qh 15 0 14,qT 16 (qc 202 [(qs [44,43,34,92,60,62,59,61]),qt 15]) 14,qF 17 (qP 14 16) 11,qa 18 (qp 11 17),qm 19 18,qj 20 1 19,qj 21 20 19,qh 22 0 21,qT 23 (q8 .eql 22 35) 21,qF 24 (qP 21 23) 19,qa 25 (qp 19 24),qm 4 25]
 .ret))⟩
def G:FuncId→Option IFn
 |3=>some i3
 |4=>some i4
 |5=>some i5
 |8=>some i8
 |9=>some i9
 |10=>some i10
 |11=>some i11
 |12=>some i12
 |13=>some i13
 |14=>some i14
 |15=>some i15
 |16=>some i16
 |17=>some i17
 |18=>some i18
 |19=>some i19
 |20=>some i20
 |21=>some i21
 |22=>some i22
 |23=>some i23
 |32=>some i32
 |33=>some i33
 |34=>some i34
 |35=>some i35
 |36=>some i36
 |37=>some i37
 |38=>some i38
 |39=>some i39
 |40=>some i40
 |41=>some i41
 |42=>some i42
 |45=>some i45
 |46=>some i46
 |47=>some i47
 |48=>some i48
 |62=>some i62
 |63=>some i63
 |64=>some i64
 |65=>some i65
 |66=>some i66
 |67=>some i67
 |68=>some i68
 |69=>some i69
 |70=>some i70
 |71=>some i71
 |75=>some i75
 |76=>some i76
 |77=>some i77
 |78=>some i78
 |79=>some i79
 |80=>some i80
 |81=>some i81
 |83=>some i83
 |84=>some i84
 |91=>some i91
 |104=>some ZN0
 |105=>some ZK5
 |106=>some ZIE
 |107=>some ZN4
 |108=>some ZNP
 |109=>some ZSU
 |110=>some ZSq
 |113=>some ZeH
 |114=>some ZSz
 |115=>some ZLP
 |119=>some ZSv
 |122=>some ZSS
 |131=>some ZJV
 |139=>some ZSD
 |140=>some ZSk
 |141=>some ZSe
 |143=>some ZK6
 |144=>some ZSf
 |145=>some ZNG
 |157=>some ZSA
 |158=>some ZR0
 |159=>some ZSh
 |160=>some ZNF
 |166=>some ZLU
 |167=>some ZJb
 |168=>some ZHV
 |175=>some Zd1
 |176=>some ZSP
 |182=>some ZSm
 |183=>some ZRz
 |184=>some ZTI
 |187=>some ZTb
 |188=>some ZJh
 |202=>some ZLC
 |204=>some ZPH
 |205=>some ZTh
 |207=>some ZSR
 |208=>some ZNR
 |209=>some ZSW
 |219=>some ZTH
 |220=>some ZRr
 |226=>some ZTk
 |227=>some ZTQ
 |228=>some ZRv
 |_=>none
theorem ZH:GOk Tryz.prog G:=by
 intro f p h;unfold G at h;split at h
 ·exact gk Tryz.func3 h
 ·exact gk Tryz.func4 h
 ·exact gk Tryz.func5 h
 ·exact gk Tryz.func8 h
 ·exact gk Tryz.func9 h
 ·exact gk Tryz.func10 h
 ·exact gk Tryz.func11 h
 ·exact gk Tryz.func12 h
 ·exact gk Tryz.func13 h
 ·exact gk Tryz.func14 h
 ·exact gk Tryz.func15 h
 ·exact gk Tryz.func16 h
 ·exact gk Tryz.func17 h
 ·exact gk Tryz.func18 h
 ·exact gk Tryz.func19 h
 ·exact gk Tryz.func20 h
 ·exact gk Tryz.func21 h
 ·exact gk Tryz.func22 h
 ·exact gk Tryz.func23 h
 ·exact gk Tryz.func32 h
 ·exact gk Tryz.func33 h
 ·exact gk Tryz.func34 h
 ·exact gk Tryz.func35 h
 ·exact gk Tryz.func36 h
 ·exact gk Tryz.func37 h
 ·exact gk Tryz.func38 h
 ·exact gk Tryz.func39 h
 ·exact gk Tryz.func40 h
 ·exact gk Tryz.func41 h
 ·exact gk Tryz.func42 h
 ·exact gk Tryz.func45 h
 ·exact gk Tryz.func46 h
 ·exact gk Tryz.func47 h
 ·exact gk Tryz.func48 h
 ·exact gk Tryz.func62 h
 ·exact gk Tryz.func63 h
 ·exact gk Tryz.func64 h
 ·exact gk Tryz.func65 h
 ·exact gk Tryz.func66 h
 ·exact gk Tryz.func67 h
 ·exact gk Tryz.func68 h
 ·exact gk Tryz.func69 h
 ·exact gk Tryz.func70 h
 ·exact gk Tryz.func71 h
 ·exact gk Tryz.func75 h
 ·exact gk Tryz.func76 h
 ·exact gk Tryz.func77 h
 ·exact gk Tryz.func78 h
 ·exact gk Tryz.func79 h
 ·exact gk Tryz.func80 h
 ·exact gk Tryz.func81 h
 ·exact gk Tryz.func83 h
 ·exact gk Tryz.func84 h
 ·exact gk Tryz.func91 h
 ·exact gk Tryz.func104 h
 ·exact gk Tryz.func105 h
 ·exact gk Tryz.func106 h
 ·exact gk Tryz.func107 h
 ·exact gk Tryz.func108 h
 ·exact gk Tryz.func109 h
 ·exact gk Tryz.func110 h
 ·exact gk Tryz.func113 h
 ·exact gk Tryz.func114 h
 ·exact gk Tryz.func115 h
 ·exact gk Tryz.func119 h
 ·exact gk Tryz.func122 h
 ·exact gk Tryz.func131 h
 ·exact gk Tryz.func139 h
 ·exact gk Tryz.func140 h
 ·exact gk Tryz.func141 h
 ·exact gk Tryz.func143 h
 ·exact gk Tryz.func144 h
 ·exact gk Tryz.func145 h
 ·exact gk Tryz.func157 h
 ·exact gk Tryz.func158 h
 ·exact gk Tryz.func159 h
 ·exact gk Tryz.func160 h
 ·exact gk Tryz.func166 h
 ·exact gk Tryz.func167 h
 ·exact gk Tryz.func168 h
 ·exact gk Tryz.func175 h
 ·exact gk Tryz.func176 h
 ·exact gk Tryz.func182 h
 ·exact gk Tryz.func183 h
 ·exact gk Tryz.func184 h
 ·exact gk Tryz.func187 h
 ·exact gk Tryz.func188 h
 ·exact gk Tryz.func202 h
 ·exact gk Tryz.func204 h
 ·exact gk Tryz.func205 h
 ·exact gk Tryz.func207 h
 ·exact gk Tryz.func208 h
 ·exact gk Tryz.func209 h
 ·exact gk Tryz.func219 h
 ·exact gk Tryz.func220 h
 ·exact gk Tryz.func226 h
 ·exact gk Tryz.func227 h
 ·exact gk Tryz.func228 h
 ·cases h
end Go.Proofs.YtpjfdjcejamebaaGreatDoor
