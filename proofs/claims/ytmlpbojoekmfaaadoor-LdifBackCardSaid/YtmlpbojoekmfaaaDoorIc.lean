import Derived.Test.YtmlpbojoekmfaaaDoorProg
import Derived.Test.YtmlpbojoekmfaaaDoorLA4
set_option linter.unusedSimpArgs false
set_option linter.unusedVariables false
namespace Go.Proofs.YtmlpbojoekmfaaaDoor
open Go.RowKit Go.Bo Go.Ab
def i4:IFn:=⟨55,[.tmp 6],(qr [qa 6 (.mv (qb false))]
 (.seq (qr [qm 11 0,qa 12 (qc 11 [qt 11]),qa 13 (qz 12),qm 14 13,qj 15 1 14,qF 16 (qk true 15) 14,qF 17 (q3 .gtr 16 100) 14,qa 18 (qp 14 17),qm 19 18,qj 20 2 19,qF 21 (qk true 20) 19,qF 22 (q3 .gtr 21 300) 19,qa 23 (qp 19 22)]
 (qC 23
 (qr [qa 24 (qc 12 []),qm 6 24]
 .ret)
 .skip))
 (qr [qm 26 0,qa 27 (qc 13 [qt 26]),qm 25 27,qe 28 25 0,qe 29 25 1,qm 7 28,qm 8 29]
 (qr [qm 31 0,qa 32 (qc 14 [qt 31]),qm 30 32,qe 33 30 0,qe 34 30 1,qm 9 33,qm 10 34]
 (qr [qm 35 7,qm 36 9,qa 37 (q2 .eql 35 36),qm 38 37,qh 39 8 38,qh 40 10 38,qT 41 (q2 .eql 39 40) 38,qa 42 (qP 38 41),qm 43 42,qh 44 1 43,qh 45 2 43,qT 46 (qc 15 [qt 44,qt 45]) 43,qh 47 1 43,qh 48 2 43,qT 49 (qc 16 [qt 47,qt 48]) 43,qT 50 (q2 .eql 46 49) 43,qa 51 (qP 43 50),qm 52 51,qT 53 (qc 12 []) 52,qa 54 (qP 52 53),qm 6 54]
 .ret)))))⟩
def i5:IFn:=⟨130,[.tmp 4],(qr [qa 4 (.mv (qb false))]
 (.seq (qr [qm 17 0,qa 18 (qc 11 [qt 17]),qa 19 (qz 18),qm 20 19,qj 21 1 20,qF 22 (qk true 21) 20,qF 23 (q3 .gtr 22 1500) 20,qa 24 (qp 20 23)]
 (qC 24
 (qr [qa 25 (qc 12 []),qm 4 25]
 .ret)
 .skip))
 (qr [qm 27 0,qa 28 (qc 13 [qt 27]),qm 26 28,qe 29 26 0,qe 30 26 1,qm 5 29,qm 6 30]
 (qr [qm 32 5,qa 33 (qc 17 [qt 32]),qm 31 33,qe 34 31 0,qe 35 31 1,qm 7 34,qm 8 35]
 (qr [qm 37 1,qa 38 (qc 17 [qt 37]),qm 36 38,qe 39 36 0,qe 40 36 1,qm 9 39,qm 10 40]
 (qr [qm 42 9,qa 43 (qc 14 [qt 42]),qm 41 43,qe 44 41 0,qe 45 41 1,qm 11 44,qm 12 45]
 (.seq (qr [qm 46 6,qa 47 (q3 .eql 46 0)]
 (qC 47
 (qr [qm 49 7,qa 50 (qc 14 [qt 49]),qm 48 50,qe 51 48 0,qe 52 48 1,qm 13 51,qm 14 52]
 (.seq (qr [qm 53 8,qa 54 (q3 .neq 53 0),qm 55 54,qj 56 7 55,qF 57 (qk false 56) 55,qj 58 0 55,qF 59 (qk false 58) 55,qF 60 (q2 .neq 57 59) 55,qa 61 (qp 55 60),qm 62 61,qj 63 13 62,qj 64 5 62,qF 65 (q2 .neq 63 64) 62,qa 66 (qp 62 65),qm 67 66,qj 68 14 67,qF 69 (q3 .neq 68 0) 67,qa 70 (qp 67 69)]
 (qC 70
 (qr [qa 4 (.mv (qb false))]
 .ret)
 .skip))
 (qr [qa 15 (.mv (qi 0))]
 (.block 0
 (.loop
 (.seq (qr [qm 71 15,qm 72 7,qa 73 (qk false 72),qa 74 (q2 .lss 71 73)]
 (qC 74
 .skip
 (.exit 0)))
 (.seq (.block 1
 (qr [qa 16 (.mv (qi 1))]
 (.block 2
 (.loop
 (.seq (qr [qm 77 16,qm 78 7,qm 79 15,qa 80 (qy 2 78 79),qa 81 (qf 1 80),qa 82 (ql 81),qa 83 (qk false 82),qa 84 (q2 .lss 77 83)]
 (qC 84
 .skip
 (.exit 2)))
 (.seq (.block 3
 (.seq (.dreg 19 [] [qm 87 7,qm 88 15,qa 89 (qy 2 87 88),qa 90 (qf 1 89),qa 91 (ql 90),qm 92 16,qa 93 (qy 2 91 92),qa 94 (qf 0 93),qa 95 (ql 94),qm 96 7,qm 97 15,qa 98 (qy 2 96 97),qa 99 (qf 1 98),qa 100 (ql 99),qm 101 16,qa 102 (q3 .sub 101 1),qa 103 (qy 2 100 102),qa 104 (qf 0 103),qa 105 (ql 104),qa 106 (q2 .eql 95 105)])
 (qC 106
 (qr [qa 4 (.mv (qb false))]
 .ret)
 .skip)))
 (.reg [qm 85 16,qa 86 (q3 .add 85 1),qm 16 86])))))))
 (.reg [qm 75 15,qa 76 (q3 .add 75 1),qm 15 76]))))))))
 .skip))
 (qr [qm 107 10,qa 108 (q3 .eql 107 0),qm 109 108,qh 110 11 109,qh 111 1 109,qT 112 (q2 .eql 110 111) 109,qa 113 (qP 109 112),qm 114 113,qh 115 12 114,qT 116 (q3 .eql 115 0) 114,qa 117 (qP 114 116),qm 118 117,qj 119 10 118,qF 120 (q3 .eql 119 5) 118,qj 121 120 118,qh 122 9 121,qT 123 (qk false 122) 121,qT 124 (q3 .eql 123 0) 121,qF 125 (qP 121 124) 118,qa 126 (qp 118 125),qm 127 126,qT 128 (qc 12 []) 127,qa 129 (qP 127 128),qm 4 129]
 .ret))))))))⟩
def i6:IFn:=⟨39,[.tmp 2],(qr [qa 2 (.mv (qb false))]
 (.seq (qr [qm 5 0,qa 6 (qk true 5),qa 7 (q3 .gtr 6 300)]
 (qC 7
 (qr [qa 8 (qc 12 []),qm 2 8]
 .ret)
 .skip))
 (qr [qm 9 0,qa 10 (qc 15 [(qs [99,110]),qt 9]),qm 3 10]
 (.seq (qr [qm 11 3,qa 12 (.bin .eql (qt 11) (qs [])),qm 13 12,qj 14 3 13,qj 15 3 13,qF 16 (qk true 15) 13,qF 17 (q3 .sub 16 1) 13,qF 18 (qx 14 17) 13,qF 19 (q8 .neq 18 10) 13,qa 20 (qp 13 19)]
 (qC 20
 (qr [qa 2 (.mv (qb false))]
 .ret)
 .skip))
 (.seq (qr [qa 4 (.mv (qi 0))]
 (.block 0
 (.loop
 (.seq (qr [qm 21 4,qm 22 3,qa 23 (qk true 22),qa 24 (q3 .sub 23 1),qa 25 (q2 .lss 21 24)]
 (qC 25
 .skip
 (.exit 0)))
 (.seq (.block 1
 (qr [qm 28 3,qm 29 4,qa 30 (qx 28 29),qa 31 (q8 .lss 30 32),qm 32 31,qj 33 3 32,qj 34 4 32,qF 35 (qx 33 34) 32,qF 36 (q8 .gtr 35 126) 32,qa 37 (qp 32 36)]
 (qC 37
 (qr [qa 2 (.mv (qb false))]
 .ret)
 .skip)))
 (.reg [qm 26 4,qa 27 (q3 .add 26 1),qm 4 27]))))))
 (qr [qa 38 (qc 12 []),qm 2 38]
 .ret))))))⟩
def i11:IFn:=⟨29,[.tmp 2],(qr [qa 2 (.mv (qb false))]
 (.seq (qr [qm 4 0,qa 5 (qk false 4),qa 6 (q3 .gtr 5 10),qm 7 6,qh 8 0 7,qT 9 (qk false 8) 7,qT 10 (q3 .leq 9 1024) 7,qa 11 (qP 7 10),qm 12 11,qj 13 0 12,qF 14 (qk false 13) 12,qF 15 (q3 .gtr 14 1100) 12,qa 16 (qp 12 15)]
 (qC 16
 (qr [qa 2 (.mv (qb false))]
 .ret)
 .skip))
 (.seq (qr [qa 3 (.mv (qi 0))]
 (.block 0
 (.loop
 (.seq (qr [qm 17 3,qm 18 0,qa 19 (qk false 18),qa 20 (q2 .lss 17 19)]
 (qC 20
 .skip
 (.exit 0)))
 (.seq (.block 1
 (qr [qm 23 0,qm 24 3,qa 25 (qy 2 23 24),qa 26 (qL 2 25),qa 27 (qc 25 [qt 26]),qa 28 (qz 27)]
 (qC 28
 (qr [qa 2 (.mv (qb false))]
 .ret)
 .skip)))
 (.reg [qm 21 3,qa 22 (q3 .add 21 1),qm 3 22]))))))
 (qr [qa 2 (.mv (qb true))]
 .ret))))⟩
def i12:IFn:=⟨76,[.tmp 0],(qr [qa 0 (.mv (qb false))]
 (qr [qa 10 (qc 26 []),qa 11 (.bsl 9 1 2 [(qs [32,120]),(qs [])]),qa 12 (.build [.x (.str []),.x .nils] [(0,1,(qs [99,110])),(1,1,(qt 11))]),qa 13 (.bsl 48 2 1 [qt 12]),qa 14 (.build [.x (.str []),.x .nils] [(0,1,(qs [99,110,61,32,120,32])),(1,1,(qt 13))]),qa 15 (.bsl 46 2 2 [qt 10,qt 14]),qm 1 15]
 (qr [qm 17 1,qa 18 (qc 13 [qt 17]),qm 16 18,qe 19 16 0,qe 20 16 1,qm 2 19,qm 3 20]
 (qr [qm 22 2,qa 23 (qc 17 [qt 22]),qm 21 23,qe 24 21 0,qe 25 21 1,qm 4 24,qm 5 25]
 (qr [qa 27 (.build [.x (.str []),.x .nils] []),qa 28 (.bsl 46 2 1 [qt 27]),qa 29 (qc 13 [qt 28]),qm 26 29,qe 30 26 0,qe 31 26 1,qm 6 30,qm 7 31]
 (qr [qm 33 2,qa 34 (.bin .add (qt 33) (qs [120])),qa 35 (qc 17 [qt 34]),qm 32 35,qe 36 32 0,qe 37 32 1,qm 8 36,qm 9 37]
 (.seq (qr [qm 38 4,qa 39 (qk false 38),qa 40 (q3 .neq 39 2)]
 (qC 40
 (qr [qa 0 (.mv (qb false))]
 .ret)
 .skip))
 (.seq (.dreg 25 [] [qa 41 (qc 15 [(qs [99,110]),(qs [97])]),qa 42 (.bin .eql (qt 41) (qs [99,110,58,32,97,10])),qm 43 42,qT 44 (qc 15 [(qs [99,110]),(qs [10])]) 43,qT 45 (.bin .eql (qt 44) (qs [99,110,58,58,32,67,103,61,61,10])) 43,qa 46 (qP 43 45),qm 47 46,qT 48 (qc 15 [(qs [99,110]),(qs [])]) 47,qT 49 (.bin .eql (qt 48) (qs [99,110,58,10])) 47,qa 50 (qP 47 49),qm 51 50,qh 52 3 51,qT 53 (q3 .eql 52 0) 51,qa 54 (qP 51 53),qm 55 54,qh 56 5 55,qT 57 (q3 .eql 56 0) 55,qa 58 (qP 55 57),qm 59 58,qh 60 4 59,qT 61 (.iad 2 (qt 60) (qi 1)) 59,qT 62 (qL 2 61) 59,qh 63 1 59,qT 64 (.iad 2 (qt 63) (qi 1)) 59,qT 65 (qL 2 64) 59,qT 66 (qc 27 [qt 62,qt 65]) 59,qa 67 (qP 59 66),qm 68 67,qh 69 7 68,qT 70 (q3 .eql 69 13) 68,qa 71 (qP 68 70),qm 72 71,qh 73 9 72,qT 74 (q3 .eql 73 5) 72,qa 75 (qP 72 74),qm 0 75])
 .ret))))))))⟩
def i13:IFn:=⟨27,[.tmp 2,.tmp 3],(qr [qa 2 (.mv (qs [])),qa 3 (.mv (qi 0))]
 (.seq (qr [qm 8 0,qa 9 (qc 28 [qt 8]),qm 4 9]
 (qr [qm 10 4,qa 11 (q3 .neq 10 0)]
 (qC 11
 (qr [qm 12 4,qa 2 (.mv (qs [])),qm 3 12]
 .ret)
 .skip)))
 (qr [qa 5 (.mv (.c (.x .nils)))]
 (.seq (qr [qm 13 0,qa 14 (qk false 13),qa 15 (.mv (qi 0))]
 (.block 0
 (.loop
 (qr [qa 16 (q2 .lss 15 14)]
 (.seq (qC 16
 .skip
 (.exit 0))
 (.seq (.block 1
 (qr [qa 17 (qy 2 13 15),qa 18 (qL 2 17),qa 7 (.box (.c (.agg [.x (.str []),.x .nils]))),qo 2 7 18]
 (.reg [qm 19 5,qa 20 (qL 2 7),qa 21 (qc 29 [qt 20]),qa 22 (.bsl 9 1 1 [qt 21]),qa 23 (.app 9 1 16 (qt 19) (qt 22)),qm 5 23])))
 (.reg [qa 24 (q3 .add 15 1),qm 15 24])))))))
 (qr [qm 25 5,qa 26 (qc 30 [qt 25,(qs [10])]),qm 2 26,qa 3 (.mv (qi 0))]
 .ret)))))⟩
def i14:IFn:=⟨118,[.tmp 2,.tmp 3],(qr [qa 2 (.mv (qs [])),qa 3 (.mv (qi 0))]
 (.seq (qr [qm 11 0,qa 12 (qk false 11),qa 13 (q3 .gtr 12 1024)]
 (qC 13
 (qr [qa 2 (.mv (qs [])),qa 3 (.mv (qi 3))]
 .ret)
 .skip))
 (.seq (qr [qa 4 (.mv (qi 0))]
 (.block 0
 (.loop
 (.seq (qr [qm 14 4,qm 15 0,qa 16 (qk false 15),qa 17 (q2 .lss 14 16)]
 (qC 17
 .skip
 (.exit 0)))
 (.seq (.block 1
 (.seq (qr [qm 20 0,qm 21 4,qa 22 (qy 2 20 21),qa 23 (qf 0 22),qa 24 (ql 23),qa 25 (.bin .eql (qt 24) (qs []))]
 (qC 25
 (qr [qa 2 (.mv (qs [])),qa 3 (.mv (qi 13))]
 .ret)
 .skip))
 (qr [qa 5 (.mv (qi 0))]
 (.block 2
 (.loop
 (.seq (qr [qm 26 5,qm 27 0,qm 28 4,qa 29 (qy 2 27 28),qa 30 (qf 1 29),qa 31 (ql 30),qa 32 (qk false 31),qa 33 (q2 .lss 26 32)]
 (qC 33
 .skip
 (.exit 2)))
 (.seq (.block 3
 (qr [qm 36 0,qm 37 4,qa 38 (qy 2 36 37),qa 39 (qf 1 38),qa 40 (ql 39),qm 41 5,qa 42 (qy 2 40 41),qa 43 (qf 0 42),qa 44 (ql 43),qa 45 (qc 31 [qt 44]),qa 46 (qz 45),qm 47 46,qj 48 0 47,qj 49 4 47,qF 50 (qy 2 48 49) 47,qF 51 (qf 1 50) 47,qF 52 (ql 51) 47,qj 53 5 47,qF 54 (qy 2 52 53) 47,qF 55 (qf 0 54) 47,qF 56 (ql 55) 47,qF 57 (qc 32 [qt 56]) 47,qF 58 (.bin .eql (qt 57) (qs [100,110])) 47,qa 59 (qp 47 58)]
 (qC 59
 (qr [qa 2 (.mv (qs [])),qa 3 (.mv (qi 13))]
 .ret)
 .skip)))
 (.reg [qm 34 5,qa 35 (q3 .add 34 1),qm 5 35]))))))))
 (.reg [qm 18 4,qa 19 (q3 .add 18 1),qm 4 19]))))))
 (qr [qa 6 (.mv (qs []))]
 (.seq (qr [qa 7 (.mv (qi 0))]
 (.block 4
 (.loop
 (.seq (qr [qm 60 7,qm 61 0,qa 62 (qk false 61),qa 63 (q2 .lss 60 62)]
 (qC 63
 .skip
 (.exit 4)))
 (.seq (.block 5
 (.seq (qr [qm 66 7,qa 67 (q3 .gtr 66 0)]
 (qC 67
 (.reg [qm 68 6,qa 69 (.bin .add (qt 68) (qs [10])),qm 6 69])
 .skip))
 (qr [qm 70 6,qm 71 0,qm 72 7,qa 73 (qy 2 71 72),qa 74 (qf 0 73),qa 75 (ql 74),qa 76 (qc 16 [(qs [100,110]),qt 75]),qa 77 (q2 .add 70 76),qm 6 77]
 (qr [qa 8 (.mv (qi 0))]
 (.block 6
 (.loop
 (.seq (qr [qm 78 8,qm 79 0,qm 80 7,qa 81 (qy 2 79 80),qa 82 (qf 1 81),qa 83 (ql 82),qa 84 (qk false 83),qa 85 (q2 .lss 78 84)]
 (qC 85
 .skip
 (.exit 6)))
 (.seq (.block 7
 (qr [qm 88 0,qm 89 7,qa 90 (qy 2 88 89),qa 91 (qf 1 90),qa 92 (ql 91),qm 93 8,qa 94 (qy 2 92 93),qa 95 (qL 2 94),qa 9 (.box (.c (.agg [.x (.str []),.x .nils]))),qo 2 9 95]
 (.seq (qr [qa 96 (qf 1 9),qa 97 (ql 96),qa 98 (qk false 97),qa 99 (q3 .eql 98 0)]
 (qC 99
 (qr [qa 2 (.mv (qs [])),qa 3 (.mv (qi 5))]
 .ret)
 .skip))
 (qr [qa 10 (.mv (qi 0))]
 (.block 8
 (.loop
 (.seq (qr [qm 100 10,qa 101 (qf 1 9),qa 102 (ql 101),qa 103 (qk false 102),qa 104 (q2 .lss 100 103)]
 (qC 104
 .skip
 (.exit 8)))
 (.seq (.block 9
 (.dreg 8 [] [qm 107 6,qa 108 (qf 0 9),qa 109 (ql 108),qa 110 (qf 1 9),qa 111 (ql 110),qm 112 10,qa 113 (qy 1 111 112),qa 114 (ql 113),qa 115 (qc 16 [qt 109,qt 114]),qa 116 (q2 .add 107 115),qm 6 116]))
 (.reg [qm 105 10,qa 106 (q3 .add 105 1),qm 10 106])))))))))
 (.reg [qm 86 8,qa 87 (q3 .add 86 1),qm 8 87])))))))))
 (.reg [qm 64 7,qa 65 (q3 .add 64 1),qm 7 65]))))))
 (qr [qm 117 6,qm 2 117,qa 3 (.mv (qi 0))]
 .ret))))))⟩
def i15:IFn:=⟨24,[.tmp 4],(qr [qa 4 (.mv (qs []))]
 (.seq (.block 0
 (qr [qm 6 1,qa 7 (.bin .eql (qt 6) (qs [])),qm 5 7]
 (qC 5
 (qr [qm 8 0,qa 9 (.bin .add (qt 8) (qs [58,10])),qm 4 9]
 .ret)
 (qr [qm 11 1,qa 12 (qc 33 [qt 11]),qm 10 12]
 (qC 10
 (qr [qm 13 0,qa 14 (.bin .add (qt 13) (qs [58,32])),qm 15 1,qa 16 (q2 .add 14 15),qa 17 (.bin .add (qt 16) (qs [10])),qm 4 17]
 .ret)
 .skip)))))
 (qr [qm 18 0,qa 19 (.bin .add (qt 18) (qs [58,58,32])),qm 20 1,qa 21 (qc 34 [qt 20]),qa 22 (q2 .add 19 21),qa 23 (.bin .add (qt 22) (qs [10])),qm 4 23]
 .ret)))⟩
def i16:IFn:=⟨24,[.tmp 4],(qr [qa 4 (.mv (qs []))]
 (.seq (.block 0
 (qr [qm 6 1,qa 7 (.bin .eql (qt 6) (qs [])),qm 5 7]
 (qC 5
 (qr [qm 8 0,qa 9 (.bin .add (qt 8) (qs [58,10])),qm 4 9]
 .ret)
 (qr [qm 11 1,qa 12 (qc 35 [qt 11]),qm 10 12]
 (qC 10
 (qr [qm 13 0,qa 14 (.bin .add (qt 13) (qs [58,32])),qm 15 1,qa 16 (q2 .add 14 15),qa 17 (.bin .add (qt 16) (qs [10])),qm 4 17]
 .ret)
 .skip)))))
 (qr [qm 18 0,qa 19 (.bin .add (qt 18) (qs [58,58,32])),qm 20 1,qa 21 (qc 34 [qt 20]),qa 22 (q2 .add 19 21),qa 23 (.bin .add (qt 22) (qs [10])),qm 4 23]
 .ret)))⟩
def i17:IFn:=⟨67,[.tmp 2,.tmp 3],(qr [qa 2 (.mv (.c (.x .nils))),qa 3 (.mv (qi 0))]
 (.scope (qr [qa 4 (.mv (.c (.x .nils)))]
 (qr [qa 5 (.mv (qb true))]
 (qr [qm 13 0,qm 6 13]
 (.seq (.label 0)
 (.seq (qr [qm 14 6,qa 15 (.bin .neq (qt 14) (qs []))]
 (qC 15
 (qr [qm 17 6,qa 18 (qc 36 [qt 17,(qs [10])]),qm 16 18,qe 19 16 0,qe 20 16 1,qe 21 16 2,qm 7 19,qm 8 20,qm 9 21]
 (.seq (qr [qm 22 9,qa 23 (qz 22)]
 (qC 23
 (qr [qa 2 (.mv (.c (.x .nils))),qa 3 (.mv (qi 5))]
 .ret)
 .skip))
 (qr [qm 24 8,qm 6 24]
 (.seq (qr [qm 25 7,qa 26 (.bin .eql (qt 25) (qs [])),qm 27 26,qh 28 5 27,qT 29 (qz 28) 27,qa 30 (qP 27 29),qm 31 30,qh 32 6 31,qT 33 (.bin .neq (qt 32) (qs [])) 31,qa 34 (qP 31 33)]
 (qC 34
 (qr [qa 5 (.mv (qb true))]
 (.goto 0))
 .skip))
 (qr [qm 36 7,qa 37 (qc 37 [qt 36]),qm 35 37,qe 38 35 0,qe 39 35 1,qe 40 35 2,qm 10 38,qm 11 39,qm 12 40]
 (.seq (qr [qm 41 12,qa 42 (qz 41),qm 43 42,qj 44 5 43,qj 45 10 43,qF 46 (.bin .eql (qt 45) (qs [100,110])) 43,qF 47 (.eq .bool true (qt 44) (qt 46)) 43,qa 48 (qp 43 47)]
 (qC 48
 (qr [qa 2 (.mv (.c (.x .nils))),qa 3 (.mv (qi 5))]
 .ret)
 .skip))
 (.seq (qr [qm 49 5]
 (qC 49
 (qr [qm 50 4,qm 51 11,qa 52 (.build [.x (.str []),.x .nils] [(0,1,(qt 51))]),qa 53 (.bsl 46 2 1 [qt 52]),qa 54 (.app 46 2 40 (qt 50) (qt 53)),qm 4 54]
 (qr [qa 5 (.mv (qb false))]
 (.goto 0)))
 .skip))
 (qr [qm 55 4,qm 56 4,qa 57 (qk false 56),qa 58 (q3 .sub 57 1),qa 59 (qy 2 55 58),qm 60 10,qm 61 11,qa 62 (qc 38 [qt 59,qt 60,qt 61])]
 (.goto 0)))))))))
 .skip))
 (.seq (qr [qm 63 4,qa 64 (qc 28 [qt 63]),qa 65 (q3 .neq 64 0)]
 (qC 65
 (qr [qa 2 (.mv (.c (.x .nils))),qa 3 (.mv (qi 5))]
 .ret)
 .skip))
 (qr [qm 66 4,qm 2 66,qa 3 (.mv (qi 0))]
 .ret)))))))
 (qr [qa 4 (.mv (.c (.x .nils)))]
 (qr [qa 5 (.mv (qb true))]
 (qr [qm 13 0,qm 6 13]
 (.seq (.label 0)
 (.seq (qr [qm 14 6,qa 15 (.bin .neq (qt 14) (qs []))]
 (qC 15
 (qr [qm 17 6,qa 18 (qc 36 [qt 17,(qs [10])]),qm 16 18,qe 19 16 0,qe 20 16 1,qe 21 16 2,qm 7 19,qm 8 20,qm 9 21]
 (.seq (qr [qm 22 9,qa 23 (qz 22)]
 (qC 23
 (qr [qa 2 (.mv (.c (.x .nils))),qa 3 (.mv (qi 5))]
 .ret)
 .skip))
 (qr [qm 24 8,qm 6 24]
 (.seq (qr [qm 25 7,qa 26 (.bin .eql (qt 25) (qs [])),qm 27 26,qh 28 5 27,qT 29 (qz 28) 27,qa 30 (qP 27 29),qm 31 30,qh 32 6 31,qT 33 (.bin .neq (qt 32) (qs [])) 31,qa 34 (qP 31 33)]
 (qC 34
 (qr [qa 5 (.mv (qb true))]
 (.goto 0))
 .skip))
 (qr [qm 36 7,qa 37 (qc 37 [qt 36]),qm 35 37,qe 38 35 0,qe 39 35 1,qe 40 35 2,qm 10 38,qm 11 39,qm 12 40]
 (.seq (qr [qm 41 12,qa 42 (qz 41),qm 43 42,qj 44 5 43,qj 45 10 43,qF 46 (.bin .eql (qt 45) (qs [100,110])) 43,qF 47 (.eq .bool true (qt 44) (qt 46)) 43,qa 48 (qp 43 47)]
 (qC 48
 (qr [qa 2 (.mv (.c (.x .nils))),qa 3 (.mv (qi 5))]
 .ret)
 .skip))
 (.seq (qr [qm 49 5]
 (qC 49
 (qr [qm 50 4,qm 51 11,qa 52 (.build [.x (.str []),.x .nils] [(0,1,(qt 51))]),qa 53 (.bsl 46 2 1 [qt 52]),qa 54 (.app 46 2 40 (qt 50) (qt 53)),qm 4 54]
 (qr [qa 5 (.mv (qb false))]
 (.goto 0)))
 .skip))
 (qr [qm 55 4,qm 56 4,qa 57 (qk false 56),qa 58 (q3 .sub 57 1),qa 59 (qy 2 55 58),qm 60 10,qm 61 11,qa 62 (qc 38 [qt 59,qt 60,qt 61])]
 (.goto 0)))))))))
 .skip))
 (.seq (qr [qm 63 4,qa 64 (qc 28 [qt 63]),qa 65 (q3 .neq 64 0)]
 (qC 65
 (qr [qa 2 (.mv (.c (.x .nils))),qa 3 (.mv (qi 5))]
 .ret)
 .skip))
 (qr [qm 66 4,qm 2 66,qa 3 (.mv (qi 0))]
 .ret)))))))))⟩
def i25:IFn:=⟨62,[.tmp 2],(qr [qa 1 (.box (qt 0)),qa 2 (.mv (qb false))]
 (.seq (qr [qa 5 (qf 0 1),qa 6 (ql 5),qa 7 (qk true 6),qa 8 (q3 .gtr 7 300),qm 9 8,qF 10 (qf 1 1) 9,qF 11 (ql 10) 9,qF 12 (qk false 11) 9,qF 13 (q3 .gtr 12 12) 9,qa 14 (qp 9 13)]
 (qC 14
 (qr [qa 2 (.mv (qb false))]
 .ret)
 .skip))
 (.seq (qr [qa 3 (.mv (qi 0))]
 (.block 0
 (.loop
 (.seq (qr [qm 15 3,qa 16 (qf 1 1),qa 17 (ql 16),qa 18 (qk false 17),qa 19 (q2 .lss 15 18)]
 (qC 19
 .skip
 (.exit 0)))
 (.seq (.block 1
 (.seq (qr [qa 22 (qf 1 1),qa 23 (ql 22),qm 24 3,qa 25 (qy 2 23 24),qa 26 (qf 0 25),qa 27 (ql 26),qa 28 (qk true 27),qa 29 (q3 .gtr 28 80),qm 30 29,qF 31 (qf 1 1) 30,qF 32 (ql 31) 30,qj 33 3 30,qF 34 (qy 2 32 33) 30,qF 35 (qf 1 34) 30,qF 36 (ql 35) 30,qF 37 (qk false 36) 30,qF 38 (q3 .gtr 37 8) 30,qa 39 (qp 30 38)]
 (qC 39
 (qr [qa 2 (.mv (qb false))]
 .ret)
 .skip))
 (qr [qa 4 (.mv (qi 0))]
 (.block 2
 (.loop
 (.seq (qr [qm 40 4,qa 41 (qf 1 1),qa 42 (ql 41),qm 43 3,qa 44 (qy 2 42 43),qa 45 (qf 1 44),qa 46 (ql 45),qa 47 (qk false 46),qa 48 (q2 .lss 40 47)]
 (qC 48
 .skip
 (.exit 2)))
 (.seq (.block 3
 (qr [qa 51 (qf 1 1),qa 52 (ql 51),qm 53 3,qa 54 (qy 2 52 53),qa 55 (qf 1 54),qa 56 (ql 55),qm 57 4,qa 58 (qy 1 56 57),qa 59 (ql 58),qa 60 (qk true 59),qa 61 (q3 .gtr 60 300)]
 (qC 61
 (qr [qa 2 (.mv (qb false))]
 .ret)
 .skip)))
 (.reg [qm 49 4,qa 50 (q3 .add 49 1),qm 4 50]))))))))
 (.reg [qm 20 3,qa 21 (q3 .add 20 1),qm 3 21]))))))
 (qr [qa 2 (.mv (qb true))]
 .ret))))⟩
def i26:IFn:=⟨9,[.cell 0 2 true],(qr [qa 0 (.box (.c (.agg [.x (.str []),.x .nils])))]
 (qr [qa 1 (.bsl 9 1 2 [(qs [116,111,112]),(qs [80,101,114,115,111,110])]),qa 2 (.build [.x (.str []),.x .nils] [(0,1,(qs [111,98,106,101,99,116,67,108,97,115,115])),(1,1,(qt 1))]),qa 3 (.bsl 9 1 1 [(qs [97])]),qa 4 (.build [.x (.str []),.x .nils] [(0,1,(qs [99,110])),(1,1,(qt 3))]),qa 5 (.bsl 9 1 1 [(qs [98])]),qa 6 (.build [.x (.str []),.x .nils] [(0,1,(qs [115,110])),(1,1,(qt 5))]),qa 7 (.bsl 48 2 3 [qt 2,qt 4,qt 6]),qa 8 (.build [.x (.str []),.x .nils] [(0,1,(qs [99,110,61,97])),(1,1,(qt 7))]),qo 2 0 8]
 .ret))⟩
def i27:IFn:=⟨56,[.tmp 4],(qr [qa 2 (.box (qt 0)),qa 3 (.box (qt 1)),qa 4 (.mv (qb false))]
 (.seq (qr [qa 6 (qf 0 2),qa 7 (ql 6),qa 8 (qf 0 3),qa 9 (ql 8),qa 10 (q2 .neq 7 9),qm 11 10,qF 12 (qf 1 2) 11,qF 13 (ql 12) 11,qF 14 (qk false 13) 11,qF 15 (qf 1 3) 11,qF 16 (ql 15) 11,qF 17 (qk false 16) 11,qF 18 (q2 .neq 14 17) 11,qa 19 (qp 11 18)]
 (qC 19
 (qr [qa 4 (.mv (qb false))]
 .ret)
 .skip))
 (.seq (qr [qa 5 (.mv (qi 0))]
 (.block 0
 (.loop
 (.seq (qr [qm 20 5,qa 21 (qf 1 2),qa 22 (ql 21),qa 23 (qk false 22),qa 24 (q2 .lss 20 23)]
 (qC 24
 .skip
 (.exit 0)))
 (.seq (.block 1
 (.seq (.dreg 26 [] [qa 27 (qf 1 2),qa 28 (ql 27),qm 29 5,qa 30 (qy 2 28 29),qa 31 (qf 0 30),qa 32 (ql 31),qa 33 (qf 1 3),qa 34 (ql 33),qm 35 5,qa 36 (qy 2 34 35),qa 37 (qf 0 36),qa 38 (ql 37),qa 39 (q2 .neq 32 38),qm 40 39,qF 41 (qf 1 2) 40,qF 42 (ql 41) 40,qj 43 5 40,qF 44 (qy 2 42 43) 40,qF 45 (qf 1 44) 40,qF 46 (ql 45) 40,qF 47 (qf 1 3) 40,qF 48 (ql 47) 40,qj 49 5 40,qF 50 (qy 2 48 49) 40,qF 51 (qf 1 50) 40,qF 52 (ql 51) 40,qF 53 (qc 49 [qt 46,qt 52]) 40,qF 54 (qz 53) 40,qa 55 (qp 40 54)])
 (qC 55
 (qr [qa 4 (.mv (qb false))]
 .ret)
 .skip)))
 (.reg [qm 25 5,qa 26 (q3 .add 25 1),qm 5 26]))))))
 (qr [qa 4 (.mv (qb true))]
 .ret))))⟩
def i28:IFn:=⟨55,[.tmp 2],(qr [qa 2 (.mv (qi 0))]
 (.seq (qr [qm 11 0,qa 12 (qk false 11),qa 13 (q3 .gtr 12 1024)]
 (qC 13
 (qr [qa 2 (.mv (qi 3))]
 .ret)
 .skip))
 (.seq (qr [qm 14 0,qa 15 (qk false 14),qa 16 (.mv (qi 0))]
 (.block 0
 (.loop
 (qr [qa 17 (q2 .lss 16 15)]
 (.seq (qC 17
 .skip
 (.exit 0))
 (.seq (.block 1
 (qr [qa 18 (qy 2 14 16),qa 19 (qL 2 18),qa 4 (.box (.c (.agg [.x (.str []),.x .nils]))),qo 2 4 19]
 (.seq (qr [qa 20 (qf 0 4),qa 21 (ql 20),qa 22 (.bin .eql (qt 21) (qs []))]
 (qC 22
 (qr [qa 2 (.mv (qi 13))]
 .ret)
 .skip))
 (qr [qa 23 (qf 1 4),qa 24 (ql 23),qa 25 (qk false 24),qa 26 (.mv (qi 0))]
 (.block 2
 (.loop
 (qr [qa 27 (q2 .lss 26 25)]
 (.seq (qC 27
 .skip
 (.exit 2))
 (.seq (.block 3
 (qr [qa 28 (qy 2 24 26),qa 29 (qL 2 28),qa 6 (.box (.c (.agg [.x (.str []),.x .nils]))),qo 2 6 29]
 (qr [qa 30 (qf 0 6),qa 31 (ql 30),qa 32 (qc 50 [qt 31]),qa 33 (qz 32)]
 (qC 33
 (qr [qa 2 (.mv (qi 13))]
 .ret)
 .skip))))
 (.reg [qa 34 (q3 .add 26 1),qm 26 34]))))))))))
 (.reg [qa 35 (q3 .add 16 1),qm 16 35])))))))
 (.seq (qr [qm 36 0,qa 37 (qk false 36),qa 38 (.mv (qi 0))]
 (.block 4
 (.loop
 (qr [qa 39 (q2 .lss 38 37)]
 (.seq (qC 39
 .skip
 (.exit 4))
 (.seq (.block 5
 (qr [qa 40 (qy 2 36 38),qa 41 (qL 2 40),qa 8 (.box (.c (.agg [.x (.str []),.x .nils]))),qo 2 8 41]
 (qr [qa 42 (qf 1 8),qa 43 (ql 42),qa 44 (qk false 43),qa 45 (.mv (qi 0))]
 (.block 6
 (.loop
 (qr [qa 46 (q2 .lss 45 44)]
 (.seq (qC 46
 .skip
 (.exit 6))
 (.seq (.block 7
 (qr [qa 47 (qy 2 43 45),qa 48 (qL 2 47),qa 10 (.box (.c (.agg [.x (.str []),.x .nils]))),qo 2 10 48]
 (qr [qa 49 (qf 1 10),qa 50 (ql 49),qa 51 (qk false 50),qa 52 (q3 .eql 51 0)]
 (qC 52
 (qr [qa 2 (.mv (qi 5))]
 .ret)
 .skip))))
 (.reg [qa 53 (q3 .add 45 1),qm 45 53])))))))))
 (.reg [qa 54 (q3 .add 38 1),qm 38 54])))))))
 (qr [qa 2 (.mv (qi 0))]
 .ret)))))⟩
def i29:IFn:=⟨34,[.tmp 2],(qr [qa 1 (.box (qt 0)),qa 2 (.mv (qs []))]
 (qr [qa 8 (qf 0 1),qa 9 (ql 8),qa 10 (qc 15 [(qs [100,110]),qt 9]),qm 3 10]
 (.seq (qr [qa 11 (qf 1 1),qa 12 (ql 11),qa 13 (qk false 12),qa 14 (.mv (qi 0))]
 (.block 0
 (.loop
 (qr [qa 15 (q2 .lss 14 13)]
 (.seq (qC 15
 .skip
 (.exit 0))
 (.seq (.block 1
 (qr [qa 16 (qy 2 12 14),qa 17 (qL 2 16),qa 5 (.box (.c (.agg [.x (.str []),.x .nils]))),qo 2 5 17]
 (qr [qa 18 (qf 1 5),qa 19 (ql 18),qa 20 (qk false 19),qa 21 (.mv (qi 0))]
 (.block 2
 (.loop
 (qr [qa 22 (q2 .lss 21 20)]
 (.seq (qC 22
 .skip
 (.exit 2))
 (.seq (.block 3
 (qr [qa 23 (qy 1 19 21),qa 24 (ql 23),qm 7 24]
 (.reg [qm 25 3,qa 26 (qf 0 5),qa 27 (ql 26),qm 28 7,qa 29 (qc 15 [qt 27,qt 28]),qa 30 (q2 .add 25 29),qm 3 30])))
 (.reg [qa 31 (q3 .add 21 1),qm 21 31])))))))))
 (.reg [qa 32 (q3 .add 14 1),qm 14 32])))))))
 (qr [qm 33 3,qm 2 33]
 .ret))))⟩
def i31:IFn:=⟨56,[.tmp 2],(qr [qa 2 (.mv (qb false))]
 (.seq (qr [qa 3 (.mv (qi 0))]
 (.block 0
 (.loop
 (.seq (qr [qm 6 3,qm 7 0,qa 8 (qk true 7),qa 9 (q2 .lss 6 8)]
 (qC 9
 .skip
 (.exit 0)))
 (.seq (.block 1
 (qr [qm 12 0,qm 13 3,qa 14 (qx 12 13),qm 4 14]
 (qr [qm 15 4,qa 16 (q8 .geq 15 97),qm 17 16,qh 18 4 17,qT 19 (q8 .leq 18 122) 17,qa 20 (qP 17 19),qm 21 20,qj 22 4 21,qF 23 (q8 .geq 22 65) 21,qj 24 23 21,qh 25 4 24,qT 26 (q8 .leq 25 90) 24,qF 27 (qP 24 26) 21,qa 28 (qp 21 27),qm 5 28]
 (qr [qm 29 5,qa 30 (qz 29),qm 31 30,qh 32 3 31,qT 33 (q3 .eql 32 0) 31,qh 34 33 31,qj 35 4 34,qF 36 (q8 .geq 35 48) 34,qj 37 36 34,qh 38 4 37,qT 39 (q8 .leq 38 57) 37,qF 40 (qP 37 39) 34,qj 41 40 34,qj 42 4 41,qF 43 (q8 .eql 42 45) 41,qF 44 (qp 41 43) 34,qF 45 (qz 44) 34,qT 46 (qp 34 45) 31,qa 47 (qP 31 46)]
 (qC 47
 (qr [qa 2 (.mv (qb false))]
 .ret)
 .skip)))))
 (.reg [qm 10 3,qa 11 (q3 .add 10 1),qm 3 11]))))))
 (qr [qm 48 0,qa 49 (qk true 48),qa 50 (q3 .geq 49 1),qm 51 50,qh 52 0 51,qT 53 (qk true 52) 51,qT 54 (q3 .leq 53 64) 51,qa 55 (qP 51 54),qm 2 55]
 .ret)))⟩
def i32:IFn:=⟨29,[.tmp 2],(qr [qa 2 (.mv (qs []))]
 (qr [qa 3 (.mv (.c (.x .nils)))]
 (.seq (qr [qa 4 (.mv (qi 0))]
 (.block 0
 (.loop
 (.seq (qr [qm 6 4,qm 7 0,qa 8 (qk true 7),qa 9 (q2 .lss 6 8)]
 (qC 9
 .skip
 (.exit 0)))
 (.seq (.block 1
 (qr [qm 12 0,qm 13 4,qa 14 (qx 12 13),qm 5 14]
 (.seq (qr [qm 15 5,qa 16 (q8 .geq 15 65),qm 17 16,qh 18 5 17,qT 19 (q8 .leq 18 90) 17,qa 20 (qP 17 19)]
 (qC 20
 (.reg [qm 21 5,qa 22 (q8 .add 21 32),qm 5 22])
 .skip))
 (.reg [qm 23 3,qm 24 5,qa 25 (.bsl 5 1 1 [qt 24]),qa 26 (.app 5 1 1 (qt 23) (qt 25)),qm 3 26]))))
 (.reg [qm 10 4,qa 11 (q3 .add 10 1),qm 4 11]))))))
 (qr [qm 27 3,qa 28 (.b2s (qt 27)),qm 2 28]
 .ret))))⟩
def i33:IFn:=⟨33,[.tmp 2],(qr [qa 2 (.mv (qb false))]
 (.seq (qr [qm 5 0,qa 6 (.s2b 5 (qt 5)),qa 7 (qk false 6),qa 8 (.mv (qi 0))]
 (.block 0
 (.loop
 (qr [qa 9 (q2 .lss 8 7)]
 (.seq (qC 9
 .skip
 (.exit 0))
 (.seq (.block 1
 (qr [qa 10 (qy 1 6 8),qa 11 (ql 10),qm 4 11]
 (qr [qm 12 4,qa 13 (q8 .lss 12 32),qm 14 13,qj 15 4 14,qF 16 (q8 .gtr 15 126) 14,qa 17 (qp 14 16)]
 (qC 17
 (qr [qa 2 (.mv (qb false))]
 .ret)
 .skip))))
 (.reg [qa 18 (q3 .add 8 1),qm 8 18])))))))
 (qr [qm 19 0,qm 20 0,qa 21 (qc 54 [qt 20,(qs [32])]),qa 22 (q2 .eql 19 21),qm 23 22,qh 24 0 23,qT 25 (qc 55 [qt 24,(qs [58])]) 23,qT 26 (qz 25) 23,qa 27 (qP 23 26),qm 28 27,qh 29 0 28,qT 30 (qc 55 [qt 29,(qs [60])]) 28,qT 31 (qz 30) 28,qa 32 (qP 28 31),qm 2 32]
 .ret)))⟩
def i35:IFn:=⟨55,[.tmp 2],(qr [qa 2 (.mv (qb false))]
 (.seq (qr [qa 3 (.mv (qi 0))]
 (.block 0
 (.loop
 (.seq (qr [qm 4 3,qm 5 0,qa 6 (qk true 5),qa 7 (q2 .lss 4 6)]
 (qC 7
 .skip
 (.exit 0)))
 (.seq (.block 1
 (qr [qm 10 0,qm 11 3,qa 12 (qx 10 11),qa 13 (q8 .lss 12 32),qm 14 13,qj 15 0 14,qj 16 3 14,qF 17 (qx 15 16) 14,qF 18 (q8 .gtr 17 126) 14,qa 19 (qp 14 18),qm 20 19,qj 21 3 20,qF 22 (q3 .eql 21 0) 20,qj 23 22 20,qh 24 0 23,qh 25 3 23,qT 26 (qx 24 25) 23,qT 27 (q8 .eql 26 32) 23,qh 28 27 23,qj 29 0 28,qj 30 3 28,qF 31 (qx 29 30) 28,qF 32 (q8 .eql 31 58) 28,qT 33 (qp 28 32) 23,qh 34 33 23,qj 35 0 34,qj 36 3 34,qF 37 (qx 35 36) 34,qF 38 (q8 .eql 37 60) 34,qT 39 (qp 34 38) 23,qF 40 (qP 23 39) 20,qa 41 (qp 20 40),qm 42 41,qj 43 3 42,qj 44 0 42,qF 45 (qk true 44) 42,qF 46 (q3 .sub 45 1) 42,qF 47 (q2 .eql 43 46) 42,qj 48 47 42,qh 49 0 48,qh 50 3 48,qT 51 (qx 49 50) 48,qT 52 (q8 .eql 51 32) 48,qF 53 (qP 48 52) 42,qa 54 (qp 42 53)]
 (qC 54
 (qr [qa 2 (.mv (qb false))]
 .ret)
 .skip)))
 (.reg [qm 8 3,qa 9 (q3 .add 8 1),qm 3 9]))))))
 (qr [qa 2 (.mv (qb true))]
 .ret)))⟩
def i37:IFn:=⟨51,[.tmp 2,.tmp 3,.tmp 4],(qr [qa 2 (.mv (qs [])),qa 3 (.mv (qs [])),qa 4 (.mv (qb false))]
 (qr [qm 12 0,qa 13 (qc 36 [qt 12,(qs [58])]),qm 11 13,qe 14 11 0,qe 15 11 1,qe 16 11 2,qm 5 14,qm 6 15,qm 7 16]
 (.seq (qr [qm 17 7,qa 18 (qz 17)]
 (qC 18
 (qr [qa 2 (.mv (qs [])),qa 3 (.mv (qs [])),qa 4 (.mv (qb false))]
 .ret)
 .skip))
 (qr [qa 8 (.mv (qs []))]
 (.seq (.block 0
 (qr [qm 20 6,qa 21 (.bin .eql (qt 20) (qs [])),qm 19 21]
 (qC 19
 .skip
 (qr [qm 23 6,qa 24 (qc 55 [qt 23,(qs [58,32])]),qm 22 24]
 (qC 22
 (qr [qm 26 6,qa 27 (.slc 0 (qt 26) (some (qi 2)) none none),qa 28 (qc 59 [qt 27]),qm 25 28,qe 29 25 0,qe 30 25 1,qm 9 29,qm 10 30]
 (.reg [qm 31 9,qm 32 10,qa 33 (q3 .eql 32 0),qm 8 31,qm 7 33]))
 (qr [qm 35 6,qa 36 (.idx (qt 35) (qi 0)),qa 37 (q8 .eql 36 32),qm 34 37]
 (qC 34
 (.reg [qm 38 6,qa 39 (.slc 0 (qt 38) (some (qi 1)) none none),qm 8 39])
 (.reg [qa 7 (.mv (qb false))]))))))))
 (qr [qm 40 5,qm 41 8,qm 42 7,qm 43 42,qh 44 5 43,qh 45 8 43,qT 46 (qc 15 [qt 44,qt 45]) 43,qh 47 0 43,qT 48 (.bin .add (qt 47) (qs [10])) 43,qT 49 (q2 .eql 46 48) 43,qa 50 (qP 43 49),qm 2 40,qm 3 41,qm 4 50]
 .ret))))))⟩
def i38:IFn:=⟨60,[],(qr [qm 7 0,qa 8 (.nck (qt 7)),qa 9 (qf 1 8),qa 10 (ql 9),qa 11 (qk false 10),qm 6 11]
 (.seq (qr [qm 12 6,qa 13 (q3 .eql 12 0),qm 14 13,qj 15 0 14,qF 16 (.nck (qt 15)) 14,qF 17 (qf 1 16) 14,qF 18 (ql 17) 14,qj 19 6 14,qF 20 (q3 .sub 19 1) 14,qF 21 (qy 2 18 20) 14,qF 22 (qf 0 21) 14,qF 23 (ql 22) 14,qj 24 1 14,qF 25 (q2 .neq 23 24) 14,qa 26 (qp 14 25)]
 (qC 26
 (qr [qm 27 0,qm 28 0,qa 29 (.nck (qt 28)),qa 30 (qf 1 29),qa 31 (ql 30),qm 32 1,qa 33 (.build [.x (.str []),.x .nils] [(0,1,(qt 32))]),qa 34 (.bsl 48 2 1 [qt 33]),qa 35 (.app 48 2 40 (qt 31) (qt 34)),qa 36 (.nck (qt 27)),qa 37 (qf 1 36),qo 1 37 35]
 (.reg [qm 38 6,qa 39 (q3 .add 38 1),qm 6 39]))
 .skip))
 (.dreg 17 [3] [qm 40 0,qa 41 (.nck (qt 40)),qa 42 (qf 1 41),qa 43 (ql 42),qm 44 6,qa 45 (q3 .sub 44 1),qm 46 0,qa 47 (.nck (qt 46)),qa 48 (qf 1 47),qa 49 (ql 48),qm 50 6,qa 51 (q3 .sub 50 1),qa 52 (qy 2 49 51),qa 53 (qf 1 52),qa 54 (ql 53),qm 55 2,qa 56 (.bsl 9 1 1 [qt 55]),qa 57 (.app 9 1 16 (qt 54) (qt 56)),qa 58 (qy 2 43 45),qa 59 (qf 1 58),qo 1 59 57])))⟩
def i49:IFn:=⟨26,[.tmp 4],(qr [qa 4 (.mv (qb false))]
 (.seq (qr [qm 6 0,qa 7 (qk false 6),qm 8 1,qa 9 (qk false 8),qa 10 (q2 .neq 7 9)]
 (qC 10
 (qr [qa 4 (.mv (qb false))]
 .ret)
 .skip))
 (.seq (qr [qa 5 (.mv (qi 0))]
 (.block 0
 (.loop
 (.seq (qr [qm 11 5,qm 12 0,qa 13 (qk false 12),qa 14 (q2 .lss 11 13)]
 (qC 14
 .skip
 (.exit 0)))
 (.seq (.block 1
 (.seq (.dreg 8 [] [qm 17 0,qm 18 5,qa 19 (qy 1 17 18),qa 20 (ql 19),qm 21 1,qm 22 5,qa 23 (qy 1 21 22),qa 24 (ql 23),qa 25 (q2 .neq 20 24)])
 (qC 25
 (qr [qa 4 (.mv (qb false))]
 .ret)
 .skip)))
 (.reg [qm 15 5,qa 16 (q3 .add 15 1),qm 5 16]))))))
 (qr [qa 4 (.mv (qb true))]
 .ret))))⟩
def i50:IFn:=⟨56,[.tmp 2],(qr [qa 2 (.mv (qb false))]
 (qr [qm 7 0,qa 8 (.bin .neq (qt 7) (qs [])),qm 9 8,qh 10 0 9,qT 11 (qk true 10) 9,qT 12 (q3 .leq 11 64) 9,qa 13 (qP 9 12),qm 14 13,qh 15 0 14,qT 16 (qc 73 [qt 15]) 14,qT 17 (.bin .neq (qt 16) (qs [100,110])) 14,qa 18 (qP 14 17),qm 3 18]
 (.seq (qr [qm 19 0,qa 20 (qc 73 [qt 19]),qa 21 (.s2b 5 (qt 20)),qa 22 (qk false 21),qa 23 (.mv (qi 0))]
 (.block 0
 (.loop
 (qr [qa 24 (q2 .lss 23 22)]
 (.seq (qC 24
 .skip
 (.exit 0))
 (.seq (.block 1
 (qr [qm 25 23,qa 26 (qy 1 21 23),qa 27 (ql 26),qm 4 25,qm 5 27]
 (qr [qm 28 5,qa 29 (q8 .geq 28 97),qm 30 29,qh 31 5 30,qT 32 (q8 .leq 31 122) 30,qa 33 (qP 30 32),qm 6 33]
 (.reg [qm 34 3,qm 35 34,qh 36 6 35,qh 37 36 35,qj 38 4 37,qF 39 (q3 .gtr 38 0) 37,qj 40 39 37,qh 41 5 40,qT 42 (q8 .geq 41 48) 40,qh 43 42 40,qh 44 5 43,qT 45 (q8 .leq 44 57) 43,qT 46 (qP 43 45) 40,qh 47 46 40,qj 48 5 47,qF 49 (q8 .eql 48 45) 47,qT 50 (qp 47 49) 40,qF 51 (qP 40 50) 37,qT 52 (qp 37 51) 35,qa 53 (qP 35 52),qm 3 53]))))
 (.reg [qa 54 (q3 .add 23 1),qm 23 54])))))))
 (qr [qm 55 3,qm 2 55]
 .ret))))⟩
def i54:IFn:=⟨43,[.tmp 4],(qr [qa 4 (.mv (qs []))]
 (.seq (qr [qm 7 0,qa 8 (.bin .eql (qt 7) (qs [])),qm 9 8,qj 10 1 9,qF 11 (.bin .eql (qt 10) (qs [])) 9,qa 12 (qp 9 11)]
 (qC 12
 (qr [qm 13 0,qm 4 13]
 .ret)
 .skip))
 (.seq (qr [qm 14 1,qa 15 (qk true 14),qa 16 (q3 .eql 15 1),qm 17 16,qh 18 1 17,qT 19 (.idx (qt 18) (qi 0)) 17,qT 20 (q8 .lss 19 128) 17,qa 21 (qP 17 20)]
 (qC 21
 (.seq (.dreg 0 [] [qm 22 0,qm 23 1,qa 24 (.idx (qt 23) (qi 0)),qa 25 (qc 77 [qt 22,qt 24]),qm 26 1,qa 27 (.idx (qt 26) (qi 0)),qa 28 (qc 76 [qt 25,qt 27]),qm 4 28])
 .ret)
 .skip))
 (.seq (qr [qm 30 1,qa 31 (qc 78 [qt 30]),qm 29 31,qe 32 29 0,qe 33 29 1,qa 5 (.abx 106 (.c (.agg [.x (.bool false),.x (.bool false),.x (.bool false),.x (.bool false),.x (.bool false),.x (.bool false),.x (.bool false),.x (.bool false),.x (.bool false),.x (.bool false),.x (.bool false),.x (.bool false),.x (.bool false),.x (.bool false),.x (.bool false),.x (.bool false),.x (.bool false),.x (.bool false),.x (.bool false),.x (.bool false),.x (.bool false),.x (.bool false),.x (.bool false),.x (.bool false),.x (.bool false),.x (.bool false),.x (.bool false),.x (.bool false),.x (.bool false),.x (.bool false),.x (.bool false),.x (.bool false),.x (.bool false),.x (.bool false),.x (.bool false),.x (.bool false),.x (.bool false),.x (.bool false),.x (.bool false),.x (.bool false),.x (.bool false),.x (.bool false),.x (.bool false),.x (.bool false),.x (.bool false),.x (.bool false),.x (.bool false),.x (.bool false),.x (.bool false),.x (.bool false),.x (.bool false),.x (.bool false),.x (.bool false),.x (.bool false),.x (.bool false),.x (.bool false),.x (.bool false),.x (.bool false),.x (.bool false),.x (.bool false),.x (.bool false),.x (.bool false),.x (.bool false),.x (.bool false),.x (.bool false),.x (.bool false),.x (.bool false),.x (.bool false),.x (.bool false),.x (.bool false),.x (.bool false),.x (.bool false),.x (.bool false),.x (.bool false),.x (.bool false),.x (.bool false),.x (.bool false),.x (.bool false),.x (.bool false),.x (.bool false),.x (.bool false),.x (.bool false),.x (.bool false),.x (.bool false),.x (.bool false),.x (.bool false),.x (.bool false),.x (.bool false),.x (.bool false),.x (.bool false),.x (.bool false),.x (.bool false),.x (.bool false),.x (.bool false),.x (.bool false),.x (.bool false),.x (.bool false),.x (.bool false),.x (.bool false),.x (.bool false),.x (.bool false),.x (.bool false),.x (.bool false),.x (.bool false),.x (.bool false),.x (.bool false),.x (.bool false),.x (.bool false),.x (.bool false),.x (.bool false),.x (.bool false),.x (.bool false),.x (.bool false),.x (.bool false),.x (.bool false),.x (.bool false),.x (.bool false),.x (.bool false),.x (.bool false),.x (.bool false),.x (.bool false),.x (.bool false),.x (.bool false),.x (.bool false),.x (.bool false),.x (.bool false),.x (.bool false),.x (.bool false),.x (.bool false),.x (.bool false),.x (.bool false),.x (.bool false),.x (.bool false),.x (.bool false),.x (.bool false),.x (.bool false),.x (.bool false),.x (.bool false),.x (.bool false),.x (.bool false),.x (.bool false),.x (.bool false),.x (.bool false),.x (.bool false),.x (.bool false),.x (.bool false),.x (.bool false),.x (.bool false),.x (.bool false),.x (.bool false),.x (.bool false),.x (.bool false),.x (.bool false),.x (.bool false),.x (.bool false),.x (.bool false),.x (.bool false),.x (.bool false),.x (.bool false),.x (.bool false),.x (.bool false),.x (.bool false),.x (.bool false),.x (.bool false),.x (.bool false),.x (.bool false),.x (.bool false),.x (.bool false),.x (.bool false),.x (.bool false),.x (.bool false),.x (.bool false),.x (.bool false),.x (.bool false),.x (.bool false),.x (.bool false),.x (.bool false),.x (.bool false),.x (.bool false),.x (.bool false),.x (.bool false),.x (.bool false),.x (.bool false),.x (.bool false),.x (.bool false),.x (.bool false),.x (.bool false),.x (.bool false),.x (.bool false),.x (.bool false),.x (.bool false),.x (.bool false),.x (.bool false),.x (.bool false),.x (.bool false),.x (.bool false),.x (.bool false),.x (.bool false),.x (.bool false),.x (.bool false),.x (.bool false),.x (.bool false),.x (.bool false),.x (.bool false),.x (.bool false),.x (.bool false),.x (.bool false),.x (.bool false),.x (.bool false),.x (.bool false),.x (.bool false),.x (.bool false),.x (.bool false),.x (.bool false),.x (.bool false),.x (.bool false),.x (.bool false),.x (.bool false),.x (.bool false),.x (.bool false),.x (.bool false),.x (.bool false),.x (.bool false),.x (.bool false),.x (.bool false),.x (.bool false),.x (.bool false),.x (.bool false),.x (.bool false),.x (.bool false),.x (.bool false),.x (.bool false),.x (.bool false),.x (.bool false),.x (.bool false),.x (.bool false),.x (.bool false),.x (.bool false),.x (.bool false),.x (.bool false),.x (.bool false),.x (.bool false),.x (.bool false),.x (.bool false),.x (.bool false),.x (.bool false),.x (.bool false),.x (.bool false),.x (.bool false),.x (.bool false),.x (.bool false),.x (.bool false),.x (.bool false),.x (.bool false),.x (.bool false),.x (.bool false)]))),qo 256 5 32,qm 6 33]
 (qr [qm 34 6]
 (qC 34
 (qr [qm 35 0,qa 36 (qc 80 [qt 35,qt 5]),qa 37 (qc 79 [qt 36,qt 5]),qm 4 37]
 .ret)
 .skip)))
 (qr [qm 38 0,qm 39 1,qa 40 (qc 82 [qt 38,qt 39]),qm 41 1,qa 42 (qc 81 [qt 40,qt 41]),qm 4 42]
 .ret)))))⟩
def i59:IFn:=⟨68,[.tmp 2,.tmp 3],(qr [qa 2 (.mv (qs [])),qa 3 (.mv (qi 0))]
 (.seq (qr [qm 11 0,qa 12 (qk true 11),qa 13 (q3 .rem 12 4),qa 14 (q3 .neq 13 0)]
 (qC 14
 (qr [qa 2 (.mv (qs [])),qa 3 (.mv (qi 5))]
 .ret)
 .skip))
 (qr [qm 15 0,qa 16 (qc 85 [qt 15,(qs [61])]),qm 4 16]
 (.seq (qr [qm 17 0,qa 18 (qk true 17),qm 19 4,qa 20 (qk true 19),qa 21 (q2 .sub 18 20),qa 22 (q3 .gtr 21 2)]
 (qC 22
 (qr [qa 2 (.mv (qs [])),qa 3 (.mv (qi 5))]
 .ret)
 .skip))
 (qr [qa 5 (.mv (.c (.x .nils)))]
 (qr [qa 6 (.mv (qi 0)),qa 7 (.mv (qi 0))]
 (.seq (qr [qm 23 4,qa 24 (qk true 23),qa 25 (.mv (qi 0))]
 (.block 0
 (.loop
 (qr [qa 26 (q2 .lss 25 24)]
 (.seq (qC 26
 .skip
 (.exit 0))
 (.seq (.block 1
 (qr [qm 27 25,qm 8 27]
 (qr [qm 29 4,qm 30 8,qa 31 (qx 29 30),qa 32 (qc 86 [qt 31]),qm 28 32,qe 33 28 0,qe 34 28 1,qm 9 33,qm 10 34]
 (.seq (qr [qm 35 10,qa 36 (qz 35)]
 (qC 36
 (qr [qa 2 (.mv (qs [])),qa 3 (.mv (qi 5))]
 .ret)
 .skip))
 (qr [qm 37 6,qa 38 (.bin .shl (qt 37) (.c (.x (.int .u64 (6))))),qm 39 9,qa 40 (q2 .or 38 39),qm 41 7,qa 42 (q3 .add 41 6),qm 6 40,qm 7 42]
 (qr [qm 43 7,qa 44 (q3 .geq 43 8)]
 (qC 44
 (qr [qm 45 7,qa 46 (q3 .sub 45 8),qm 7 46]
 (qr [qm 47 5,qm 48 6,qm 49 7,qa 50 (q2 .shr 48 49),qa 51 (.cvi .u8 (qt 50)),qa 52 (.bsl 5 1 1 [qt 51]),qa 53 (.app 5 1 1 (qt 47) (qt 52)),qm 5 53]
 (.reg [qm 54 6,qm 55 7,qa 56 (.bin .shl (qi 1) (qt 55)),qa 57 (q3 .sub 56 1),qa 58 (q2 .and 54 57),qm 6 58])))
 .skip)))))))
 (.reg [qa 59 (q3 .add 25 1),qm 25 59])))))))
 (.seq (qr [qm 60 6,qa 61 (q3 .neq 60 0),qm 62 61,qj 63 7 62,qF 64 (q3 .geq 63 6) 62,qa 65 (qp 62 64)]
 (qC 65
 (qr [qa 2 (.mv (qs [])),qa 3 (.mv (qi 5))]
 .ret)
 .skip))
 (qr [qm 66 5,qa 67 (.b2s (qt 66)),qm 2 67,qa 3 (.mv (qi 0))]
 .ret)))))))))⟩
def i64:IFn:=⟨43,[.cell 2 3 true,.tmp 3],(qr [qa 2 (.box (.c (.agg [.x (.str []),.x .nils,.x (.str [])]))),qa 3 (.mv (qb false))]
 (qr [qa 4 (.mv (.c (.x .nils)))]
 (.seq (qr [qm 10 0,qa 11 (qk false 10),qa 12 (.mv (qi 0))]
 (.block 0
 (.loop
 (qr [qa 13 (q2 .lss 12 11)]
 (.seq (qC 13
 .skip
 (.exit 0))
 (.seq (.block 1
 (qr [qa 14 (qy 1 10 12),qa 15 (ql 14),qm 6 15]
 (qr [qm 17 6,qa 18 (qc 65 [qt 17]),qm 16 18,qe 19 16 0,qe 20 16 1,qm 7 19,qm 8 20]
 (.seq (qr [qm 21 8,qa 22 (qz 21)]
 (qC 22
 (qr [qa 23 (.build [.x (.str []),.x .nils,.x (.str [])] []),qo 3 2 23,qa 3 (.mv (qb false))]
 .ret)
 .skip))
 (.reg [qm 24 4,qm 25 7,qa 26 (.bsl 9 1 1 [qt 25]),qa 27 (.app 9 1 16 (qt 24) (qt 26)),qm 4 27])))))
 (.reg [qa 28 (q3 .add 12 1),qm 12 28])))))))
 (qr [qm 29 4,qa 30 (qk false 29),qa 31 (q3 .sub 30 1),qm 9 31]
 (.seq (.dreg 10 [] [qm 32 4,qa 33 (.iad 1 (qt 32) (qi 0)),qa 34 (ql 33),qm 35 4,qm 36 9,qa 37 (.slc 1 (qt 35) (some (qi 1)) (some (qt 36)) none),qm 38 4,qm 39 9,qa 40 (qy 1 38 39),qa 41 (ql 40),qa 42 (.build [.x (.str []),.x .nils,.x (.str [])] [(0,1,(qt 34)),(1,1,(qt 37)),(2,1,(qt 41))]),qo 3 2 42,qa 3 (.mv (qb true))])
 .ret)))))⟩
def i73:IFn:=⟨30,[.tmp 2],(qr [qa 2 (.mv (qs []))]
 (qr [qm 6 0,qa 7 (.s2b 5 (qt 6)),qm 3 7]
 (.seq (qr [qm 8 3,qa 9 (qk false 8),qa 10 (.mv (qi 0))]
 (.block 0
 (.loop
 (qr [qa 11 (q2 .lss 10 9)]
 (.seq (qC 11
 .skip
 (.exit 0))
 (.seq (.block 1
 (qr [qm 12 10,qa 13 (qy 1 8 10),qa 14 (ql 13),qm 4 12,qm 5 14]
 (qr [qm 15 5,qa 16 (q8 .geq 15 65),qm 17 16,qh 18 5 17,qT 19 (q8 .leq 18 90) 17,qa 20 (qP 17 19)]
 (qC 20
 (.reg [qm 21 3,qm 22 4,qm 23 5,qa 24 (q8 .sub 23 65),qa 25 (q8 .add 24 97),qa 26 (qy 1 21 22),qo 1 26 25])
 .skip))))
 (.reg [qa 27 (q3 .add 10 1),qm 10 27])))))))
 (qr [qm 28 3,qa 29 (.b2s (qt 28)),qm 2 29]
 .ret))))⟩
def i76:IFn:=⟨17,[.tmp 4],(qr [qa 4 (.mv (qs []))]
 (.seq (.block 0
 (.loop
 (.seq (qr [qm 5 0,qa 6 (qk true 5),qa 7 (q3 .gtr 6 0),qm 8 7,qh 9 0 8,qT 10 (.idx (qt 9) (qi 0)) 8,qh 11 1 8,qT 12 (q2 .eql 10 11) 8,qa 13 (qP 8 12)]
 (qC 13
 .skip
 (.exit 0)))
 (.block 1
 (.reg [qm 14 0,qa 15 (.slc 0 (qt 14) (some (qi 1)) none none),qm 0 15])))))
 (qr [qm 16 0,qm 4 16]
 .ret)))⟩
def i77:IFn:=⟨23,[.tmp 4],(qr [qa 4 (.mv (qs []))]
 (.seq (.block 0
 (.loop
 (.seq (qr [qm 5 0,qa 6 (qk true 5),qa 7 (q3 .gtr 6 0),qm 8 7,qh 9 0 8,qh 10 0 8,qT 11 (qk true 10) 8,qT 12 (q3 .sub 11 1) 8,qT 13 (qx 9 12) 8,qh 14 1 8,qT 15 (q2 .eql 13 14) 8,qa 16 (qP 8 15)]
 (qC 16
 .skip
 (.exit 0)))
 (.block 1
 (.reg [qm 17 0,qm 18 0,qa 19 (qk true 18),qa 20 (q3 .sub 19 1),qa 21 (.slc 0 (qt 17) none (some (qt 20)) none),qm 0 21])))))
 (qr [qm 22 0,qm 4 22]
 .ret)))⟩
def i86:IFn:=⟨14,[.tmp 2,.tmp 3],(qr [qa 2 (.mv (qi 0)),qa 3 (.mv (qb false))]
 (.seq (qr [qa 5 (.mv (qi 0))]
 (.block 0
 (.loop
 (qr [qa 6 (q3 .lss 5 64)]
 (.seq (qC 6
 .skip
 (.exit 0))
 (.seq (.block 1
 (qr [qm 7 5,qm 4 7]
 (qr [qm 8 4,qa 9 (.idx (qs [65,66,67,68,69,70,71,72,73,74,75,76,77,78,79,80,81,82,83,84,85,86,87,88,89,90,97,98,99,100,101,102,103,104,105,106,107,108,109,110,111,112,113,114,115,116,117,118,119,120,121,122,48,49,50,51,52,53,54,55,56,57,43,47]) (qt 8)),qm 10 0,qa 11 (q2 .eql 9 10)]
 (qC 11
 (qr [qm 12 4,qm 2 12,qa 3 (.mv (qb true))]
 .ret)
 .skip))))
 (.reg [qa 13 (q3 .add 5 1),qm 5 13])))))))
 (qr [qa 2 (.mv (qi 0)),qa 3 (.mv (qb false))]
 .ret)))⟩
def i91:IFn:=⟨51,[.tmp 2],(qr [qa 2 (.mv (qb false))]
 (qr [qm 7 0,qa 8 (.bin .neq (qt 7) (qs [])),qm 9 8,qh 10 0 9,qT 11 (qk true 10) 9,qT 12 (q3 .leq 11 64) 9,qa 13 (qP 9 12),qm 3 13]
 (.seq (qr [qm 14 0,qa 15 (qc 73 [qt 14]),qa 16 (.s2b 5 (qt 15)),qa 17 (qk false 16),qa 18 (.mv (qi 0))]
 (.block 0
 (.loop
 (qr [qa 19 (q2 .lss 18 17)]
 (.seq (qC 19
 .skip
 (.exit 0))
 (.seq (.block 1
 (qr [qm 20 18,qa 21 (qy 1 16 18),qa 22 (ql 21),qm 4 20,qm 5 22]
 (qr [qm 23 5,qa 24 (q8 .geq 23 97),qm 25 24,qh 26 5 25,qT 27 (q8 .leq 26 122) 25,qa 28 (qP 25 27),qm 6 28]
 (.reg [qm 29 3,qm 30 29,qh 31 6 30,qh 32 31 30,qj 33 4 32,qF 34 (q3 .gtr 33 0) 32,qj 35 34 32,qh 36 5 35,qT 37 (q8 .geq 36 48) 35,qh 38 37 35,qh 39 5 38,qT 40 (q8 .leq 39 57) 38,qT 41 (qP 38 40) 35,qh 42 41 35,qj 43 5 42,qF 44 (q8 .eql 43 45) 42,qT 45 (qp 42 44) 35,qF 46 (qP 35 45) 32,qT 47 (qp 32 46) 30,qa 48 (qP 30 47),qm 3 48]))))
 (.reg [qa 49 (q3 .add 18 1),qm 18 49])))))))
 (qr [qm 50 3,qm 2 50]
 .ret))))⟩
def G:FuncId→Option IFn
 |4=>some i4
 |5=>some i5
 |6=>some i6
 |11=>some i11
 |12=>some i12
 |13=>some i13
 |14=>some i14
 |15=>some i15
 |16=>some i16
 |17=>some i17
 |25=>some i25
 |26=>some i26
 |27=>some i27
 |28=>some i28
 |29=>some i29
 |31=>some i31
 |32=>some i32
 |33=>some i33
 |35=>some i35
 |37=>some i37
 |38=>some i38
 |49=>some i49
 |50=>some i50
 |54=>some i54
 |59=>some i59
 |64=>some i64
 |73=>some i73
 |76=>some i76
 |77=>some i77
 |86=>some i86
 |91=>some i91
 |_=>none
theorem G_ok:GOk Tryd.prog G:=by
 intro f p h
 unfold G at h
 split at h
 ·exact gk Tryd.func4 h
 ·exact gk Tryd.func5 h
 ·exact gk Tryd.func6 h
 ·exact gk Tryd.func11 h
 ·exact gk Tryd.func12 h
 ·exact gk Tryd.func13 h
 ·exact gk Tryd.func14 h
 ·exact gk Tryd.func15 h
 ·exact gk Tryd.func16 h
 ·exact gk Tryd.func17 h
 ·exact gk Tryd.func25 h
 ·exact gk Tryd.func26 h
 ·exact gk Tryd.func27 h
 ·exact gk Tryd.func28 h
 ·exact gk Tryd.func29 h
 ·exact gk Tryd.func31 h
 ·exact gk Tryd.func32 h
 ·exact gk Tryd.func33 h
 ·exact gk Tryd.func35 h
 ·exact gk Tryd.func37 h
 ·exact gk Tryd.func38 h
 ·exact gk Tryd.func49 h
 ·exact gk Tryd.func50 h
 ·exact gk Tryd.func54 h
 ·exact gk Tryd.func59 h
 ·exact gk Tryd.func64 h
 ·exact gk Tryd.func73 h
 ·exact gk Tryd.func76 h
 ·exact gk Tryd.func77 h
 ·exact gk Tryd.func86 h
 ·exact gk Tryd.func91 h
 ·cases h
end Go.Proofs.YtmlpbojoekmfaaaDoor
