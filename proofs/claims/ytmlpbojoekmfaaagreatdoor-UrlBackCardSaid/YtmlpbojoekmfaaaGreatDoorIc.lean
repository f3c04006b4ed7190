import Derived.Test.YtmlpbojoekmfaaaGreatDoorProg
import Derived.Test.YtmlpbojoekmfaaaGreatDoorLA4
set_option linter.unusedSimpArgs false
set_option linter.unusedVariables false
namespace Go.Proofs.YtmlpbojoekmfaaaGreatDoor
open Go.RowKit Go.Bo Go.Ab
def i3:IFn:=⟨46,[.tmp 4],(qr [qa 2 (.box (qt 0)),qa 4 (.mv (qb false))]
 (.seq (qr [qa 9 (qL 5 2),qa 10 (qc 5 [qt 9]),qa 11 (qz 10),qm 12 11,qj 13 1 12,qF 14 (qk true 13) 12,qF 15 (q3 .gtr 14 300) 12,qa 16 (qp 12 15)]
 (qC 16
 (qr [qa 17 (qc 6 []),qm 4 17]
 .ret)
 .skip))
 (qr [qa 19 (qL 5 2),qa 20 (qc 7 [qt 19]),qm 18 20,qe 21 18 0,qe 22 18 1,qm 5 21,qm 6 22]
 (qr [qa 24 (qL 5 2),qa 25 (qc 8 [qt 24]),qm 23 25,qe 26 23 0,qe 27 23 1,qm 7 26,qm 8 27]
 (qr [qm 28 5,qm 29 7,qa 30 (q2 .eql 28 29),qm 31 30,qh 32 6 31,qh 33 8 31,qT 34 (q2 .eql 32 33) 31,qa 35 (qP 31 34),qm 36 35,qh 37 1 36,qT 38 (qc 9 [qt 37]) 36,qh 39 1 36,qT 40 (qc 10 [qt 39]) 36,qT 41 (q2 .eql 38 40) 36,qa 42 (qP 36 41),qm 43 42,qT 44 (qc 6 []) 43,qa 45 (qP 43 44),qm 4 45]
 .ret)))))⟩
def i4:IFn:=⟨78,[.tmp 4],(qr [qa 2 (.box (qt 0)),qa 4 (.mv (qb false))]
 (.seq (qr [qa 13 (qL 5 2),qa 14 (qc 5 [qt 13]),qa 15 (qz 14),qm 16 15,qj 17 1 16,qF 18 (qk true 17) 16,qF 19 (q3 .gtr 18 600) 16,qa 20 (qp 16 19)]
 (qC 20
 (qr [qa 21 (qc 6 []),qm 4 21]
 .ret)
 .skip))
 (qr [qa 23 (qL 5 2),qa 24 (qc 7 [qt 23]),qm 22 24,qe 25 22 0,qe 26 22 1,qm 5 25,qm 6 26]
 (qr [qm 28 5,qa 29 (qc 11 [qt 28]),qm 27 29,qe 30 27 0,qe 31 27 1,qa 7 (.box (.c (.agg [.x (.str []),.x (.str []),.x (.str []),.x .nils,.x (.int .i64 (0))]))),qo 5 7 30,qm 8 31]
 (qr [qm 33 1,qa 34 (qc 11 [qt 33]),qm 32 34,qe 35 32 0,qe 36 32 1,qa 9 (.box (.c (.agg [.x (.str []),.x (.str []),.x (.str []),.x .nils,.x (.int .i64 (0))]))),qo 5 9 35,qm 10 36]
 (qr [qa 38 (qL 5 9),qa 39 (qc 8 [qt 38]),qm 37 39,qe 40 37 0,qe 41 37 1,qm 11 40,qm 12 41]
 (qr [qm 42 6,qa 43 (q3 .neq 42 0),qm 44 43,qj 45 8 44,qF 46 (q3 .eql 45 0) 44,qj 47 46 44,qT 48 (qL 5 7) 47,qT 49 (qL 5 2) 47,qT 50 (qc 12 [qt 48,qt 49]) 47,qF 51 (qP 47 50) 44,qa 52 (qp 44 51),qm 53 52,qh 54 10 53,qT 55 (q3 .eql 54 0) 53,qh 56 55 53,qh 57 11 56,qh 58 1 56,qT 59 (q2 .eql 57 58) 56,qT 60 (qP 56 59) 53,qh 61 60 53,qh 62 12 61,qT 63 (q3 .eql 62 0) 61,qT 64 (qP 61 63) 53,qh 65 64 53,qj 66 10 65,qF 67 (q3 .eql 66 5) 65,qj 68 67 65,qT 69 (qL 5 9) 68,qg 70 (.build [.x (.str []),.x (.str []),.x (.str []),.x .nils,.x (.int .i64 (0))] []) 68 true,qT 71 (qc 12 [qt 69,qt 70]) 68,qF 72 (qP 68 71) 65,qT 73 (qp 65 72) 53,qa 74 (qP 53 73),qm 75 74,qT 76 (qc 6 []) 75,qa 77 (qP 75 76),qm 4 77]
 .ret)))))))⟩
def i5:IFn:=⟨40,[.tmp 2],(qr [qa 1 (.box (qt 0)),qa 2 (.mv (qb false))]
 (.seq (qr [qa 4 (qf 0 1),qa 5 (ql 4),qa 6 (qk true 5),qa 7 (q3 .gtr 6 300),qm 8 7,qF 9 (qf 1 1) 8,qF 10 (ql 9) 8,qF 11 (qk true 10) 8,qF 12 (q3 .gtr 11 300) 8,qa 13 (qp 8 12),qm 14 13,qF 15 (qf 3 1) 14,qF 16 (ql 15) 14,qF 17 (qk false 16) 14,qF 18 (q3 .gtr 17 70) 14,qa 19 (qp 14 18),qm 20 19,qF 21 (qf 2 1) 20,qF 22 (ql 21) 20,qF 23 (qk true 22) 20,qF 24 (q3 .gtr 23 300) 20,qa 25 (qp 20 24)]
 (qC 25
 (qr [qa 2 (.mv (qb false))]
 .ret)
 .skip))
 (.seq (qr [qa 3 (.mv (qi 0))]
 (.block 0
 (.loop
 (.seq (qr [qm 26 3,qa 27 (qf 3 1),qa 28 (ql 27),qa 29 (qk false 28),qa 30 (q2 .lss 26 29)]
 (qC 30
 .skip
 (.exit 0)))
 (.seq (.block 1
 (qr [qa 33 (qf 3 1),qa 34 (ql 33),qm 35 3,qa 36 (qy 1 34 35),qa 37 (ql 36),qa 38 (qk true 37),qa 39 (q3 .gtr 38 80)]
 (qC 39
 (qr [qa 2 (.mv (qb false))]
 .ret)
 .skip)))
 (.reg [qm 31 3,qa 32 (q3 .add 31 1),qm 3 32]))))))
 (qr [qa 2 (.mv (qb true))]
 .ret))))⟩
def i6:IFn:=⟨79,[.tmp 0],(qr [qa 0 (.mv (qb false))]
 (qr [qa 10 (qc 11 [(qs [108,100,97,112,58,47,47,104,47,100,99,61,97,63,99,110,44,115,110,63,115,117,98,63,40,99,110,61,97,42,41])]),qm 9 10,qe 11 9 0,qe 12 9 1,qa 1 (.box (.c (.agg [.x (.str []),.x (.str []),.x (.str []),.x .nils,.x (.int .i64 (0))]))),qo 5 1 11,qm 2 12]
 (qr [qa 14 (qL 5 1),qa 15 (qc 7 [qt 14]),qm 13 15,qe 16 13 0,qe 17 13 1,qm 3 16,qm 4 17]
 (qr [qa 19 (qc 11 [(qs [108,100,97,112,58,47,47,104,47,100,99,61,97,63,99,110,63,115,117,98])]),qm 18 19,qe 20 18 0,qe 21 18 1,qa 5 (.box (.c (.agg [.x (.str []),.x (.str []),.x (.str []),.x .nils,.x (.int .i64 (0))]))),qo 5 5 20,qm 6 21]
 (qr [qa 23 (.build [.x (.str []),.x (.str []),.x (.str []),.x .nils,.x (.int .i64 (0))] [(1,1,(qs [99,110,61,97,32,98]))]),qa 24 (qc 7 [qt 23]),qm 22 24,qe 25 22 0,qe 26 22 1,qm 7 25,qm 8 26]
 (qr [qa 27 (qf 0 1),qa 28 (ql 27),qa 29 (.bin .eql (qt 28) (qs [104])),qm 30 29,qT 31 (qf 1 1) 30,qT 32 (ql 31) 30,qT 33 (.bin .eql (qt 32) (qs [100,99,61,97])) 30,qa 34 (qP 30 33),qm 35 34,qT 36 (qf 3 1) 35,qT 37 (ql 36) 35,qT 38 (.bsl 9 1 2 [(qs [99,110]),(qs [115,110])]) 35,qT 39 (qc 13 [qt 37,qt 38]) 35,qa 40 (qP 35 39),qm 41 40,qT 42 (qf 4 1) 41,qT 43 (ql 42) 41,qT 44 (q3 .eql 43 2) 41,qa 45 (qP 41 44),qm 46 45,qT 47 (qf 2 1) 46,qT 48 (ql 47) 46,qT 49 (.bin .eql (qt 48) (qs [40,99,110,61,97,42,41])) 46,qa 50 (qP 46 49),qm 51 50,qh 52 2 51,qT 53 (q3 .eql 52 0) 51,qa 54 (qP 51 53),qm 55 54,qh 56 3 55,qT 57 (.bin .eql (qt 56) (qs [108,100,97,112,58,47,47,104,47,100,99,61,97,63,99,110,44,115,110,63,115,117,98,63,40,99,110,61,97,42,41])) 55,qa 58 (qP 55 57),qm 59 58,qh 60 4 59,qT 61 (q3 .eql 60 0) 59,qa 62 (qP 59 61),qm 63 62,qh 64 6 63,qT 65 (q3 .eql 64 5) 63,qa 66 (qP 63 65),qm 67 66,qh 68 7 67,qT 69 (.bin .eql (qt 68) (qs [108,100,97,112,58,47,47,47,99,110,61,97,37,50,48,98,63,63,98,97,115,101,63])) 67,qa 70 (qP 67 69),qm 71 70,qh 72 8 71,qT 73 (q3 .eql 72 0) 71,qa 74 (qP 71 73),qm 75 74,qT 76 (qc 9 [(qs [37])]) 75,qT 77 (.bin .eql (qt 76) (qs [37,50,53])) 75,qa 78 (qP 75 77),qm 0 78]
 .ret))))))⟩
def i7:IFn:=⟨32,[.tmp 2,.tmp 3],(qr [qa 1 (.box (qt 0)),qa 2 (.mv (qs [])),qa 3 (.mv (qi 0))]
 (.seq (qr [qa 6 (qL 5 1),qa 7 (qc 14 [qt 6]),qm 4 7]
 (qr [qm 8 4,qa 9 (q3 .neq 8 0)]
 (qC 9
 (qr [qm 10 4,qa 2 (.mv (qs [])),qm 3 10]
 .ret)
 .skip)))
 (.seq (.dreg 18 [] [qa 11 (qf 0 1),qa 12 (ql 11),qa 13 (.bin .add (qs [108,100,97,112,58,47,47]) (qt 12)),qa 14 (.bin .add (qt 13) (qs [47])),qa 15 (qf 1 1),qa 16 (ql 15),qa 17 (qc 9 [qt 16]),qa 18 (q2 .add 14 17),qa 19 (qf 3 1),qa 20 (ql 19),qa 21 (qc 15 [qt 20,(qs [44])]),qa 22 (qc 16 []),qa 23 (qf 4 1),qa 24 (ql 23),qa 25 (.idxa 1 3 false (qt 22) (qt 24)),qa 26 (qf 2 1),qa 27 (ql 26),qa 28 (qc 9 [qt 27]),qa 29 (.bsl 9 1 4 [qt 18,qt 21,qt 25,qt 28]),qm 5 29])
 (qr [qm 30 5,qa 31 (qc 15 [qt 30,(qs [63])]),qm 2 31,qa 3 (.mv (qi 0))]
 .ret))))⟩
def i8:IFn:=⟨112,[.tmp 2,.tmp 3],(qr [qa 1 (.box (qt 0)),qa 2 (.mv (qs [])),qa 3 (.mv (qi 0))]
 (.seq (qr [qa 12 (qf 0 1),qa 13 (ql 12),qa 14 (qk true 13),qa 15 (q3 .gtr 14 255),qm 16 15,qF 17 (qf 1 1) 16,qF 18 (ql 17) 16,qF 19 (qk true 18) 16,qF 20 (q3 .gtr 19 4096) 16,qa 21 (qp 16 20),qm 22 21,qF 23 (qf 3 1) 22,qF 24 (ql 23) 22,qF 25 (qk false 24) 22,qF 26 (q3 .gtr 25 64) 22,qa 27 (qp 22 26)]
 (qC 27
 (qr [qa 2 (.mv (qs [])),qa 3 (.mv (qi 3))]
 .ret)
 .skip))
 (.seq (qr [qa 28 (qf 0 1),qa 29 (ql 28),qa 30 (qc 17 [qt 29]),qa 31 (qz 30)]
 (qC 31
 (qr [qa 2 (.mv (qs [])),qa 3 (.mv (qi 5))]
 .ret)
 .skip))
 (qr [qa 33 (qf 1 1),qa 34 (ql 33),qa 35 (qc 18 [qt 34]),qm 32 35,qe 36 32 0,qe 37 32 1,qm 4 36,qm 5 37]
 (qr [qm 38 5,qa 39 (q3 .eql 38 0),qm 6 39]
 (.seq (.dreg 7 [] [qa 40 (qf 0 1),qa 41 (ql 40),qa 42 (.bin .add (qs [108,100,97,112,58,47,47]) (qt 41)),qa 43 (.bin .add (qt 42) (qs [47])),qa 44 (qf 1 1),qa 45 (ql 44),qa 46 (qc 10 [qt 45]),qa 47 (q2 .add 43 46),qa 48 (.bin .add (qt 47) (qs [63])),qm 7 48])
 (.seq (qr [qa 8 (.mv (qi 0))]
 (.block 0
 (.loop
 (.seq (qr [qm 49 8,qa 50 (qf 3 1),qa 51 (ql 50),qa 52 (qk false 51),qa 53 (q2 .lss 49 52)]
 (qC 53
 .skip
 (.exit 0)))
 (.seq (.block 1
 (qr [qm 56 6,qm 57 56,qT 58 (qf 3 1) 57,qT 59 (ql 58) 57,qh 60 8 57,qT 61 (qy 1 59 60) 57,qT 62 (ql 61) 57,qT 63 (qc 19 [qt 62]) 57,qa 64 (qP 57 63),qm 6 64]
 (.seq (qr [qm 65 8,qa 66 (q3 .gtr 65 0)]
 (qC 66
 (.reg [qm 67 7,qa 68 (.bin .add (qt 67) (qs [44])),qm 7 68])
 .skip))
 (.reg [qm 69 7,qa 70 (qf 3 1),qa 71 (ql 70),qm 72 8,qa 73 (qy 1 71 72),qa 74 (ql 73),qa 75 (q2 .add 69 74),qm 7 75]))))
 (.reg [qm 54 8,qa 55 (q3 .add 54 1),qm 8 55]))))))
 (.seq (qr [qm 76 6,qa 77 (qz 76)]
 (qC 77
 (qr [qa 2 (.mv (qs [])),qa 3 (.mv (qi 13))]
 .ret)
 .skip))
 (.seq (qr [qa 78 (qf 4 1),qa 79 (ql 78),qa 80 (q3 .lss 79 0),qm 81 80,qF 82 (qf 4 1) 81,qF 83 (ql 82) 81,qF 84 (q3 .gtr 83 2) 81,qa 85 (qp 81 84)]
 (qC 85
 (qr [qa 2 (.mv (qs [])),qa 3 (.mv (qi 2))]
 .ret)
 .skip))
 (.seq (qr [qa 86 (qf 2 1),qa 87 (ql 86),qa 88 (.bin .neq (qt 87) (qs []))]
 (qC 88
 (qr [qa 90 (qf 2 1),qa 91 (ql 90),qa 92 (qc 20 [qt 91]),qm 89 92,qe 93 89 0,qe 94 89 1,qa 9 (.box (.c (.agg [.x (.int .i64 (0)),.x (.str []),.x (.str []),.x (.str []),.x .nils,.x (.str []),.x .nils]))),qo 7 9 93,qm 10 94]
 (qr [qm 95 10,qa 96 (q3 .neq 95 0)]
 (qC 96
 (qr [qm 97 10,qa 2 (.mv (qs [])),qm 3 97]
 .ret)
 .skip)))
 .skip))
 (qr [qa 98 (.bsl 9 1 3 [(qs [98,97,115,101]),(qs [111,110,101]),(qs [115,117,98])]),qm 11 98]
 (.seq (.dreg 12 [] [qm 99 7,qa 100 (.bin .add (qt 99) (qs [63])),qm 101 11,qa 102 (qf 4 1),qa 103 (ql 102),qa 104 (qy 1 101 103),qa 105 (ql 104),qa 106 (q2 .add 100 105),qa 107 (.bin .add (qt 106) (qs [63])),qa 108 (qf 2 1),qa 109 (ql 108),qa 110 (qc 10 [qt 109]),qa 111 (q2 .add 107 110),qm 2 111,qa 3 (.mv (qi 0))])
 .ret))))))))))))⟩
def i9:IFn:=⟨35,[.tmp 2],(qr [qa 2 (.mv (qs []))]
 (qr [qa 3 (.mv (.c (.x .nils)))]
 (.seq (qr [qm 6 0,qa 7 (.s2b 5 (qt 6)),qa 8 (qk false 7),qa 9 (.mv (qi 0))]
 (.block 0
 (.loop
 (qr [qa 10 (q2 .lss 9 8)]
 (.seq (qC 10
 .skip
 (.exit 0))
 (.seq (.block 1
 (qr [qa 11 (qy 1 7 9),qa 12 (ql 11),qm 5 12]
 (qr [qm 13 5,qa 14 (qc 21 [qt 13]),qm 15 14,qj 16 5 15,qF 17 (qc 22 [(qs [45,46,95,126,44,61,42,40,41,43,38,33,124]),qt 16]) 15,qa 18 (qp 15 17)]
 (qC 18
 (.reg [qm 19 3,qm 20 5,qa 21 (.bsl 5 1 1 [qt 20]),qa 22 (.app 5 1 1 (qt 19) (qt 21)),qm 3 22])
 (.dreg 0 [] [qm 23 3,qm 24 5,qa 25 (q8 .quo 24 16),qa 26 (.idx (qs [48,49,50,51,52,53,54,55,56,57,65,66,67,68,69,70]) (qt 25)),qm 27 5,qa 28 (q8 .rem 27 16),qa 29 (.idx (qs [48,49,50,51,52,53,54,55,56,57,65,66,67,68,69,70]) (qt 28)),qa 30 (.bsl 5 1 3 [(.c (.x (.int .u8 (37)))),qt 26,qt 29]),qa 31 (.app 5 1 1 (qt 23) (qt 30)),qm 3 31])))))
 (.reg [qa 32 (q3 .add 9 1),qm 9 32])))))))
 (qr [qm 33 3,qa 34 (.b2s (qt 33)),qm 2 34]
 .ret))))⟩
def i10:IFn:=⟨50,[.tmp 2],(qr [qa 2 (.mv (qs []))]
 (qr [qa 3 (.mv (qs [48,49,50,51,52,53,54,55,56,57,65,66,67,68,69,70]))]
 (qr [qa 4 (.mv (qs []))]
 (.seq (qr [qa 5 (.mv (qi 0))]
 (.block 0
 (.loop
 (.seq (qr [qm 6 5,qm 7 0,qa 8 (qk true 7),qa 9 (q2 .lss 6 8)]
 (qC 9
 .skip
 (.exit 0)))
 (.seq (.block 1
 (qr [qm 12 0,qm 13 5,qa 14 (qx 12 13),qa 15 (qc 23 [qt 14])]
 (qC 15
 (.reg [qm 16 4,qm 17 0,qm 18 5,qm 19 5,qa 20 (q3 .add 19 1),qa 21 (.slc 0 (qt 17) (some (qt 18)) (some (qt 20)) none),qa 22 (q2 .add 16 21),qm 4 22])
 (.dreg 0 [] [qm 23 4,qa 24 (.bin .add (qt 23) (qs [37])),qm 25 3,qm 26 0,qm 27 5,qa 28 (qx 26 27),qa 29 (q8 .quo 28 16),qm 30 0,qm 31 5,qa 32 (qx 30 31),qa 33 (q8 .quo 32 16),qa 34 (q8 .add 33 1),qa 35 (.slc 0 (qt 25) (some (qt 29)) (some (qt 34)) none),qa 36 (q2 .add 24 35),qm 37 3,qm 38 0,qm 39 5,qa 40 (qx 38 39),qa 41 (q8 .rem 40 16),qm 42 0,qm 43 5,qa 44 (qx 42 43),qa 45 (q8 .rem 44 16),qa 46 (q8 .add 45 1),qa 47 (.slc 0 (qt 37) (some (qt 41)) (some (qt 46)) none),qa 48 (q2 .add 36 47),qm 4 48]))))
 (.reg [qm 10 5,qa 11 (q3 .add 10 1),qm 5 11]))))))
 (qr [qm 49 4,qm 2 49]
 .ret)))))⟩
def i11:IFn:=⟨83,[.cell 2 5 true,.tmp 3],(qr [qa 2 (.box (.c (.agg [.x (.str []),.x (.str []),.x (.str []),.x .nils,.x (.int .i64 (0))]))),qa 3 (.mv (qi 0))]
 (qr [qm 16 0,qa 17 (qc 24 [qt 16,(qs [108,100,97,112,58,47,47])]),qm 15 17,qe 18 15 0,qe 19 15 1,qm 4 18,qm 5 19]
 (qr [qm 20 4,qa 21 (qc 25 [qt 20,(qs [63])]),qm 6 21]
 (.seq (qr [qm 22 5,qa 23 (qz 22),qm 24 23,qj 25 6 24,qF 26 (qk false 25) 24,qF 27 (q3 .neq 26 4) 24,qa 28 (qp 24 27)]
 (qC 28
 (qr [qa 29 (.build [.x (.str []),.x (.str []),.x (.str []),.x .nils,.x (.int .i64 (0))] []),qo 5 2 29,qa 3 (.mv (qi 5))]
 .ret)
 .skip))
 (qr [qm 31 6,qa 32 (.iad 1 (qt 31) (qi 0)),qa 33 (ql 32),qa 34 (qc 26 [qt 33,(qs [47])]),qm 30 34,qe 35 30 0,qe 36 30 1,qe 37 30 2,qm 7 35,qm 8 36,qm 9 37]
 (qr [qm 39 8,qa 40 (qc 27 [qt 39]),qm 38 40,qe 41 38 0,qe 42 38 1,qm 10 41,qm 11 42]
 (qr [qm 44 6,qa 45 (.iad 1 (qt 44) (qi 3)),qa 46 (ql 45),qa 47 (qc 27 [qt 46]),qm 43 47,qe 48 43 0,qe 49 43 1,qm 12 48,qm 13 49]
 (.seq (qr [qm 50 9,qa 51 (qz 50),qm 52 51,qj 53 11 52,qF 54 (qz 53) 52,qa 55 (qp 52 54),qm 56 55,qj 57 13 56,qF 58 (qz 57) 56,qa 59 (qp 56 58)]
 (qC 59
 (qr [qa 60 (.build [.x (.str []),.x (.str []),.x (.str []),.x .nils,.x (.int .i64 (0))] []),qo 5 2 60,qa 3 (.mv (qi 5))]
 .ret)
 .skip))
 (qr [qm 61 7,qm 62 10,qm 63 12,qm 64 6,qa 65 (.iad 1 (qt 64) (qi 2)),qa 66 (ql 65),qa 67 (qc 28 [qt 66]),qa 68 (.build [.x (.str []),.x (.str []),.x (.str []),.x .nils,.x (.int .i64 (0))] [(0,1,(qt 61)),(1,1,(qt 62)),(2,1,(qt 63)),(4,1,(qt 67))]),qa 14 (.box (.c (.agg [.x (.str []),.x (.str []),.x (.str []),.x .nils,.x (.int .i64 (0))]))),qo 5 14 68]
 (.seq (qr [qm 69 6,qa 70 (.iad 1 (qt 69) (qi 1)),qa 71 (ql 70),qa 72 (.bin .neq (qt 71) (qs []))]
 (qC 72
 (.reg [qm 73 6,qa 74 (.iad 1 (qt 73) (qi 1)),qa 75 (ql 74),qa 76 (qc 25 [qt 75,(qs [44])]),qa 77 (qf 3 14),qo 1 77 76])
 .skip))
 (.seq (qr [qa 78 (qL 5 14),qa 79 (qc 14 [qt 78]),qa 80 (q3 .neq 79 0)]
 (qC 80
 (qr [qa 81 (.build [.x (.str []),.x (.str []),.x (.str []),.x .nils,.x (.int .i64 (0))] []),qo 5 2 81,qa 3 (.mv (qi 5))]
 .ret)
 .skip))
 (qr [qa 82 (qL 5 14),qo 5 2 82,qa 3 (.mv (qi 0))]
 .ret))))))))))))⟩
def i12:IFn:=⟨38,[.tmp 4],(qr [qa 2 (.box (qt 0)),qa 3 (.box (qt 1)),qa 4 (.mv (qb false))]
 (qr [qa 5 (qf 0 2),qa 6 (ql 5),qa 7 (qf 0 3),qa 8 (ql 7),qa 9 (q2 .eql 6 8),qm 10 9,qT 11 (qf 1 2) 10,qT 12 (ql 11) 10,qT 13 (qf 1 3) 10,qT 14 (ql 13) 10,qT 15 (q2 .eql 12 14) 10,qa 16 (qP 10 15),qm 17 16,qT 18 (qf 4 2) 17,qT 19 (ql 18) 17,qT 20 (qf 4 3) 17,qT 21 (ql 20) 17,qT 22 (q2 .eql 19 21) 17,qa 23 (qP 17 22),qm 24 23,qT 25 (qf 2 2) 24,qT 26 (ql 25) 24,qT 27 (qf 2 3) 24,qT 28 (ql 27) 24,qT 29 (q2 .eql 26 28) 24,qa 30 (qP 24 29),qm 31 30,qT 32 (qf 3 2) 31,qT 33 (ql 32) 31,qT 34 (qf 3 3) 31,qT 35 (ql 34) 31,qT 36 (qc 13 [qt 33,qt 35]) 31,qa 37 (qP 31 36),qm 4 37]
 .ret))⟩
def i13:IFn:=⟨26,[.tmp 4],(qr [qa 4 (.mv (qb false))]
 (.seq (qr [qm 6 0,qa 7 (qk false 6),qm 8 1,qa 9 (qk false 8),qa 10 (q2 .neq 7 9)]
 (qC 10
 (qr [qa 4 (.mv (qb false))]
 .ret)
 .skip))
 (.seq (qr [qa 5 (.mv (qi 0))]
 (.block 0
 (.loop
 (.seq (qr [qm 11 5,qm 12 0,qa 13 (qk false 12),qa 14 (q2 .lss 11 13)]
 (qC 14
 .skip
 (.exit 0)))
 (.seq (.block 1
 (.seq (.dreg 8 [] [qm 17 0,qm 18 5,qa 19 (qy 1 17 18),qa 20 (ql 19),qm 21 1,qm 22 5,qa 23 (qy 1 21 22),qa 24 (ql 23),qa 25 (q2 .neq 20 24)])
 (qC 25
 (qr [qa 4 (.mv (qb false))]
 .ret)
 .skip)))
 (.reg [qm 15 5,qa 16 (q3 .add 15 1),qm 5 16]))))))
 (qr [qa 4 (.mv (qb true))]
 .ret))))⟩
def i14:IFn:=⟨51,[.tmp 2],(qr [qa 1 (.box (qt 0)),qa 2 (.mv (qi 0))]
 (.seq (.block 0
 (qr [qa 6 (qf 0 1),qa 7 (ql 6),qa 8 (qk true 7),qa 9 (q3 .gtr 8 255),qm 10 9,qF 11 (qf 1 1) 10,qF 12 (ql 11) 10,qF 13 (qk true 12) 10,qF 14 (q3 .gtr 13 4096) 10,qa 15 (qp 10 14),qm 16 15,qF 17 (qf 3 1) 16,qF 18 (ql 17) 16,qF 19 (qk false 18) 16,qF 20 (q3 .gtr 19 64) 16,qa 21 (qp 16 20),qm 5 21]
 (qC 5
 (qr [qa 2 (.mv (qi 3))]
 .ret)
 (qr [qa 23 (qf 0 1),qa 24 (ql 23),qa 25 (qc 29 [qt 24]),qa 26 (qz 25),qm 22 26]
 (qC 22
 (qr [qa 2 (.mv (qi 5))]
 .ret)
 (qr [qa 28 (qL 5 1),qa 29 (qc 30 [qt 28]),qa 30 (qz 29),qm 27 30]
 (qC 27
 (qr [qa 2 (.mv (qi 13))]
 .ret)
 (qr [qa 32 (qf 4 1),qa 33 (ql 32),qa 34 (q3 .lss 33 0),qm 35 34,qF 36 (qf 4 1) 35,qF 37 (ql 36) 35,qF 38 (q3 .gtr 37 2) 35,qa 39 (qp 35 38),qm 31 39]
 (qC 31
 (qr [qa 2 (.mv (qi 2))]
 .ret)
 (qr [qa 41 (qf 2 1),qa 42 (ql 41),qa 43 (.bin .eql (qt 42) (qs [])),qm 40 43]
 (qC 40
 (qr [qa 2 (.mv (qi 0))]
 .ret)
 .skip)))))))))))
 (qr [qa 45 (qf 2 1),qa 46 (ql 45),qa 47 (qc 31 [qt 46]),qm 44 47,qe 48 44 0,qe 49 44 1,qa 3 (.box (.c (.agg [.x (.int .i64 (0)),.x (.str []),.x (.str []),.x (.str []),.x .nils,.x (.str []),.x .nils]))),qo 7 3 48,qm 4 49]
 (qr [qm 50 4,qm 2 50]
 .ret))))⟩
def i16:IFn:=⟨2,[.cell 0 3 true],(qr [qa 0 (.abx 38 (.c (.agg [.x (.str []),.x (.str []),.x (.str [])])))]
 (qr [qa 1 (.build [.x (.str []),.x (.str []),.x (.str [])] [(0,1,(qs [98,97,115,101])),(1,1,(qs [111,110,101])),(2,1,(qs [115,117,98]))]),qo 3 0 1]
 .ret))⟩
def i17:IFn:=⟨49,[.tmp 2],(qr [qa 2 (.mv (qb false))]
 (.seq (qr [qa 3 (.mv (qi 0))]
 (.block 0
 (.loop
 (.seq (qr [qm 5 3,qm 6 0,qa 7 (qk true 6),qa 8 (q2 .lss 5 7)]
 (qC 8
 .skip
 (.exit 0)))
 (.seq (.block 1
 (qr [qm 11 0,qm 12 3,qa 13 (qx 11 12),qm 4 13]
 (qr [qm 14 4,qa 15 (q8 .geq 14 65),qm 16 15,qh 17 4 16,qT 18 (q8 .leq 17 90) 16,qa 19 (qP 16 18),qm 20 19,qj 21 4 20,qF 22 (q8 .geq 21 97) 20,qj 23 22 20,qh 24 4 23,qT 25 (q8 .leq 24 122) 23,qF 26 (qP 23 25) 20,qa 27 (qp 20 26),qm 28 27,qj 29 4 28,qF 30 (q8 .geq 29 48) 28,qj 31 30 28,qh 32 4 31,qT 33 (q8 .leq 32 57) 31,qF 34 (qP 31 33) 28,qa 35 (qp 28 34),qm 36 35,qj 37 4 36,qF 38 (q8 .eql 37 46) 36,qa 39 (qp 36 38),qm 40 39,qj 41 4 40,qF 42 (q8 .eql 41 45) 40,qa 43 (qp 40 42),qm 44 43,qj 45 4 44,qF 46 (q8 .eql 45 58) 44,qa 47 (qp 44 46),qa 48 (qz 47)]
 (qC 48
 (qr [qa 2 (.mv (qb false))]
 .ret)
 .skip))))
 (.reg [qm 9 3,qa 10 (q3 .add 9 1),qm 3 10]))))))
 (qr [qa 2 (.mv (qb true))]
 .ret)))⟩
def i18:IFn:=⟨74,[.tmp 2,.tmp 3],(qr [qa 2 (.mv (.c (.x .nils))),qa 3 (.mv (qi 0))]
 (.seq (qr [qm 14 0,qa 15 (qk true 14),qa 16 (q3 .gtr 15 4096)]
 (qC 16
 (qr [qa 2 (.mv (.c (.x .nils))),qa 3 (.mv (qi 3))]
 .ret)
 .skip))
 (.seq (qr [qm 17 0,qa 18 (.bin .eql (qt 17) (qs []))]
 (qC 18
 (qr [qa 2 (.mv (.c (.x .nils))),qa 3 (.mv (qi 0))]
 .ret)
 .skip))
 (qr [qa 4 (.mv (.c (.x .nils)))]
 (qr [qa 5 (.mv (qb false))]
 (qr [qm 19 0,qa 20 (qc 35 [qt 19,(.c (.x (.int .u8 (44))))]),qm 6 20]
 (.seq (qr [qa 7 (.mv (qi 0))]
 (.block 0
 (.loop
 (.seq (qr [qm 21 7,qm 22 6,qa 23 (qk false 22),qa 24 (q2 .lss 21 23)]
 (qC 24
 .skip
 (.exit 0)))
 (.seq (.block 1
 (qr [qm 27 6,qm 28 7,qa 29 (qy 1 27 28),qa 30 (ql 29),qa 31 (qc 35 [qt 30,(.c (.x (.int .u8 (43))))]),qm 8 31]
 (qr [qa 9 (.mv (.c (.x .nils)))]
 (.seq (qr [qa 10 (.mv (qi 0))]
 (.block 2
 (.loop
 (.seq (qr [qm 32 10,qm 33 8,qa 34 (qk false 33),qa 35 (q2 .lss 32 34)]
 (qC 35
 .skip
 (.exit 2)))
 (.seq (.block 3
 (qr [qm 39 8,qm 40 10,qa 41 (qy 1 39 40),qa 42 (ql 41),qa 43 (qc 36 [qt 42]),qm 38 43,qe 44 38 0,qe 45 38 1,qa 11 (.box (.c (.agg [.x (.str []),.x (.str [])]))),qo 2 11 44,qm 12 45]
 (.seq (qr [qm 46 12,qa 47 (qz 46)]
 (qC 47
 (qr [qa 2 (.mv (.c (.x .nils))),qa 3 (.mv (qi 5))]
 .ret)
 .skip))
 (.reg [qm 48 9,qa 49 (qL 2 11),qa 50 (.bsl 77 2 1 [qt 49]),qa 51 (.app 77 2 32 (qt 48) (qt 50)),qm 9 51]))))
 (.reg [qm 36 10,qa 37 (q3 .add 36 1),qm 10 37]))))))
 (qr [qm 52 5,qm 53 52,qj 54 9 53,qF 55 (qk false 54) 53,qF 56 (q3 .gtr 55 8) 53,qa 57 (qp 53 56),qm 5 57]
 (.reg [qm 58 4,qm 59 9,qa 60 (.bsl 75 1 1 [qt 59]),qa 61 (.app 75 1 24 (qt 58) (qt 60)),qm 4 61]))))))
 (.reg [qm 25 7,qa 26 (q3 .add 25 1),qm 7 26]))))))
 (.seq (qr [qm 62 5,qm 63 62,qj 64 4 63,qF 65 (qk false 64) 63,qF 66 (q3 .gtr 65 32) 63,qa 67 (qp 63 66)]
 (qC 67
 (qr [qa 2 (.mv (.c (.x .nils))),qa 3 (.mv (qi 3))]
 .ret)
 .skip))
 (.seq (qr [qm 68 4,qa 69 (qc 37 [qt 68]),qm 13 69]
 (qr [qm 70 13,qa 71 (q3 .neq 70 0)]
 (qC 71
 (qr [qm 72 13,qa 2 (.mv (.c (.x .nils))),qm 3 72]
 .ret)
 .skip)))
 (qr [qm 73 4,qm 2 73,qa 3 (.mv (qi 0))]
 .ret))))))))))⟩
def i19:IFn:=⟨56,[.tmp 2],(qr [qa 2 (.mv (qb false))]
 (.seq (qr [qa 3 (.mv (qi 0))]
 (.block 0
 (.loop
 (.seq (qr [qm 6 3,qm 7 0,qa 8 (qk true 7),qa 9 (q2 .lss 6 8)]
 (qC 9
 .skip
 (.exit 0)))
 (.seq (.block 1
 (qr [qm 12 0,qm 13 3,qa 14 (qx 12 13),qm 4 14]
 (qr [qm 15 4,qa 16 (q8 .geq 15 97),qm 17 16,qh 18 4 17,qT 19 (q8 .leq 18 122) 17,qa 20 (qP 17 19),qm 21 20,qj 22 4 21,qF 23 (q8 .geq 22 65) 21,qj 24 23 21,qh 25 4 24,qT 26 (q8 .leq 25 90) 24,qF 27 (qP 24 26) 21,qa 28 (qp 21 27),qm 5 28]
 (qr [qm 29 5,qa 30 (qz 29),qm 31 30,qh 32 3 31,qT 33 (q3 .eql 32 0) 31,qh 34 33 31,qj 35 4 34,qF 36 (q8 .geq 35 48) 34,qj 37 36 34,qh 38 4 37,qT 39 (q8 .leq 38 57) 37,qF 40 (qP 37 39) 34,qj 41 40 34,qj 42 4 41,qF 43 (q8 .eql 42 45) 41,qF 44 (qp 41 43) 34,qF 45 (qz 44) 34,qT 46 (qp 34 45) 31,qa 47 (qP 31 46)]
 (qC 47
 (qr [qa 2 (.mv (qb false))]
 .ret)
 .skip)))))
 (.reg [qm 10 3,qa 11 (q3 .add 10 1),qm 3 11]))))))
 (qr [qm 48 0,qa 49 (qk true 48),qa 50 (q3 .geq 49 1),qm 51 50,qh 52 0 51,qT 53 (qk true 52) 51,qT 54 (q3 .leq 53 64) 51,qa 55 (qP 51 54),qm 2 55]
 .ret)))⟩
def i20:IFn:=⟨41,[.cell 2 7 true,.tmp 3],(qr [qa 2 (.box (.c (.agg [.x (.int .i64 (0)),.x (.str []),.x (.str []),.x (.str []),.x .nils,.x (.str []),.x .nils]))),qa 3 (.mv (qi 0))]
 (.seq (qr [qm 9 0,qa 10 (qk true 9),qa 11 (q3 .gtr 10 4096)]
 (qC 11
 (qr [qa 12 (.build [.x (.int .i64 (0)),.x (.str []),.x (.str []),.x (.str []),.x .nils,.x (.str []),.x .nils] []),qo 7 2 12,qa 3 (.mv (qi 3))]
 .ret)
 .skip))
 (qr [qm 14 0,qa 15 (qc 38 [qt 14,qi 20]),qm 13 15,qe 16 13 0,qe 17 13 1,qe 18 13 2,qa 4 (.box (.c (.agg [.x (.int .i64 (0)),.x (.str []),.x (.str []),.x (.str []),.x .nils,.x (.str []),.x .nils]))),qo 7 4 16,qm 5 17,qm 6 18]
 (qr [qa 20 (qL 7 4),qa 21 (qc 39 [qt 20]),qm 19 21,qe 22 19 0,qe 23 19 1,qm 7 22,qm 8 23]
 (.seq (qr [qm 24 6,qa 25 (qz 24),qm 26 25,qj 27 5 26,qF 28 (.bin .neq (qt 27) (qs [])) 26,qa 29 (qp 26 28),qm 30 29,qj 31 8 30,qF 32 (q3 .neq 31 0) 30,qa 33 (qp 30 32),qm 34 33,qj 35 7 34,qj 36 0 34,qF 37 (q2 .neq 35 36) 34,qa 38 (qp 34 37)]
 (qC 38
 (qr [qa 39 (.build [.x (.int .i64 (0)),.x (.str []),.x (.str []),.x (.str []),.x .nils,.x (.str []),.x .nils] []),qo 7 2 39,qa 3 (.mv (qi 5))]
 .ret)
 .skip))
 (qr [qa 40 (qL 7 4),qo 7 2 40,qa 3 (.mv (qi 0))]
 .ret))))))⟩
def i21:IFn:=⟨25,[.tmp 2],(qr [qa 2 (.mv (qb false))]
 (qr [qm 3 0,qa 4 (q8 .geq 3 65),qm 5 4,qh 6 0 5,qT 7 (q8 .leq 6 90) 5,qa 8 (qP 5 7),qm 9 8,qj 10 0 9,qF 11 (q8 .geq 10 97) 9,qj 12 11 9,qh 13 0 12,qT 14 (q8 .leq 13 122) 12,qF 15 (qP 12 14) 9,qa 16 (qp 9 15),qm 17 16,qj 18 0 17,qF 19 (q8 .geq 18 48) 17,qj 20 19 17,qh 21 0 20,qT 22 (q8 .leq 21 57) 20,qF 23 (qP 20 22) 17,qa 24 (qp 17 23),qm 2 24]
 .ret))⟩
def i22:IFn:=⟨16,[.tmp 4],(qr [qa 4 (.mv (qb false))]
 (.seq (qr [qm 7 0,qa 8 (.rgs (qt 7))]
 (.block 0
 (.loop
 (qr [qa 9 (.nxt true (qt 8)),qe 10 9 0]
 (.seq (qC 10
 .skip
 (.exit 0))
 (.block 1
 (qr [qe 11 9 2,qm 6 11]
 (qr [qm 12 6,qm 13 1,qa 14 (.cvi .i32 (qt 13)),qa 15 (q2 .eql 12 14)]
 (qC 15
 (qr [qa 4 (.mv (qb true))]
 .ret)
 .skip)))))))))
 (qr [qa 4 (.mv (qb false))]
 .ret)))⟩
def i23:IFn:=⟨38,[.tmp 2],(qr [qa 2 (.mv (qb false))]
 (.seq (qr [qm 5 0,qa 6 (q8 .geq 5 65),qm 7 6,qh 8 0 7,qT 9 (q8 .leq 8 90) 7,qa 10 (qP 7 9),qm 11 10,qj 12 0 11,qF 13 (q8 .geq 12 97) 11,qj 14 13 11,qh 15 0 14,qT 16 (q8 .leq 15 122) 14,qF 17 (qP 14 16) 11,qa 18 (qp 11 17),qm 19 18,qj 20 0 19,qF 21 (q8 .geq 20 48) 19,qj 22 21 19,qh 23 0 22,qT 24 (q8 .leq 23 57) 22,qF 25 (qP 22 24) 19,qa 26 (qp 19 25)]
 (qC 26
 (qr [qa 2 (.mv (qb true))]
 .ret)
 .skip))
 (qr [qa 3 (.mv (qs [45,46,95,126,44,61,42,40,41,43,38,33,124]))]
 (.seq (qr [qa 4 (.mv (qi 0))]
 (.block 0
 (.loop
 (.seq (qr [qm 27 4,qm 28 3,qa 29 (qk true 28),qa 30 (q2 .lss 27 29)]
 (qC 30
 .skip
 (.exit 0)))
 (.seq (.block 1
 (qr [qm 33 3,qm 34 4,qa 35 (qx 33 34),qm 36 0,qa 37 (q2 .eql 35 36)]
 (qC 37
 (qr [qa 2 (.mv (qb true))]
 .ret)
 .skip)))
 (.reg [qm 31 4,qa 32 (q3 .add 31 1),qm 4 32]))))))
 (qr [qa 2 (.mv (qb false))]
 .ret)))))⟩
def i27:IFn:=⟨69,[.tmp 2,.tmp 3],(qr [qa 2 (.mv (qs [])),qa 3 (.mv (qb false))]
 (qr [qa 4 (.mv (.c (.x .nils)))]
 (.seq (qr [qa 5 (.mv (qi 0))]
 (.block 0
 (.loop
 (.seq (qr [qm 10 5,qm 11 0,qa 12 (qk true 11),qa 13 (q2 .lss 10 12)]
 (qC 13
 .skip
 (.exit 0)))
 (.seq (.block 1
 (.seq (qr [qm 16 0,qm 17 5,qa 18 (qx 16 17),qa 19 (q8 .neq 18 37)]
 (qC 19
 (qr [qm 20 4,qm 21 0,qm 22 5,qa 23 (qx 21 22),qa 24 (.bsl 5 1 1 [qt 23]),qa 25 (.app 5 1 1 (qt 20) (qt 24)),qm 4 25]
 (.exit 1))
 .skip))
 (.seq (qr [qm 26 0,qa 27 (qk true 26),qm 28 5,qa 29 (q2 .sub 27 28),qa 30 (q3 .lss 29 3)]
 (qC 30
 (qr [qa 2 (.mv (qs [])),qa 3 (.mv (qb false))]
 .ret)
 .skip))
 (qr [qm 32 0,qm 33 5,qa 34 (q3 .add 33 1),qa 35 (qx 32 34),qa 36 (qc 43 [qt 35]),qm 31 36,qe 37 31 0,qe 38 31 1,qm 6 37,qm 7 38]
 (qr [qm 40 0,qm 41 5,qa 42 (q3 .add 41 2),qa 43 (qx 40 42),qa 44 (qc 43 [qt 43]),qm 39 44,qe 45 39 0,qe 46 39 1,qm 8 45,qm 9 46]
 (.seq (qr [qm 47 7,qa 48 (qz 47),qm 49 48,qj 50 9 49,qF 51 (qz 50) 49,qa 52 (qp 49 51)]
 (qC 52
 (qr [qa 2 (.mv (qs [])),qa 3 (.mv (qb false))]
 .ret)
 .skip))
 (qr [qm 53 4,qm 54 6,qa 55 (.bin .shl (qt 54) (.c (.x (.int .u64 (4))))),qm 56 8,qa 57 (q2 .or 55 56),qa 58 (.bsl 5 1 1 [qt 57]),qa 59 (.app 5 1 1 (qt 53) (qt 58)),qm 4 59]
 (.reg [qm 60 5,qa 61 (q3 .add 60 2),qm 5 61]))))))))
 (.reg [qm 14 5,qa 15 (q3 .add 14 1),qm 5 15]))))))
 (.seq (.dreg 5 [] [qm 62 4,qa 63 (.b2s (qt 62)),qm 64 4,qa 65 (.b2s (qt 64)),qa 66 (qc 9 [qt 65]),qm 67 0,qa 68 (q2 .eql 66 67),qm 2 63,qm 3 68])
 .ret))))⟩
def i28:IFn:=⟨15,[.tmp 2],(qr [qa 2 (.mv (qi 0))]
 (.seq (qr [qa 5 (qc 16 []),qa 6 (.mv (qi 0))]
 (.block 0
 (.loop
 (qr [qa 7 (q3 .lss 6 3)]
 (.seq (qC 7
 .skip
 (.exit 0))
 (.seq (.block 1
 (qr [qm 8 6,qa 9 (.idxa 1 3 false (qt 5) (qt 6)),qm 3 8,qm 4 9]
 (qr [qm 10 4,qm 11 0,qa 12 (q2 .eql 10 11)]
 (qC 12
 (qr [qm 13 3,qm 2 13]
 .ret)
 .skip))))
 (.reg [qa 14 (q3 .add 6 1),qm 6 14])))))))
 (qr [qa 2 (.mv (qi (-1)))]
 .ret)))⟩
def i29:IFn:=⟨21,[.tmp 2],(qr [qa 2 (.mv (qb false))]
 (.seq (qr [qm 5 0,qa 6 (.s2b 5 (qt 5)),qa 7 (qk false 6),qa 8 (.mv (qi 0))]
 (.block 0
 (.loop
 (qr [qa 9 (q2 .lss 8 7)]
 (.seq (qC 9
 .skip
 (.exit 0))
 (.seq (.block 1
 (qr [qa 10 (qy 1 6 8),qa 11 (ql 10),qm 4 11]
 (qr [qm 12 4,qa 13 (qc 21 [qt 12]),qa 14 (qz 13),qm 15 14,qh 16 4 15,qT 17 (qc 22 [(qs [46,45,58]),qt 16]) 15,qT 18 (qz 17) 15,qa 19 (qP 15 18)]
 (qC 19
 (qr [qa 2 (.mv (qb false))]
 .ret)
 .skip))))
 (.reg [qa 20 (q3 .add 8 1),qm 8 20])))))))
 (qr [qa 2 (.mv (qb true))]
 .ret)))⟩
def i30:IFn:=⟨30,[.tmp 2],(qr [qa 1 (.box (qt 0)),qa 2 (.mv (qb false))]
 (qr [qa 9 (qf 1 1),qa 10 (ql 9),qa 11 (qc 44 [qt 10]),qm 8 11,qe 12 8 0,qe 13 8 1,qm 3 12,qm 4 13]
 (qr [qm 14 4,qa 15 (q3 .eql 14 0),qm 5 15]
 (.seq (qr [qa 16 (qf 3 1),qa 17 (ql 16),qa 18 (qk false 17),qa 19 (.mv (qi 0))]
 (.block 0
 (.loop
 (qr [qa 20 (q2 .lss 19 18)]
 (.seq (qC 20
 .skip
 (.exit 0))
 (.seq (.block 1
 (qr [qa 21 (qy 1 17 19),qa 22 (ql 21),qm 7 22]
 (.reg [qm 23 5,qm 24 23,qh 25 7 24,qT 26 (qc 45 [qt 25]) 24,qa 27 (qP 24 26),qm 5 27])))
 (.reg [qa 28 (q3 .add 19 1),qm 19 28])))))))
 (qr [qm 29 5,qm 2 29]
 .ret)))))⟩
def i31:IFn:=⟨30,[.cell 2 7 true,.tmp 3],(qr [qa 2 (.box (.c (.agg [.x (.int .i64 (0)),.x (.str []),.x (.str []),.x (.str []),.x .nils,.x (.str []),.x .nils]))),qa 3 (.mv (qi 0))]
 (.seq (qr [qm 7 0,qa 8 (qk true 7),qa 9 (q3 .gtr 8 4096)]
 (qC 9
 (qr [qa 10 (.build [.x (.int .i64 (0)),.x (.str []),.x (.str []),.x (.str []),.x .nils,.x (.str []),.x .nils] []),qo 7 2 10,qa 3 (.mv (qi 3))]
 .ret)
 .skip))
 (qr [qm 12 0,qa 13 (qc 46 [qt 12,qi 20]),qm 11 13,qe 14 11 0,qe 15 11 1,qe 16 11 2,qa 4 (.box (.c (.agg [.x (.int .i64 (0)),.x (.str []),.x (.str []),.x (.str []),.x .nils,.x (.str []),.x .nils]))),qo 7 4 14,qm 5 15,qm 6 16]
 (.seq (qr [qm 17 6,qa 18 (qz 17),qm 19 18,qj 20 5 19,qF 21 (.bin .neq (qt 20) (qs [])) 19,qa 22 (qp 19 21),qm 23 22,qF 24 (qL 7 4) 23,qF 25 (qc 47 [qt 24]) 23,qF 26 (q3 .neq 25 0) 23,qa 27 (qp 23 26)]
 (qC 27
 (qr [qa 28 (.build [.x (.int .i64 (0)),.x (.str []),.x (.str []),.x (.str []),.x .nils,.x (.str []),.x .nils] []),qo 7 2 28,qa 3 (.mv (qi 5))]
 .ret)
 .skip))
 (qr [qa 29 (qL 7 4),qo 7 2 29,qa 3 (.mv (qi 0))]
 .ret)))))⟩
def i32:IFn:=⟨25,[],(qr [qm 4 0,qa 5 (qc 48 [qt 4])]
 (.seq (qr [qm 6 1,qa 7 (q3 .lss 6 0)]
 (qC 7
 .dead
 .skip))
 (.seq .dead
 (qC 21
 (.reg [qm 22 0,qm 23 1,qa 24 (qc 49 [qt 22,qt 23])])
 .skip))))⟩
def i35:IFn:=⟨40,[.tmp 4],(qr [qa 4 (.mv (.c (.x .nils)))]
 (qr [qa 5 (.mv (.c (.x .nils)))]
 (qr [qa 6 (.mv (qi 0))]
 (.seq (qr [qa 7 (.mv (qi 0))]
 (.block 0
 (.loop
 (.seq (qr [qm 8 7,qm 9 0,qa 10 (qk true 9),qa 11 (q2 .lss 8 10)]
 (qC 11
 .skip
 (.exit 0)))
 (.seq (.block 1
 (qr [qm 14 0,qm 15 7,qa 16 (qx 14 15),qa 17 (q8 .eql 16 92)]
 (qC 17
 (.reg [qm 18 7,qa 19 (q3 .add 18 1),qm 7 19])
 (qr [qm 20 0,qm 21 7,qa 22 (qx 20 21),qm 23 1,qa 24 (q2 .eql 22 23)]
 (qC 24
 (qr [qm 25 5,qm 26 0,qm 27 6,qm 28 7,qa 29 (.slc 0 (qt 26) (some (qt 27)) (some (qt 28)) none),qa 30 (.bsl 9 1 1 [qt 29]),qa 31 (.app 9 1 16 (qt 25) (qt 30)),qm 5 31]
 (.reg [qm 32 7,qa 33 (q3 .add 32 1),qm 6 33]))
 .skip)))))
 (.reg [qm 12 7,qa 13 (q3 .add 12 1),qm 7 13]))))))
 (qr [qm 34 5,qm 35 0,qm 36 6,qa 37 (.slc 0 (qt 35) (some (qt 36)) none none),qa 38 (.bsl 9 1 1 [qt 37]),qa 39 (.app 9 1 16 (qt 34) (qt 38)),qm 4 39]
 .ret)))))⟩
def i36:IFn:=⟨51,[.cell 2 2 true,.tmp 3],(qr [qa 2 (.box (.c (.agg [.x (.str []),.x (.str [])]))),qa 3 (.mv (qb false))]
 (qr [qa 4 (.mv (qi 0))]
 (.seq (.block 0
 (.loop
 (.seq (qr [qm 7 4,qm 8 0,qa 9 (qk true 8),qa 10 (q2 .lss 7 9),qm 11 10,qh 12 0 11,qh 13 4 11,qT 14 (qx 12 13) 11,qT 15 (q8 .neq 14 61) 11,qa 16 (qP 11 15)]
 (qC 16
 .skip
 (.exit 0)))
 (.block 1
 (.reg [qm 17 4,qa 18 (q3 .add 17 1),qm 4 18])))))
 (.seq (qr [qm 19 4,qm 20 0,qa 21 (qk true 20),qa 22 (q2 .eql 19 21),qm 23 22,qj 24 0 23,qj 25 4 23,qg 26 (.slc 0 (qt 24) none (some (qt 25)) none) 23 false,qF 27 (qc 50 [qt 26]) 23,qF 28 (qc 19 [qt 27]) 23,qF 29 (qz 28) 23,qa 30 (qp 23 29)]
 (qC 30
 (qr [qa 31 (.build [.x (.str []),.x (.str [])] []),qo 2 2 31,qa 3 (.mv (qb false))]
 .ret)
 .skip))
 (qr [qm 33 0,qm 34 4,qa 35 (q3 .add 34 1),qa 36 (.slc 0 (qt 33) (some (qt 35)) none none),qa 37 (qc 51 [qt 36]),qm 32 37,qe 38 32 0,qe 39 32 1,qm 5 38,qm 6 39]
 (qr [qm 40 0,qm 41 4,qa 42 (.slc 0 (qt 40) none (some (qt 41)) none),qa 43 (qc 50 [qt 42]),qm 44 5,qa 45 (.build [.x (.str []),.x (.str [])] [(0,1,(qt 43)),(1,1,(qt 44))]),qm 46 6,qm 47 46,qh 48 5 47,qT 49 (.bin .neq (qt 48) (qs [])) 47,qa 50 (qP 47 49),qo 2 2 45,qm 3 50]
 .ret))))))⟩
def i37:IFn:=⟨80,[.tmp 2],(qr [qa 2 (.mv (qi 0))]
 (.seq (qr [qm 7 0,qa 8 (qk false 7),qa 9 (q3 .gtr 8 32)]
 (qC 9
 (qr [qa 2 (.mv (qi 3))]
 .ret)
 .skip))
 (.seq (qr [qa 3 (.mv (qi 0))]
 (.block 0
 (.loop
 (.seq (qr [qm 10 3,qm 11 0,qa 12 (qk false 11),qa 13 (q2 .lss 10 12)]
 (qC 13
 .skip
 (.exit 0)))
 (.seq (.block 1
 (.seq (qr [qm 16 0,qm 17 3,qa 18 (qy 1 16 17),qa 19 (ql 18),qa 20 (qk false 19),qa 21 (q3 .lss 20 1),qm 22 21,qj 23 0 22,qj 24 3 22,qF 25 (qy 1 23 24) 22,qF 26 (ql 25) 22,qF 27 (qk false 26) 22,qF 28 (q3 .gtr 27 8) 22,qa 29 (qp 22 28)]
 (qC 29
 (qr [qa 2 (.mv (qi 5))]
 .ret)
 .skip))
 (qr [qa 4 (.mv (qi 0))]
 (.block 2
 (.loop
 (.seq (qr [qm 30 4,qm 31 0,qm 32 3,qa 33 (qy 1 31 32),qa 34 (ql 33),qa 35 (qk false 34),qa 36 (q2 .lss 30 35)]
 (qC 36
 .skip
 (.exit 2)))
 (.seq (.block 3
 (qr [qm 39 0,qm 40 3,qa 41 (qy 1 39 40),qa 42 (ql 41),qm 43 4,qa 44 (qy 2 42 43),qa 45 (qL 2 44),qa 5 (.box (.c (.agg [.x (.str []),.x (.str [])]))),qo 2 5 45]
 (.seq (qr [qa 46 (qf 0 5),qa 47 (ql 46),qa 48 (qc 19 [qt 47]),qa 49 (qz 48),qm 50 49,qF 51 (qf 1 5) 50,qF 52 (ql 51) 50,qF 53 (qk true 52) 50,qF 54 (q3 .lss 53 1) 50,qa 55 (qp 50 54),qm 56 55,qF 57 (qf 1 5) 56,qF 58 (ql 57) 56,qF 59 (qk true 58) 56,qF 60 (q3 .gtr 59 256) 56,qa 61 (qp 56 60)]
 (qC 61
 (qr [qa 2 (.mv (qi 5))]
 .ret)
 .skip))
 (qr [qa 6 (.mv (qi 0))]
 (.block 4
 (.loop
 (.seq (qr [qm 62 6,qm 63 4,qa 64 (q2 .lss 62 63)]
 (qC 64
 .skip
 (.exit 4)))
 (.seq (.block 5
 (.seq (.dreg 11 [] [qm 67 0,qm 68 3,qa 69 (qy 1 67 68),qa 70 (ql 69),qm 71 6,qa 72 (qy 2 70 71),qa 73 (qf 0 72),qa 74 (ql 73),qa 75 (qc 52 [qt 74]),qa 76 (qf 0 5),qa 77 (ql 76),qa 78 (qc 52 [qt 77]),qa 79 (q2 .eql 75 78)])
 (qC 79
 (qr [qa 2 (.mv (qi 5))]
 .ret)
 .skip)))
 (.reg [qm 65 6,qa 66 (q3 .add 65 1),qm 6 66])))))))))
 (.reg [qm 37 4,qa 38 (q3 .add 37 1),qm 4 38]))))))))
 (.reg [qm 14 3,qa 15 (q3 .add 14 1),qm 3 15]))))))
 (qr [qa 2 (.mv (qi 0))]
 .ret))))⟩
def i38:IFn:=⟨117,[.cell 4 7 true,.tmp 5,.tmp 6],(qr [qa 4 (.box (.c (.agg [.x (.int .i64 (0)),.x (.str []),.x (.str []),.x (.str []),.x .nils,.x (.str []),.x .nils]))),qa 5 (.mv (qs [])),qa 6 (.mv (qb false))]
 (.seq (qr [qm 13 0,qa 14 (qk true 13),qa 15 (q3 .lss 14 2),qm 16 15,qj 17 0 16,qF 18 (.idx (qt 17) (qi 0)) 16,qF 19 (q8 .neq 18 40) 16,qa 20 (qp 16 19),qm 21 20,qj 22 1 21,qF 23 (q3 .lss 22 1) 21,qa 24 (qp 21 23)]
 (qC 24
 (qr [qa 25 (.build [.x (.int .i64 (0)),.x (.str []),.x (.str []),.x (.str []),.x .nils,.x (.str []),.x .nils] []),qm 26 0,qo 7 4 25,qm 5 26,qa 6 (.mv (qb false))]
 .ret)
 .skip))
 (qr [qa 7 (.mv (qi (-1)))]
 (.seq (qr [qm 27 0,qa 28 (.idx (qt 27) (qi 1))]
 (.block 0
 (qr [qa 30 (q8 .eql 28 38),qm 29 30]
 (qC 29
 (.reg [qa 7 (.mv (qi 0))])
 (qr [qa 32 (q8 .eql 28 124),qm 31 32]
 (qC 31
 (.reg [qa 7 (.mv (qi 1))])
 (qr [qa 34 (q8 .eql 28 33),qm 33 34]
 (qC 33
 (.reg [qa 7 (.mv (qi 2))])
 .skip))))))))
 (.seq (qr [qm 35 7,qa 36 (q3 .lss 35 0)]
 (qC 36
 (qr [qa 8 (.mv (qi 1))]
 (.seq (.block 1
 (.loop
 (.seq (qr [qm 37 8,qm 38 0,qa 39 (qk true 38),qa 40 (q2 .lss 37 39),qm 41 40,qh 42 0 41,qh 43 8 41,qT 44 (qx 42 43) 41,qT 45 (q8 .neq 44 41) 41,qa 46 (qP 41 45),qm 47 46,qh 48 0 47,qh 49 8 47,qT 50 (qx 48 49) 47,qT 51 (q8 .neq 50 40) 47,qa 52 (qP 47 51)]
 (qC 52
 .skip
 (.exit 1)))
 (.block 2
 (.reg [qm 53 8,qa 54 (q3 .add 53 1),qm 8 54])))))
 (.seq (qr [qm 55 8,qm 56 0,qa 57 (qk true 56),qa 58 (q2 .eql 55 57),qm 59 58,qj 60 0 59,qj 61 8 59,qF 62 (qx 60 61) 59,qF 63 (q8 .eql 62 40) 59,qa 64 (qp 59 63)]
 (qC 64
 (qr [qa 65 (.build [.x (.int .i64 (0)),.x (.str []),.x (.str []),.x (.str []),.x .nils,.x (.str []),.x .nils] []),qm 66 0,qo 7 4 65,qm 5 66,qa 6 (.mv (qb false))]
 .ret)
 .skip))
 (.seq (.dreg 0 [] [qm 67 0,qm 68 8,qa 69 (.slc 0 (qt 67) (some (qi 1)) (some (qt 68)) none),qa 70 (qc 53 [qt 69]),qm 71 0,qm 72 8,qa 73 (q3 .add 72 1),qa 74 (.slc 0 (qt 71) (some (qt 73)) none none),qo 7 4 70,qm 5 74,qa 6 (.mv (qb true))])
 .ret))))
 .skip))
 (qr [qm 75 7,qa 76 (.build [.x (.int .i64 (0)),.x (.str []),.x (.str []),.x (.str []),.x .nils,.x (.str []),.x .nils] [(0,1,(qt 75))]),qa 9 (.box (.c (.agg [.x (.int .i64 (0)),.x (.str []),.x (.str []),.x (.str []),.x .nils,.x (.str []),.x .nils]))),qo 7 9 76]
 (qr [qm 77 0,qa 78 (.slc 0 (qt 77) (some (qi 2)) none none),qm 0 78]
 (.seq (.block 3
 (.loop
 (.seq (qr [qm 79 0,qa 80 (.bin .neq (qt 79) (qs [])),qm 81 80,qh 82 0 81,qT 83 (.idx (qt 82) (qi 0)) 81,qT 84 (q8 .eql 83 40) 81,qa 85 (qP 81 84)]
 (qC 85
 .skip
 (.exit 3)))
 (.block 4
 (qr [qm 87 0,qm 88 1,qa 89 (q3 .sub 88 1),qa 90 (qc 38 [qt 87,qt 89]),qm 86 90,qe 91 86 0,qe 92 86 1,qe 93 86 2,qa 10 (.box (.c (.agg [.x (.int .i64 (0)),.x (.str []),.x (.str []),.x (.str []),.x .nils,.x (.str []),.x .nils]))),qo 7 10 91,qm 11 92,qm 12 93]
 (.seq (qr [qm 94 12,qa 95 (qz 94)]
 (qC 95
 (qr [qa 96 (.build [.x (.int .i64 (0)),.x (.str []),.x (.str []),.x (.str []),.x .nils,.x (.str []),.x .nils] []),qm 97 0,qo 7 4 96,qm 5 97,qa 6 (.mv (qb false))]
 .ret)
 .skip))
 (qr [qa 98 (qf 6 9),qa 99 (ql 98),qa 100 (qL 7 10),qa 101 (.bsl 49 7 1 [qt 100]),qa 102 (.app 49 7 120 (qt 99) (qt 101)),qa 103 (qf 6 9),qo 1 103 102]
 (.reg [qm 104 11,qm 0 104]))))))))
 (.seq (qr [qm 105 0,qa 106 (.bin .eql (qt 105) (qs [])),qm 107 106,qj 108 0 107,qF 109 (.idx (qt 108) (qi 0)) 107,qF 110 (q8 .neq 109 41) 107,qa 111 (qp 107 110)]
 (qC 111
 (qr [qa 112 (.build [.x (.int .i64 (0)),.x (.str []),.x (.str []),.x (.str []),.x .nils,.x (.str []),.x .nils] []),qm 113 0,qo 7 4 112,qm 5 113,qa 6 (.mv (qb false))]
 .ret)
 .skip))
 (.seq (.dreg 0 [] [qa 114 (qL 7 9),qm 115 0,qa 116 (.slc 0 (qt 115) (some (qi 1)) none none),qo 7 4 114,qm 5 116,qa 6 (.mv (qb true))])
 .ret))))))))))⟩
def i39:IFn:=⟨17,[.tmp 2,.tmp 3],(qr [qa 1 (.box (qt 0)),qa 2 (.mv (qs [])),qa 3 (.mv (qi 0))]
 (.seq (qr [qa 6 (qL 7 1),qa 7 (qc 54 [qt 6]),qm 4 7]
 (qr [qm 8 4,qa 9 (q3 .neq 8 0)]
 (qC 9
 (qr [qm 10 4,qa 2 (.mv (qs [])),qm 3 10]
 .ret)
 .skip)))
 (qr [qa 11 (qL 7 1),qa 12 (qc 55 [qt 11]),qm 5 12]
 (.seq (qr [qm 13 5,qa 14 (qk true 13),qa 15 (q3 .gtr 14 4096)]
 (qC 15
 (qr [qa 2 (.mv (qs [])),qa 3 (.mv (qi 3))]
 .ret)
 .skip))
 (qr [qm 16 5,qm 2 16,qa 3 (.mv (qi 0))]
 .ret)))))⟩
def i44:IFn:=⟨49,[.tmp 2,.tmp 3],(qr [qa 2 (.mv (.c (.x .nils))),qa 3 (.mv (qi 0))]
 (.seq (.block 0
 (qr [qm 12 0,qa 13 (qk true 12),qa 14 (q3 .gtr 13 4096),qm 11 14]
 (qC 11
 (qr [qa 2 (.mv (.c (.x .nils))),qa 3 (.mv (qi 3))]
 .ret)
 (qr [qm 16 0,qa 17 (.bin .eql (qt 16) (qs [])),qm 15 17]
 (qC 15
 (qr [qa 2 (.mv (.c (.x .nils))),qa 3 (.mv (qi 0))]
 .ret)
 .skip)))))
 (qr [qa 4 (.mv (.c (.x .nils)))]
 (qr [qa 5 (.mv (qi 0))]
 (.seq (qr [qm 18 0,qa 19 (qc 61 [qt 18,(.c (.x (.int .u8 (44))))]),qa 20 (qk false 19),qa 21 (.mv (qi 0))]
 (.block 1
 (.loop
 (qr [qa 22 (q2 .lss 21 20)]
 (.seq (qC 22
 .skip
 (.exit 1))
 (.seq (.block 2
 (qr [qa 23 (qy 1 19 21),qa 24 (ql 23),qm 7 24]
 (qr [qm 26 7,qa 27 (qc 62 [qt 26]),qm 25 27,qe 28 25 0,qe 29 25 1,qm 8 28,qm 9 29]
 (.seq (qr [qm 30 9,qa 31 (qz 30)]
 (qC 31
 (qr [qa 2 (.mv (.c (.x .nils))),qa 3 (.mv (qi 5))]
 .ret)
 .skip))
 (qr [qm 32 5,qm 33 8,qa 34 (qk false 33),qa 35 (.mnx true (qt 32) (qt 34)),qm 5 35]
 (.reg [qm 36 4,qm 37 8,qa 38 (.bsl 75 1 1 [qt 37]),qa 39 (.app 75 1 24 (qt 36) (qt 38)),qm 4 39]))))))
 (.reg [qa 40 (q3 .add 21 1),qm 21 40])))))))
 (.seq (qr [qm 41 5,qa 42 (q3 .gtr 41 8)]
 (qC 42
 (qr [qa 2 (.mv (.c (.x .nils))),qa 3 (.mv (qi 3))]
 .ret)
 .skip))
 (.seq (qr [qm 43 4,qa 44 (qc 63 [qt 43]),qm 10 44]
 (qr [qm 45 10,qa 46 (q3 .neq 45 0)]
 (qC 46
 (qr [qm 47 10,qa 2 (.mv (.c (.x .nils))),qm 3 47]
 .ret)
 .skip)))
 (qr [qm 48 4,qm 2 48,qa 3 (.mv (qi 0))]
 .ret))))))))⟩
def i45:IFn:=⟨51,[.tmp 2],(qr [qa 2 (.mv (qb false))]
 (qr [qm 7 0,qa 8 (.bin .neq (qt 7) (qs [])),qm 9 8,qh 10 0 9,qT 11 (qk true 10) 9,qT 12 (q3 .leq 11 64) 9,qa 13 (qP 9 12),qm 3 13]
 (.seq (qr [qm 14 0,qa 15 (qc 64 [qt 14]),qa 16 (.s2b 5 (qt 15)),qa 17 (qk false 16),qa 18 (.mv (qi 0))]
 (.block 0
 (.loop
 (qr [qa 19 (q2 .lss 18 17)]
 (.seq (qC 19
 .skip
 (.exit 0))
 (.seq (.block 1
 (qr [qm 20 18,qa 21 (qy 1 16 18),qa 22 (ql 21),qm 4 20,qm 5 22]
 (qr [qm 23 5,qa 24 (q8 .geq 23 97),qm 25 24,qh 26 5 25,qT 27 (q8 .leq 26 122) 25,qa 28 (qP 25 27),qm 6 28]
 (.reg [qm 29 3,qm 30 29,qh 31 6 30,qh 32 31 30,qj 33 4 32,qF 34 (q3 .gtr 33 0) 32,qj 35 34 32,qh 36 5 35,qT 37 (q8 .geq 36 48) 35,qh 38 37 35,qh 39 5 38,qT 40 (q8 .leq 39 57) 38,qT 41 (qP 38 40) 35,qh 42 41 35,qj 43 5 42,qF 44 (q8 .eql 43 45) 42,qT 45 (qp 42 44) 35,qF 46 (qP 35 45) 32,qT 47 (qp 32 46) 30,qa 48 (qP 30 47),qm 3 48]))))
 (.reg [qa 49 (q3 .add 18 1),qm 18 49])))))))
 (qr [qm 50 3,qm 2 50]
 .ret))))⟩
def i46:IFn:=⟨74,[.cell 4 7 true,.tmp 5,.tmp 6],(qr [qa 4 (.box (.c (.agg [.x (.int .i64 (0)),.x (.str []),.x (.str []),.x (.str []),.x .nils,.x (.str []),.x .nils]))),qa 5 (.mv (qs [])),qa 6 (.mv (qb false))]
 (.seq (qr [qm 12 1,qa 13 (q3 .eql 12 0),qm 14 13,qj 15 0 14,qF 16 (qk true 15) 14,qF 17 (q3 .lss 16 2) 14,qa 18 (qp 14 17),qm 19 18,qj 20 0 19,qF 21 (.idx (qt 20) (qi 0)) 19,qF 22 (q8 .neq 21 40) 19,qa 23 (qp 19 22)]
 (qC 23
 (qr [qa 24 (.build [.x (.int .i64 (0)),.x (.str []),.x (.str []),.x (.str []),.x .nils,.x (.str []),.x .nils] []),qm 25 0,qo 7 4 24,qm 5 25,qa 6 (.mv (qb false))]
 .ret)
 .skip))
 (.seq (qr [qm 26 0,qa 27 (.idx (qt 26) (qi 1))]
 (.block 0
 (qr [qa 29 (q8 .eql 27 38),qm 28 29]
 (qC 28
 (qr [qm 30 0,qa 31 (.slc 0 (qt 30) (some (qi 2)) none none),qm 32 1,qa 33 (qc 65 [qi 0,qt 31,qt 32]),qe 34 33 0,qe 35 33 1,qe 36 33 2,qo 7 4 34,qm 5 35,qm 6 36]
 .ret)
 (qr [qa 38 (q8 .eql 27 124),qm 37 38]
 (qC 37
 (qr [qm 39 0,qa 40 (.slc 0 (qt 39) (some (qi 2)) none none),qm 41 1,qa 42 (qc 65 [qi 1,qt 40,qt 41]),qe 43 42 0,qe 44 42 1,qe 45 42 2,qo 7 4 43,qm 5 44,qm 6 45]
 .ret)
 (qr [qa 47 (q8 .eql 27 33),qm 46 47]
 (qC 46
 (qr [qm 48 0,qa 49 (.slc 0 (qt 48) (some (qi 2)) none none),qm 50 1,qa 51 (qc 65 [qi 2,qt 49,qt 50]),qe 52 51 0,qe 53 51 1,qe 54 51 2,qo 7 4 52,qm 5 53,qm 6 54]
 .ret)
 .skip))))))))
 (qr [qm 56 0,qa 57 (.slc 0 (qt 56) (some (qi 1)) none none),qa 58 (qc 26 [qt 57,(qs [41])]),qm 55 58,qe 59 55 0,qe 60 55 1,qe 61 55 2,qm 7 59,qm 8 60,qm 9 61]
 (.seq (qr [qm 62 9,qa 63 (qz 62)]
 (qC 63
 (qr [qa 64 (.build [.x (.int .i64 (0)),.x (.str []),.x (.str []),.x (.str []),.x .nils,.x (.str []),.x .nils] []),qm 65 0,qo 7 4 64,qm 5 65,qa 6 (.mv (qb false))]
 .ret)
 .skip))
 (qr [qm 67 7,qa 68 (qc 66 [qt 67]),qm 66 68,qe 69 66 0,qe 70 66 1,qa 10 (.box (.c (.agg [.x (.int .i64 (0)),.x (.str []),.x (.str []),.x (.str []),.x .nils,.x (.str []),.x .nils]))),qo 7 10 69,qm 11 70]
 (qr [qa 71 (qL 7 10),qm 72 8,qm 73 11,qo 7 4 71,qm 5 72,qm 6 73]
 .ret)))))))⟩
def i47:IFn:=⟨8,[.tmp 2],(qr [qa 1 (.box (qt 0)),qa 2 (.mv (qi 0))]
 (.seq (qr [qa 3 (qL 7 1),qa 4 (qc 67 [qt 3]),qa 5 (q3 .gtr 4 16)]
 (qC 5
 (qr [qa 2 (.mv (qi 7))]
 .ret)
 .skip))
 (qr [qa 6 (qL 7 1),qa 7 (qc 68 [qt 6]),qm 2 7]
 .ret)))⟩
def i50:IFn:=⟨28,[.tmp 2],(qr [qa 2 (.mv (qs []))]
 (.seq (.block 0
 (.loop
 (.seq (qr [qm 3 0,qa 4 (.bin .neq (qt 3) (qs [])),qm 5 4,qh 6 0 5,qT 7 (.idx (qt 6) (qi 0)) 5,qT 8 (q8 .eql 7 32) 5,qa 9 (qP 5 8)]
 (qC 9
 .skip
 (.exit 0)))
 (.block 1
 (.reg [qm 10 0,qa 11 (.slc 0 (qt 10) (some (qi 1)) none none),qm 0 11])))))
 (.seq (.block 2
 (.loop
 (.seq (qr [qm 12 0,qa 13 (.bin .neq (qt 12) (qs [])),qm 14 13,qh 15 0 14,qh 16 0 14,qT 17 (qk true 16) 14,qT 18 (q3 .sub 17 1) 14,qT 19 (qx 15 18) 14,qT 20 (q8 .eql 19 32) 14,qa 21 (qP 14 20)]
 (qC 21
 .skip
 (.exit 2)))
 (.block 3
 (.reg [qm 22 0,qm 23 0,qa 24 (qk true 23),qa 25 (q3 .sub 24 1),qa 26 (.slc 0 (qt 22) none (some (qt 25)) none),qm 0 26])))))
 (qr [qm 27 0,qm 2 27]
 .ret))))⟩
def i51:IFn:=⟨155,[.tmp 2,.tmp 3],(qr [qa 2 (.mv (qs [])),qa 3 (.mv (qb false))]
 (.seq (.block 0
 (.loop
 (.seq (qr [qm 8 0,qa 9 (.bin .neq (qt 8) (qs [])),qm 10 9,qh 11 0 10,qT 12 (.idx (qt 11) (qi 0)) 10,qT 13 (q8 .eql 12 32) 10,qa 14 (qP 10 13)]
 (qC 14
 .skip
 (.exit 0)))
 (.block 1
 (.reg [qm 15 0,qa 16 (.slc 0 (qt 15) (some (qi 1)) none none),qm 0 16])))))
 (qr [qa 4 (.mv (.c (.x .nils)))]
 (qr [qa 5 (.mv (qi 0))]
 (.seq (qr [qa 6 (.mv (qi 0))]
 (.block 2
 (.loop
 (.seq (qr [qm 17 6,qm 18 0,qa 19 (qk true 18),qa 20 (q2 .lss 17 19)]
 (qC 20
 .skip
 (.exit 2)))
 (.seq (.block 3
 (qr [qm 23 0,qm 24 6,qa 25 (qx 23 24),qm 7 25]
 (.block 4
 (qr [qm 33 7,qa 34 (q8 .eql 33 92),qm 35 34,qh 36 6 35,qT 37 (q3 .add 36 1) 35,qh 38 0 35,qT 39 (qk true 38) 35,qT 40 (q2 .lss 37 39) 35,qa 41 (qP 35 40),qm 42 41,qh 43 0 42,qh 44 6 42,qT 45 (q3 .add 44 1) 42,qT 46 (qx 43 45) 42,qT 47 (qc 71 [qt 46]) 42,qh 48 47 42,qj 49 0 48,qj 50 6 48,qF 51 (q3 .add 50 1) 48,qF 52 (qx 49 51) 48,qF 53 (q8 .eql 52 32) 48,qT 54 (qp 48 53) 42,qh 55 54 42,qj 56 0 55,qj 57 6 55,qF 58 (q3 .add 57 1) 55,qF 59 (qx 56 58) 55,qF 60 (q8 .eql 59 35) 55,qT 61 (qp 55 60) 42,qa 62 (qP 42 61),qm 32 62]
 (qC 32
 (qr [qm 63 4,qm 64 0,qm 65 6,qa 66 (q3 .add 65 1),qa 67 (qx 64 66),qa 68 (.bsl 5 1 1 [qt 67]),qa 69 (.app 5 1 1 (qt 63) (qt 68)),qm 4 69]
 (qr [qm 70 6,qa 71 (q3 .add 70 1),qm 6 71]
 (.reg [qm 72 4,qa 73 (qk false 72),qm 5 73])))
 (qr [qm 75 7,qa 76 (q8 .eql 75 92),qm 77 76,qh 78 6 77,qT 79 (q3 .add 78 2) 77,qh 80 0 77,qT 81 (qk true 80) 77,qT 82 (q2 .lss 79 81) 77,qa 83 (qP 77 82),qm 84 83,qh 85 0 84,qh 86 6 84,qT 87 (q3 .add 86 1) 84,qT 88 (qx 85 87) 84,qT 89 (qc 72 [qt 88]) 84,qT 90 (q3 .lss 89 16) 84,qa 91 (qP 84 90),qm 92 91,qh 93 0 92,qh 94 6 92,qT 95 (q3 .add 94 2) 92,qT 96 (qx 93 95) 92,qT 97 (qc 72 [qt 96]) 92,qT 98 (q3 .lss 97 16) 92,qa 99 (qP 92 98),qm 74 99]
 (qC 74
 (.seq (.dreg 0 [] [qm 100 4,qm 101 0,qm 102 6,qa 103 (q3 .add 102 1),qa 104 (qx 101 103),qa 105 (qc 72 [qt 104]),qa 106 (.bin .mul (qi 16) (qt 105)),qm 107 0,qm 108 6,qa 109 (q3 .add 108 2),qa 110 (qx 107 109),qa 111 (qc 72 [qt 110]),qa 112 (q2 .add 106 111),qa 113 (.cvi .u8 (qt 112)),qa 114 (.bsl 5 1 1 [qt 113]),qa 115 (.app 5 1 1 (qt 100) (qt 114)),qm 4 115])
 (qr [qm 116 6,qa 117 (q3 .add 116 2),qm 6 117]
 (.reg [qm 118 4,qa 119 (qk false 118),qm 5 119])))
 (qr [qm 121 7,qa 122 (q8 .eql 121 32),qm 120 122]
 (qC 120
 (.reg [qm 123 4,qm 124 7,qa 125 (.bsl 5 1 1 [qt 124]),qa 126 (.app 5 1 1 (qt 123) (qt 125)),qm 4 126])
 (qr [qm 128 7,qa 129 (q8 .lss 128 32),qm 130 129,qj 131 7 130,qF 132 (q8 .eql 131 127) 130,qa 133 (qp 130 132),qm 134 133,qj 135 7 134,qF 136 (qc 71 [qt 135]) 134,qj 137 136 134,qh 138 7 137,qT 139 (q8 .neq 138 61) 137,qF 140 (qP 137 139) 134,qa 141 (qp 134 140),qm 142 141,qj 143 7 142,qF 144 (q8 .eql 143 35) 142,qj 145 144 142,qh 146 4 145,qT 147 (qk false 146) 145,qT 148 (q3 .eql 147 0) 145,qF 149 (qP 145 148) 142,qa 150 (qp 142 149),qm 127 150]
 (qC 127
 (qr [qa 2 (.mv (qs [])),qa 3 (.mv (qb false))]
 .ret)
 (qr [qm 26 4,qm 27 7,qa 28 (.bsl 5 1 1 [qt 27]),qa 29 (.app 5 1 1 (qt 26) (qt 28)),qm 4 29]
 (.reg [qm 30 4,qa 31 (qk false 30),qm 5 31])))))))))))))
 (.reg [qm 21 6,qa 22 (q3 .add 21 1),qm 6 22]))))))
 (qr [qm 151 4,qm 152 5,qa 153 (.slc 1 (qt 151) none (some (qt 152)) none),qa 154 (.b2s (qt 153)),qm 2 154,qa 3 (.mv (qb true))]
 .ret))))))⟩
def i52:IFn:=⟨29,[.tmp 2],(qr [qa 2 (.mv (qs []))]
 (qr [qa 3 (.mv (.c (.x .nils)))]
 (.seq (qr [qa 4 (.mv (qi 0))]
 (.block 0
 (.loop
 (.seq (qr [qm 6 4,qm 7 0,qa 8 (qk true 7),qa 9 (q2 .lss 6 8)]
 (qC 9
 .skip
 (.exit 0)))
 (.seq (.block 1
 (qr [qm 12 0,qm 13 4,qa 14 (qx 12 13),qm 5 14]
 (.seq (qr [qm 15 5,qa 16 (q8 .geq 15 65),qm 17 16,qh 18 5 17,qT 19 (q8 .leq 18 90) 17,qa 20 (qP 17 19)]
 (qC 20
 (.reg [qm 21 5,qa 22 (q8 .add 21 32),qm 5 22])
 .skip))
 (.reg [qm 23 3,qm 24 5,qa 25 (.bsl 5 1 1 [qt 24]),qa 26 (.app 5 1 1 (qt 23) (qt 25)),qm 3 26]))))
 (.reg [qm 10 4,qa 11 (q3 .add 10 1),qm 4 11]))))))
 (qr [qm 27 3,qa 28 (.b2s (qt 27)),qm 2 28]
 .ret))))⟩
def i53:IFn:=⟨101,[.cell 2 7 true],(qr [qa 2 (.box (.c (.agg [.x (.int .i64 (0)),.x (.str []),.x (.str []),.x (.str []),.x .nils,.x (.str []),.x .nils])))]
 (qr [qa 3 (.mv (qi 0))]
 (.seq (.block 0
 (.loop
 (.seq (qr [qm 7 3,qm 8 0,qa 9 (qk true 8),qa 10 (q2 .lss 7 9),qm 11 10,qh 12 0 11,qh 13 3 11,qT 14 (qx 12 13) 11,qT 15 (q8 .neq 14 61) 11,qa 16 (qP 11 15)]
 (qC 16
 .skip
 (.exit 0)))
 (.block 1
 (.reg [qm 17 3,qa 18 (q3 .add 17 1),qm 3 18])))))
 (.seq (qr [qm 19 3,qm 20 0,qa 21 (qk true 20),qa 22 (q2 .eql 19 21),qm 23 22,qj 24 3 23,qF 25 (q3 .eql 24 0) 23,qa 26 (qp 23 25)]
 (qC 26
 (qr [qa 27 (.build [.x (.int .i64 (0)),.x (.str []),.x (.str []),.x (.str []),.x .nils,.x (.str []),.x .nils] [(0,1,(qi (-1)))]),qo 7 2 27]
 .ret)
 .skip))
 (.seq (.dreg 0 [] [qm 28 0,qm 29 3,qa 30 (.slc 0 (qt 28) none (some (qt 29)) none),qm 31 0,qm 32 3,qa 33 (q3 .add 32 1),qa 34 (.slc 0 (qt 31) (some (qt 33)) none none),qm 4 30,qm 5 34])
 (.seq (qr [qm 35 4,qm 36 4,qa 37 (qk true 36),qa 38 (q3 .sub 37 1),qa 39 (qx 35 38)]
 (.block 2
 (qr [qa 41 (q8 .eql 39 62),qm 40 41]
 (qC 40
 (.seq (.dreg 0 [] [qm 42 4,qm 43 4,qa 44 (qk true 43),qa 45 (q3 .sub 44 1),qa 46 (.slc 0 (qt 42) none (some (qt 45)) none),qm 47 5,qa 48 (qc 73 [qt 47]),qa 49 (.build [.x (.int .i64 (0)),.x (.str []),.x (.str []),.x (.str []),.x .nils,.x (.str []),.x .nils] [(0,1,(qi 5)),(1,1,(qt 46)),(2,1,(qt 48))]),qo 7 2 49])
 .ret)
 (qr [qa 51 (q8 .eql 39 60),qm 50 51]
 (qC 50
 (.seq (.dreg 0 [] [qm 52 4,qm 53 4,qa 54 (qk true 53),qa 55 (q3 .sub 54 1),qa 56 (.slc 0 (qt 52) none (some (qt 55)) none),qm 57 5,qa 58 (qc 73 [qt 57]),qa 59 (.build [.x (.int .i64 (0)),.x (.str []),.x (.str []),.x (.str []),.x .nils,.x (.str []),.x .nils] [(0,1,(qi 6)),(1,1,(qt 56)),(2,1,(qt 58))]),qo 7 2 59])
 .ret)
 (qr [qa 61 (q8 .eql 39 126),qm 60 61]
 (qC 60
 (.seq (.dreg 0 [] [qm 62 4,qm 63 4,qa 64 (qk true 63),qa 65 (q3 .sub 64 1),qa 66 (.slc 0 (qt 62) none (some (qt 65)) none),qm 67 5,qa 68 (qc 73 [qt 67]),qa 69 (.build [.x (.int .i64 (0)),.x (.str []),.x (.str []),.x (.str []),.x .nils,.x (.str []),.x .nils] [(0,1,(qi 8)),(1,1,(qt 66)),(2,1,(qt 68))]),qo 7 2 69])
 .ret)
 .skip))))))))
 (.seq (qr [qm 70 5,qa 71 (.bin .eql (qt 70) (qs [42]))]
 (qC 71
 (qr [qm 72 4,qa 73 (.build [.x (.int .i64 (0)),.x (.str []),.x (.str []),.x (.str []),.x .nils,.x (.str []),.x .nils] [(0,1,(qi 7)),(1,1,(qt 72))]),qo 7 2 73]
 .ret)
 .skip))
 (qr [qm 74 5,qa 75 (qc 74 [qt 74]),qm 6 75]
 (.seq (qr [qm 76 6,qa 77 (qk false 76),qa 78 (q3 .eql 77 1)]
 (qC 78
 (qr [qm 79 4,qm 80 6,qa 81 (.iad 1 (qt 80) (qi 0)),qa 82 (ql 81),qa 83 (.build [.x (.int .i64 (0)),.x (.str []),.x (.str []),.x (.str []),.x .nils,.x (.str []),.x .nils] [(0,1,(qi 3)),(1,1,(qt 79)),(2,1,(qt 82))]),qo 7 2 83]
 .ret)
 .skip))
 (.seq (.dreg 15 [] [qm 84 4,qm 85 6,qa 86 (.iad 1 (qt 85) (qi 0)),qa 87 (ql 86),qm 88 6,qm 89 6,qa 90 (qk false 89),qa 91 (q3 .sub 90 1),qa 92 (.slc 1 (qt 88) (some (qi 1)) (some (qt 91)) none),qm 93 6,qm 94 6,qa 95 (qk false 94),qa 96 (q3 .sub 95 1),qa 97 (qy 1 93 96),qa 98 (ql 97),qa 99 (.build [.x (.str []),.x .nils,.x (.str [])] [(0,1,(qt 87)),(1,1,(qt 92)),(2,1,(qt 98))]),qa 100 (.build [.x (.int .i64 (0)),.x (.str []),.x (.str []),.x (.str []),.x .nils,.x (.str []),.x .nils] [(0,1,(qi 4)),(1,1,(qt 84)),(3,3,(qt 99))]),qo 7 2 100])
 .ret))))))))))⟩
def i54:IFn:=⟨8,[.tmp 2],(qr [qa 1 (.box (qt 0)),qa 2 (.mv (qi 0))]
 (.seq (qr [qa 3 (qL 7 1),qa 4 (qc 75 [qt 3]),qa 5 (q3 .gtr 4 16)]
 (qC 5
 (qr [qa 2 (.mv (qi 7))]
 .ret)
 .skip))
 (qr [qa 6 (qL 7 1),qa 7 (qc 76 [qt 6]),qm 2 7]
 .ret)))⟩
def i55:IFn:=⟨123,[.tmp 2],(qr [qa 1 (.box (qt 0)),qa 2 (.mv (qs []))]
 (qr [qa 3 (.mv (qs [40]))]
 (.seq (qr [qa 6 (qf 0 1),qa 7 (ql 6)]
 (.block 0
 (qr [qa 44 (q3 .eql 7 0),qm 43 44]
 (qC 43
 (.reg [qm 45 3,qa 46 (.bin .add (qt 45) (qs [38])),qm 3 46])
 (qr [qa 48 (q3 .eql 7 1),qm 47 48]
 (qC 47
 (.reg [qm 49 3,qa 50 (.bin .add (qt 49) (qs [124])),qm 3 50])
 (qr [qa 52 (q3 .eql 7 2),qm 51 52]
 (qC 51
 (.reg [qm 53 3,qa 54 (.bin .add (qt 53) (qs [33])),qm 3 54])
 (qr [qa 56 (q3 .eql 7 3),qm 55 56]
 (qC 55
 (.dreg 8 [] [qm 57 3,qa 58 (qf 1 1),qa 59 (ql 58),qa 60 (q2 .add 57 59),qa 61 (.bin .add (qt 60) (qs [61])),qa 62 (qf 2 1),qa 63 (ql 62),qa 64 (qc 77 [qt 63]),qa 65 (q2 .add 61 64),qm 3 65])
 (qr [qa 67 (q3 .eql 7 5),qm 66 67]
 (qC 66
 (.dreg 8 [] [qm 68 3,qa 69 (qf 1 1),qa 70 (ql 69),qa 71 (q2 .add 68 70),qa 72 (.bin .add (qt 71) (qs [62,61])),qa 73 (qf 2 1),qa 74 (ql 73),qa 75 (qc 77 [qt 74]),qa 76 (q2 .add 72 75),qm 3 76])
 (qr [qa 78 (q3 .eql 7 6),qm 77 78]
 (qC 77
 (.dreg 8 [] [qm 79 3,qa 80 (qf 1 1),qa 81 (ql 80),qa 82 (q2 .add 79 81),qa 83 (.bin .add (qt 82) (qs [60,61])),qa 84 (qf 2 1),qa 85 (ql 84),qa 86 (qc 77 [qt 85]),qa 87 (q2 .add 83 86),qm 3 87])
 (qr [qa 89 (q3 .eql 7 8),qm 88 89]
 (qC 88
 (.dreg 8 [] [qm 90 3,qa 91 (qf 1 1),qa 92 (ql 91),qa 93 (q2 .add 90 92),qa 94 (.bin .add (qt 93) (qs [126,61])),qa 95 (qf 2 1),qa 96 (ql 95),qa 97 (qc 77 [qt 96]),qa 98 (q2 .add 94 97),qm 3 98])
 (qr [qa 100 (q3 .eql 7 7),qm 99 100]
 (qC 99
 (.reg [qm 101 3,qa 102 (qf 1 1),qa 103 (ql 102),qa 104 (q2 .add 101 103),qa 105 (.bin .add (qt 104) (qs [61,42])),qm 3 105])
 (.seq (.dreg 9 [] [qm 8 3,qa 9 (qf 1 1),qa 10 (ql 9),qa 11 (q2 .add 8 10),qa 12 (.bin .add (qt 11) (qs [61])),qa 13 (qf 3 1),qa 14 (qf 0 13),qa 15 (ql 14),qa 16 (qc 77 [qt 15]),qa 17 (q2 .add 12 16),qa 18 (.bin .add (qt 17) (qs [42])),qm 3 18])
 (.seq (qr [qa 4 (.mv (qi 0))]
 (.block 1
 (.loop
 (.seq (qr [qm 19 4,qa 20 (qf 3 1),qa 21 (qf 1 20),qa 22 (ql 21),qa 23 (qk false 22),qa 24 (q2 .lss 19 23)]
 (qC 24
 .skip
 (.exit 1)))
 (.seq (.block 2
 (.reg [qm 27 3,qa 28 (qf 3 1),qa 29 (qf 1 28),qa 30 (ql 29),qm 31 4,qa 32 (qy 1 30 31),qa 33 (ql 32),qa 34 (qc 77 [qt 33]),qa 35 (q2 .add 27 34),qa 36 (.bin .add (qt 35) (qs [42])),qm 3 36]))
 (.reg [qm 25 4,qa 26 (q3 .add 25 1),qm 4 26]))))))
 (.reg [qm 37 3,qa 38 (qf 3 1),qa 39 (qf 2 38),qa 40 (ql 39),qa 41 (qc 77 [qt 40]),qa 42 (q2 .add 37 41),qm 3 42])))))))))))))))))))))
 (.seq (qr [qa 5 (.mv (qi 0))]
 (.block 3
 (.loop
 (.seq (qr [qm 106 5,qa 107 (qf 6 1),qa 108 (ql 107),qa 109 (qk false 108),qa 110 (q2 .lss 106 109)]
 (qC 110
 .skip
 (.exit 3)))
 (.seq (.block 4
 (.reg [qm 113 3,qa 114 (qf 6 1),qa 115 (ql 114),qm 116 5,qa 117 (qy 7 115 116),qa 118 (qL 7 117),qa 119 (qc 55 [qt 118]),qa 120 (q2 .add 113 119),qm 3 120]))
 (.reg [qm 111 5,qa 112 (q3 .add 111 1),qm 5 112]))))))
 (qr [qm 121 3,qa 122 (.bin .add (qt 121) (qs [41])),qm 2 122]
 .ret)))))⟩
def i61:IFn:=⟨39,[.tmp 4],(qr [qa 4 (.mv (.c (.x .nils)))]
 (qr [qa 5 (.mv (.c (.x .nils)))]
 (qr [qa 6 (.mv (qi 0))]
 (.seq (qr [qa 7 (.mv (qi 0))]
 (.block 0
 (.loop
 (.seq (qr [qm 8 7,qm 9 0,qa 10 (qk true 9),qa 11 (q2 .lss 8 10)]
 (qC 11
 .skip
 (.exit 0)))
 (.seq (.block 1
 (qr [qm 14 0,qm 15 7,qa 16 (qx 14 15)]
 (.block 2
 (qr [qa 18 (q8 .eql 16 92),qm 17 18]
 (qC 17
 (.reg [qm 19 7,qa 20 (q3 .add 19 1),qm 7 20])
 (qr [qm 22 1,qa 23 (q2 .eql 16 22),qm 21 23]
 (qC 21
 (qr [qm 24 5,qm 25 0,qm 26 6,qm 27 7,qa 28 (.slc 0 (qt 25) (some (qt 26)) (some (qt 27)) none),qa 29 (.bsl 9 1 1 [qt 28]),qa 30 (.app 9 1 16 (qt 24) (qt 29)),qm 5 30]
 (.reg [qm 31 7,qa 32 (q3 .add 31 1),qm 6 32]))
 .skip)))))))
 (.reg [qm 12 7,qa 13 (q3 .add 12 1),qm 7 13]))))))
 (qr [qm 33 5,qm 34 0,qm 35 6,qa 36 (.slc 0 (qt 34) (some (qt 35)) none none),qa 37 (.bsl 9 1 1 [qt 36]),qa 38 (.app 9 1 16 (qt 33) (qt 37)),qm 4 38]
 .ret)))))⟩
def i62:IFn:=⟨29,[.tmp 2,.tmp 3],(qr [qa 2 (.mv (.c (.x .nils))),qa 3 (.mv (qb false))]
 (qr [qa 4 (.mv (.c (.x .nils)))]
 (.seq (qr [qm 9 0,qa 10 (qc 61 [qt 9,(.c (.x (.int .u8 (43))))]),qa 11 (qk false 10),qa 12 (.mv (qi 0))]
 (.block 0
 (.loop
 (qr [qa 13 (q2 .lss 12 11)]
 (.seq (qC 13
 .skip
 (.exit 0))
 (.seq (.block 1
 (qr [qa 14 (qy 1 10 12),qa 15 (ql 14),qm 6 15]
 (qr [qm 17 6,qa 18 (qc 85 [qt 17]),qm 16 18,qe 19 16 0,qe 20 16 1,qa 7 (.box (.c (.agg [.x (.str []),.x (.str [])]))),qo 2 7 19,qm 8 20]
 (.seq (qr [qm 21 8,qa 22 (qz 21)]
 (qC 22
 (qr [qa 2 (.mv (.c (.x .nils))),qa 3 (.mv (qb false))]
 .ret)
 .skip))
 (.reg [qm 23 4,qa 24 (qL 2 7),qa 25 (.bsl 77 2 1 [qt 24]),qa 26 (.app 77 2 32 (qt 23) (qt 25)),qm 4 26])))))
 (.reg [qa 27 (q3 .add 12 1),qm 12 27])))))))
 (qr [qm 28 4,qm 2 28,qa 3 (.mv (qb true))]
 .ret))))⟩
def i63:IFn:=⟨18,[.tmp 2],(qr [qa 2 (.mv (qi 0))]
 (.seq (qr [qm 5 0,qa 6 (qk false 5),qa 7 (q3 .gtr 6 32)]
 (qC 7
 (qr [qa 2 (.mv (qi 3))]
 .ret)
 .skip))
 (.seq (qr [qm 8 0,qa 9 (qk false 8),qa 10 (.mv (qi 0))]
 (.block 0
 (.loop
 (qr [qa 11 (q2 .lss 10 9)]
 (.seq (qC 11
 .skip
 (.exit 0))
 (.seq (.block 1
 (qr [qa 12 (qy 1 8 10),qa 13 (ql 12),qm 4 13]
 (qr [qm 14 4,qa 15 (qc 86 [qt 14]),qa 16 (qz 15)]
 (qC 16
 (qr [qa 2 (.mv (qi 5))]
 .ret)
 .skip))))
 (.reg [qa 17 (q3 .add 10 1),qm 10 17])))))))
 (qr [qa 2 (.mv (qi 0))]
 .ret))))⟩
def i64:IFn:=⟨30,[.tmp 2],(qr [qa 2 (.mv (qs []))]
 (qr [qm 6 0,qa 7 (.s2b 5 (qt 6)),qm 3 7]
 (.seq (qr [qm 8 3,qa 9 (qk false 8),qa 10 (.mv (qi 0))]
 (.block 0
 (.loop
 (qr [qa 11 (q2 .lss 10 9)]
 (.seq (qC 11
 .skip
 (.exit 0))
 (.seq (.block 1
 (qr [qm 12 10,qa 13 (qy 1 8 10),qa 14 (ql 13),qm 4 12,qm 5 14]
 (qr [qm 15 5,qa 16 (q8 .geq 15 65),qm 17 16,qh 18 5 17,qT 19 (q8 .leq 18 90) 17,qa 20 (qP 17 19)]
 (qC 20
 (.reg [qm 21 3,qm 22 4,qm 23 5,qa 24 (q8 .sub 23 65),qa 25 (q8 .add 24 97),qa 26 (qy 1 21 22),qo 1 26 25])
 .skip))))
 (.reg [qa 27 (q3 .add 10 1),qm 10 27])))))))
 (qr [qm 28 3,qa 29 (.b2s (qt 28)),qm 2 29]
 .ret))))⟩
def i65:IFn:=⟨53,[.cell 6 7 true,.tmp 7,.tmp 8],(qr [qa 6 (.box (.c (.agg [.x (.int .i64 (0)),.x (.str []),.x (.str []),.x (.str []),.x .nils,.x (.str []),.x .nils]))),qa 7 (.mv (qs [])),qa 8 (.mv (qb false))]
 (qr [qm 13 0,qa 14 (.build [.x (.int .i64 (0)),.x (.str []),.x (.str []),.x (.str []),.x .nils,.x (.str []),.x .nils] [(0,1,(qt 13))]),qa 9 (.box (.c (.agg [.x (.int .i64 (0)),.x (.str []),.x (.str []),.x (.str []),.x .nils,.x (.str []),.x .nils]))),qo 7 9 14]
 (.seq (.block 0
 (.loop
 (.seq (qr [qm 15 1,qa 16 (.bin .neq (qt 15) (qs [])),qm 17 16,qh 18 1 17,qT 19 (.idx (qt 18) (qi 0)) 17,qT 20 (q8 .eql 19 40) 17,qa 21 (qP 17 20)]
 (qC 21
 .skip
 (.exit 0)))
 (.block 1
 (qr [qm 23 1,qm 24 2,qa 25 (q3 .sub 24 1),qa 26 (qc 46 [qt 23,qt 25]),qm 22 26,qe 27 22 0,qe 28 22 1,qe 29 22 2,qa 10 (.box (.c (.agg [.x (.int .i64 (0)),.x (.str []),.x (.str []),.x (.str []),.x .nils,.x (.str []),.x .nils]))),qo 7 10 27,qm 11 28,qm 12 29]
 (.seq (qr [qm 30 12,qa 31 (qz 30)]
 (qC 31
 (qr [qa 32 (qL 7 9),qm 33 1,qo 7 6 32,qm 7 33,qa 8 (.mv (qb false))]
 .ret)
 .skip))
 (qr [qa 34 (qf 6 9),qa 35 (ql 34),qa 36 (qL 7 10),qa 37 (.bsl 49 7 1 [qt 36]),qa 38 (.app 49 7 120 (qt 35) (qt 37)),qa 39 (qf 6 9),qo 1 39 38]
 (.reg [qm 40 11,qm 1 40]))))))))
 (.seq (qr [qm 41 1,qa 42 (.bin .eql (qt 41) (qs [])),qm 43 42,qj 44 1 43,qF 45 (.idx (qt 44) (qi 0)) 43,qF 46 (q8 .neq 45 41) 43,qa 47 (qp 43 46)]
 (qC 47
 (qr [qa 48 (qL 7 9),qm 49 1,qo 7 6 48,qm 7 49,qa 8 (.mv (qb false))]
 .ret)
 .skip))
 (.seq (.dreg 0 [] [qa 50 (qL 7 9),qm 51 1,qa 52 (.slc 0 (qt 51) (some (qi 1)) none none),qo 7 6 50,qm 7 52,qa 8 (.mv (qb true))])
 .ret)))))⟩
def i66:IFn:=⟨80,[.cell 2 7 true,.tmp 3],(qr [qa 2 (.box (.c (.agg [.x (.int .i64 (0)),.x (.str []),.x (.str []),.x (.str []),.x .nils,.x (.str []),.x .nils]))),qa 3 (.mv (qb false))]
 (qr [qm 14 0,qa 15 (qc 26 [qt 14,(qs [61])]),qm 13 15,qe 16 13 0,qe 17 13 1,qe 18 13 2,qm 4 16,qm 5 17,qm 6 18]
 (.seq (qr [qm 19 6,qa 20 (qz 19)]
 (qC 20
 (qr [qa 21 (.build [.x (.int .i64 (0)),.x (.str []),.x (.str []),.x (.str []),.x .nils,.x (.str []),.x .nils] []),qo 7 2 21,qa 3 (.mv (qb false))]
 .ret)
 .skip))
 (qr [qm 22 4,qa 23 (.build [.x (.int .i64 (0)),.x (.str []),.x (.str []),.x (.str []),.x .nils,.x (.str []),.x .nils] [(0,1,(qi 3)),(1,1,(qt 22))]),qa 7 (.box (.c (.agg [.x (.int .i64 (0)),.x (.str []),.x (.str []),.x (.str []),.x .nils,.x (.str []),.x .nils]))),qo 7 7 23]
 (.seq (qr [qa 24 (.build [.x (.int .i64 (0)),.x (.int .i64 (0)),.x (.int .i64 (0))] [(0,1,(qi 5)),(1,1,(qi 6)),(2,1,(qi 8))]),qa 25 (.mv (qi 0))]
 (.block 0
 (.loop
 (qr [qa 26 (q3 .lss 25 3)]
 (.seq (qC 26
 .skip
 (.exit 0))
 (.seq (.block 1
 (qr [qa 27 (.idxa 1 3 false (qt 24) (qt 25)),qm 9 27]
 (qr [qm 29 4,qm 30 9,qa 31 (qc 88 [qt 30]),qa 32 (.slc 0 (qt 31) none (some (qi 1)) none),qa 33 (qc 87 [qt 29,qt 32]),qm 28 33,qe 34 28 0,qe 35 28 1,qm 10 34,qm 11 35]
 (qr [qm 36 11]
 (qC 36
 (.reg [qm 37 9,qm 38 10,qa 39 (qf 0 7),qo 1 39 37,qa 40 (qf 1 7),qo 1 40 38])
 .skip)))))
 (.reg [qa 41 (q3 .add 25 1),qm 25 41])))))))
 (qr [qm 42 5,qa 43 (qc 25 [qt 42,(qs [42])]),qm 12 43]
 (.seq (.block 2
 (qr [qa 45 (qf 0 7),qa 46 (ql 45),qa 47 (q3 .eql 46 3),qm 48 47,qh 49 5 48,qT 50 (.bin .eql (qt 49) (qs [42])) 48,qa 51 (qP 48 50),qm 44 51]
 (qC 44
 (qr [qa 52 (qf 0 7),⟨none,.sto 1 (qt 52) (qi 7),none⟩]
 (qr [qa 53 (qL 7 7),qo 7 2 53,qa 3 (.mv (qb true))]
 .ret))
 (qr [qa 55 (qf 0 7),qa 56 (ql 55),qa 57 (q3 .eql 56 3),qm 58 57,qh 59 12 58,qT 60 (qk false 59) 58,qT 61 (q3 .gtr 60 1) 58,qa 62 (qP 58 61),qm 54 62]
 (qC 54
 (qr [qa 63 (qf 0 7),⟨none,.sto 1 (qt 63) (qi 4),none⟩]
 (qr [qm 65 12,qa 66 (qc 89 [qt 65]),qm 64 66,qe 67 64 0,qe 68 64 1,qa 69 (qf 3 7),qo 3 69 67,qm 6 68]
 (qr [qa 70 (qL 7 7),qm 71 6,qo 7 2 70,qm 3 71]
 .ret)))
 .skip)))))
 (qr [qm 73 5,qa 74 (qc 90 [qt 73]),qm 72 74,qe 75 72 0,qe 76 72 1,qa 77 (qf 2 7),qo 1 77 75,qm 6 76]
 (qr [qa 78 (qL 7 7),qm 79 6,qo 7 2 78,qm 3 79]
 .ret)))))))))⟩
def i67:IFn:=⟨5,[.tmp 2],(qr [qa 1 (.box (qt 0)),qa 2 (.mv (qi 0))]
 (qr [qa 3 (qL 7 1),qa 4 (qc 91 [qt 3,qi 64]),qm 2 4]
 .ret))⟩
def i68:IFn:=⟨25,[.tmp 2],(qr [qa 1 (.box (qt 0)),qa 2 (.mv (qi 0))]
 (.seq (qr [qa 7 (qL 7 1),qa 8 (qc 92 [qt 7]),qm 3 8]
 (qr [qm 9 3,qa 10 (q3 .neq 9 0)]
 (qC 10
 (qr [qm 11 3,qm 2 11]
 .ret)
 .skip)))
 (.seq (qr [qa 12 (qf 6 1),qa 13 (ql 12),qa 14 (qk false 13),qa 15 (.mv (qi 0))]
 (.block 0
 (.loop
 (qr [qa 16 (q2 .lss 15 14)]
 (.seq (qC 16
 .skip
 (.exit 0))
 (.seq (.block 1
 (qr [qa 17 (qy 7 13 15),qa 18 (qL 7 17),qa 5 (.box (.c (.agg [.x (.int .i64 (0)),.x (.str []),.x (.str []),.x (.str []),.x .nils,.x (.str []),.x .nils]))),qo 7 5 18]
 (qr [qa 19 (qL 7 5),qa 20 (qc 68 [qt 19]),qm 6 20]
 (qr [qm 21 6,qa 22 (q3 .neq 21 0)]
 (qC 22
 (qr [qm 23 6,qm 2 23]
 .ret)
 .skip)))))
 (.reg [qa 24 (q3 .add 15 1),qm 15 24])))))))
 (qr [qa 2 (.mv (qi 0))]
 .ret))))⟩
def i71:IFn:=⟨33,[.tmp 2],(qr [qa 2 (.mv (qb false))]
 (qr [qm 3 0,qa 4 (q8 .eql 3 44),qm 5 4,qj 6 0 5,qF 7 (q8 .eql 6 43) 5,qa 8 (qp 5 7),qm 9 8,qj 10 0 9,qF 11 (q8 .eql 10 34) 9,qa 12 (qp 9 11),qm 13 12,qj 14 0 13,qF 15 (q8 .eql 14 92) 13,qa 16 (qp 13 15),qm 17 16,qj 18 0 17,qF 19 (q8 .eql 18 60) 17,qa 20 (qp 17 19),qm 21 20,qj 22 0 21,qF 23 (q8 .eql 22 62) 21,qa 24 (qp 21 23),qm 25 24,qj 26 0 25,qF 27 (q8 .eql 26 59) 25,qa 28 (qp 25 27),qm 29 28,qj 30 0 29,qF 31 (q8 .eql 30 61) 29,qa 32 (qp 29 31),qm 2 32]
 .ret))⟩
def i72:IFn:=⟨35,[.tmp 2],(qr [qa 2 (.mv (qi 0))]
 (.seq (.block 0
 (qr [qm 4 0,qa 5 (q8 .geq 4 48),qm 6 5,qh 7 0 6,qT 8 (q8 .leq 7 57) 6,qa 9 (qP 6 8),qm 3 9]
 (qC 3
 (qr [qm 10 0,qa 11 (.cvi .i64 (qt 10)),qa 12 (q3 .sub 11 48),qm 2 12]
 .ret)
 (qr [qm 14 0,qa 15 (q8 .geq 14 97),qm 16 15,qh 17 0 16,qT 18 (q8 .leq 17 102) 16,qa 19 (qP 16 18),qm 13 19]
 (qC 13
 (qr [qm 20 0,qa 21 (.cvi .i64 (qt 20)),qa 22 (q3 .sub 21 97),qa 23 (q3 .add 22 10),qm 2 23]
 .ret)
 (qr [qm 25 0,qa 26 (q8 .geq 25 65),qm 27 26,qh 28 0 27,qT 29 (q8 .leq 28 70) 27,qa 30 (qP 27 29),qm 24 30]
 (qC 24
 (qr [qm 31 0,qa 32 (.cvi .i64 (qt 31)),qa 33 (q3 .sub 32 65),qa 34 (q3 .add 33 10),qm 2 34]
 .ret)
 .skip)))))))
 (qr [qa 2 (.mv (qi 16))]
 .ret)))⟩
def i73:IFn:=⟨63,[.tmp 2],(qr [qa 2 (.mv (qs []))]
 (qr [qa 3 (.mv (.c (.x .nils)))]
 (.seq (qr [qa 4 (.mv (qi 0))]
 (.block 0
 (.loop
 (.seq (qr [qm 5 4,qm 6 0,qa 7 (qk true 6),qa 8 (q2 .lss 5 7)]
 (qC 8
 .skip
 (.exit 0)))
 (.seq (.block 1
 (.seq (qr [qm 11 0,qm 12 4,qa 13 (qx 11 12),qa 14 (q8 .eql 13 92),qm 15 14,qh 16 4 15,qT 17 (q3 .add 16 2) 15,qh 18 0 15,qT 19 (qk true 18) 15,qT 20 (q2 .lss 17 19) 15,qa 21 (qP 15 20),qm 22 21,qh 23 0 22,qh 24 4 22,qT 25 (q3 .add 24 1) 22,qT 26 (qx 23 25) 22,qT 27 (qc 93 [qt 26]) 22,qT 28 (q8 .lss 27 16) 22,qa 29 (qP 22 28),qm 30 29,qh 31 0 30,qh 32 4 30,qT 33 (q3 .add 32 2) 30,qT 34 (qx 31 33) 30,qT 35 (qc 93 [qt 34]) 30,qT 36 (q8 .lss 35 16) 30,qa 37 (qP 30 36)]
 (qC 37
 (.seq (.dreg 0 [] [qm 38 3,qm 39 0,qm 40 4,qa 41 (q3 .add 40 1),qa 42 (qx 39 41),qa 43 (qc 93 [qt 42]),qa 44 (q8 .mul 43 16),qm 45 0,qm 46 4,qa 47 (q3 .add 46 2),qa 48 (qx 45 47),qa 49 (qc 93 [qt 48]),qa 50 (q2 .add 44 49),qa 51 (.bsl 5 1 1 [qt 50]),qa 52 (.app 5 1 1 (qt 38) (qt 51)),qm 3 52])
 (qr [qm 53 4,qa 54 (q3 .add 53 2),qm 4 54]
 (.exit 1)))
 .skip))
 (.reg [qm 55 3,qm 56 0,qm 57 4,qa 58 (qx 56 57),qa 59 (.bsl 5 1 1 [qt 58]),qa 60 (.app 5 1 1 (qt 55) (qt 59)),qm 3 60])))
 (.reg [qm 9 4,qa 10 (q3 .add 9 1),qm 4 10]))))))
 (qr [qm 61 3,qa 62 (.b2s (qt 61)),qm 2 62]
 .ret))))⟩
def i74:IFn:=⟨33,[.tmp 2],(qr [qa 2 (.mv (.c (.x .nils)))]
 (qr [qa 3 (.mv (.c (.x .nils)))]
 (qr [qa 4 (.mv (qi 0))]
 (.seq (qr [qa 5 (.mv (qi 0))]
 (.block 0
 (.loop
 (.seq (qr [qm 6 5,qm 7 0,qa 8 (qk true 7),qa 9 (q2 .lss 6 8)]
 (qC 9
 .skip
 (.exit 0)))
 (.seq (.block 1
 (qr [qm 12 0,qm 13 5,qa 14 (qx 12 13),qa 15 (q8 .eql 14 42)]
 (qC 15
 (qr [qm 16 3,qm 17 0,qm 18 4,qm 19 5,qa 20 (.slc 0 (qt 17) (some (qt 18)) (some (qt 19)) none),qa 21 (qc 73 [qt 20]),qa 22 (.bsl 9 1 1 [qt 21]),qa 23 (.app 9 1 16 (qt 16) (qt 22)),qm 3 23]
 (.reg [qm 24 5,qa 25 (q3 .add 24 1),qm 4 25]))
 .skip)))
 (.reg [qm 10 5,qa 11 (q3 .add 10 1),qm 5 11]))))))
 (qr [qm 26 3,qm 27 0,qm 28 4,qa 29 (.slc 0 (qt 27) (some (qt 28)) none none),qa 30 (qc 73 [qt 29]),qa 31 (.bsl 9 1 1 [qt 30]),qa 32 (.app 9 1 16 (qt 26) (qt 31)),qm 2 32]
 .ret)))))⟩
def i75:IFn:=⟨5,[.tmp 2],(qr [qa 1 (.box (qt 0)),qa 2 (.mv (qi 0))]
 (qr [qa 3 (qL 7 1),qa 4 (qc 94 [qt 3,qi 64]),qm 2 4]
 .ret))⟩
def i76:IFn:=⟨27,[.tmp 2],(qr [qa 1 (.box (qt 0)),qa 2 (.mv (qi 0))]
 (.seq (qr [qa 6 (qL 7 1),qa 7 (qc 95 [qt 6]),qm 3 7]
 (qr [qm 8 3,qa 9 (q3 .neq 8 0)]
 (qC 9
 (qr [qm 10 3,qm 2 10]
 .ret)
 .skip)))
 (.seq (qr [qa 4 (.mv (qi 0))]
 (.block 0
 (.loop
 (.seq (qr [qm 11 4,qa 12 (qf 6 1),qa 13 (ql 12),qa 14 (qk false 13),qa 15 (q2 .lss 11 14)]
 (qC 15
 .skip
 (.exit 0)))
 (.seq (.block 1
 (qr [qa 18 (qf 6 1),qa 19 (ql 18),qm 20 4,qa 21 (qy 7 19 20),qa 22 (qL 7 21),qa 23 (qc 76 [qt 22]),qm 5 23]
 (qr [qm 24 5,qa 25 (q3 .neq 24 0)]
 (qC 25
 (qr [qm 26 5,qm 2 26]
 .ret)
 .skip))))
 (.reg [qm 16 4,qa 17 (q3 .add 16 1),qm 4 17]))))))
 (qr [qa 2 (.mv (qi 0))]
 .ret))))⟩
def i77:IFn:=⟨64,[.tmp 2],(qr [qa 2 (.mv (qs []))]
 (qr [qa 3 (.mv (qs [48,49,50,51,52,53,54,55,56,57,97,98,99,100,101,102]))]
 (qr [qa 4 (.mv (qs []))]
 (.seq (qr [qa 5 (.mv (qi 0))]
 (.block 0
 (.loop
 (.seq (qr [qm 7 5,qm 8 0,qa 9 (qk true 8),qa 10 (q2 .lss 7 9)]
 (qC 10
 .skip
 (.exit 0)))
 (.seq (.block 1
 (qr [qm 13 0,qm 14 5,qa 15 (qx 13 14),qm 6 15]
 (qr [qm 16 6,qa 17 (q8 .eql 16 42),qm 18 17,qj 19 6 18,qF 20 (q8 .eql 19 40) 18,qa 21 (qp 18 20),qm 22 21,qj 23 6 22,qF 24 (q8 .eql 23 41) 22,qa 25 (qp 22 24),qm 26 25,qj 27 6 26,qF 28 (q8 .eql 27 92) 26,qa 29 (qp 26 28),qm 30 29,qj 31 6 30,qF 32 (q8 .lss 31 32) 30,qa 33 (qp 30 32),qm 34 33,qj 35 6 34,qF 36 (q8 .gtr 35 126) 34,qa 37 (qp 34 36)]
 (qC 37
 (.dreg 0 [] [qm 38 4,qa 39 (.bin .add (qt 38) (qs [92])),qm 40 3,qm 41 6,qa 42 (q8 .quo 41 16),qm 43 6,qa 44 (q8 .quo 43 16),qa 45 (q8 .add 44 1),qa 46 (.slc 0 (qt 40) (some (qt 42)) (some (qt 45)) none),qa 47 (q2 .add 39 46),qm 48 3,qm 49 6,qa 50 (q8 .rem 49 16),qm 51 6,qa 52 (q8 .rem 51 16),qa 53 (q8 .add 52 1),qa 54 (.slc 0 (qt 48) (some (qt 50)) (some (qt 53)) none),qa 55 (q2 .add 47 54),qm 4 55])
 (.reg [qm 56 4,qm 57 0,qm 58 5,qm 59 5,qa 60 (q3 .add 59 1),qa 61 (.slc 0 (qt 57) (some (qt 58)) (some (qt 60)) none),qa 62 (q2 .add 56 61),qm 4 62])))))
 (.reg [qm 11 5,qa 12 (q3 .add 11 1),qm 5 12]))))))
 (qr [qm 63 4,qm 2 63]
 .ret)))))⟩
def i85:IFn:=⟨33,[.cell 2 2 true,.tmp 3],(qr [qa 2 (.box (.c (.agg [.x (.str []),.x (.str [])]))),qa 3 (.mv (qb false))]
 (qr [qm 9 0,qa 10 (qc 26 [qt 9,(qs [61])]),qm 8 10,qe 11 8 0,qe 12 8 1,qe 13 8 2,qm 4 11,qm 5 12,qm 6 13]
 (qr [qm 14 4,qa 15 (qc 99 [qt 14,(qs [32])]),qm 4 15]
 (.seq (qr [qm 16 6,qa 17 (qz 16),qm 18 17,qj 19 4 18,qF 20 (qc 100 [qt 19]) 18,qF 21 (qz 20) 18,qa 22 (qp 18 21)]
 (qC 22
 (qr [qa 23 (.build [.x (.str []),.x (.str [])] []),qo 2 2 23,qa 3 (.mv (qb false))]
 .ret)
 .skip))
 (qr [qm 25 5,qa 26 (qc 101 [qt 25]),qm 24 26,qe 27 24 0,qe 28 24 1,qm 7 27,qm 6 28]
 (qr [qm 29 4,qm 30 7,qa 31 (.build [.x (.str []),.x (.str [])] [(0,1,(qt 29)),(1,1,(qt 30))]),qm 32 6,qo 2 2 31,qm 3 32]
 .ret))))))⟩
def i86:IFn:=⟨51,[.tmp 2],(qr [qa 2 (.mv (qb false))]
 (qr [qa 7 (.mkm .str false),qm 3 7]
 (.seq (qr [qm 8 0,qa 9 (qk false 8),qa 10 (.mv (qi 0))]
 (.block 0
 (.loop
 (qr [qa 11 (q2 .lss 10 9)]
 (.seq (qC 11
 .skip
 (.exit 0))
 (.seq (.block 1
 (qr [qa 12 (qy 2 8 10),qa 13 (qL 2 12),qa 5 (.box (.c (.agg [.x (.str []),.x (.str [])]))),qo 2 5 13]
 (qr [qa 14 (qf 0 5),qa 15 (ql 14),qa 16 (qc 64 [qt 15]),qm 6 16]
 (.seq (qr [qa 17 (qf 0 5),qa 18 (ql 17),qa 19 (qc 100 [qt 18]),qa 20 (qz 19),qm 21 20,qF 22 (qf 1 5) 21,qF 23 (ql 22) 21,qF 24 (.bin .eql (qt 23) (qs [])) 21,qa 25 (qp 21 24),qm 26 25,qF 27 (qf 1 5) 26,qF 28 (ql 27) 26,qF 29 (qk true 28) 26,qF 30 (q3 .gtr 29 256) 26,qa 31 (qp 26 30),qm 32 31,qj 33 3 32,qj 34 6 32,qg 35 (.mlk .str false (.x (.int .i64 (0))) (qt 33) (qt 34)) 32 false,qF 36 (q3 .gtr 35 0) 32,qa 37 (qp 32 36)]
 (qC 37
 (qr [qa 2 (.mv (qb false))]
 .ret)
 .skip))
 (.reg [qm 38 3,qm 39 6,qa 40 (.mlk .str false (.x (.int .i64 (0))) (qt 38) (qt 39)),qa 41 (q3 .add 40 1),⟨none,.mup .str (qt 38) (qt 39) (qt 41),none⟩])))))
 (.reg [qa 42 (q3 .add 10 1),qm 10 42])))))))
 (qr [qm 43 0,qa 44 (qk false 43),qa 45 (q3 .geq 44 1),qm 46 45,qh 47 0 46,qT 48 (qk false 47) 46,qT 49 (q3 .leq 48 8) 46,qa 50 (qP 46 49),qm 2 50]
 .ret))))⟩
def i88:IFn:=⟨10,[.tmp 2],(qr [qa 2 (.mv (qs []))]
 (.seq (qr [qm 3 0]
 (.block 0
 (qr [qa 5 (q3 .eql 3 5),qm 4 5]
 (qC 4
 (qr [qa 2 (.mv (qs [62,61]))]
 .ret)
 (qr [qa 7 (q3 .eql 3 6),qm 6 7]
 (qC 6
 (qr [qa 2 (.mv (qs [60,61]))]
 .ret)
 (qr [qa 9 (q3 .eql 3 8),qm 8 9]
 (qC 8
 (qr [qa 2 (.mv (qs [126,61]))]
 .ret)
 .skip))))))))
 (qr [qa 2 (.mv (qs [61]))]
 .ret)))⟩
def i89:IFn:=⟨43,[.cell 2 3 true,.tmp 3],(qr [qa 2 (.box (.c (.agg [.x (.str []),.x .nils,.x (.str [])]))),qa 3 (.mv (qb false))]
 (qr [qa 4 (.mv (.c (.x .nils)))]
 (.seq (qr [qm 10 0,qa 11 (qk false 10),qa 12 (.mv (qi 0))]
 (.block 0
 (.loop
 (qr [qa 13 (q2 .lss 12 11)]
 (.seq (qC 13
 .skip
 (.exit 0))
 (.seq (.block 1
 (qr [qa 14 (qy 1 10 12),qa 15 (ql 14),qm 6 15]
 (qr [qm 17 6,qa 18 (qc 90 [qt 17]),qm 16 18,qe 19 16 0,qe 20 16 1,qm 7 19,qm 8 20]
 (.seq (qr [qm 21 8,qa 22 (qz 21)]
 (qC 22
 (qr [qa 23 (.build [.x (.str []),.x .nils,.x (.str [])] []),qo 3 2 23,qa 3 (.mv (qb false))]
 .ret)
 .skip))
 (.reg [qm 24 4,qm 25 7,qa 26 (.bsl 9 1 1 [qt 25]),qa 27 (.app 9 1 16 (qt 24) (qt 26)),qm 4 27])))))
 (.reg [qa 28 (q3 .add 12 1),qm 12 28])))))))
 (qr [qm 29 4,qa 30 (qk false 29),qa 31 (q3 .sub 30 1),qm 9 31]
 (.seq (.dreg 10 [] [qm 32 4,qa 33 (.iad 1 (qt 32) (qi 0)),qa 34 (ql 33),qm 35 4,qm 36 9,qa 37 (.slc 1 (qt 35) (some (qi 1)) (some (qt 36)) none),qm 38 4,qm 39 9,qa 40 (qy 1 38 39),qa 41 (ql 40),qa 42 (.build [.x (.str []),.x .nils,.x (.str [])] [(0,1,(qt 34)),(1,1,(qt 37)),(2,1,(qt 41))]),qo 3 2 42,qa 3 (.mv (qb true))])
 .ret)))))⟩
def i90:IFn:=⟨69,[.tmp 2,.tmp 3],(qr [qa 2 (.mv (qs [])),qa 3 (.mv (qb false))]
 (qr [qa 4 (.mv (.c (.x .nils)))]
 (.seq (qr [qa 5 (.mv (qi 0))]
 (.block 0
 (.loop
 (.seq (qr [qm 11 5,qm 12 0,qa 13 (qk true 12),qa 14 (q2 .lss 11 13)]
 (qC 14
 .skip
 (.exit 0)))
 (.seq (.block 1
 (qr [qm 17 0,qm 18 5,qa 19 (qx 17 18),qm 6 19]
 (.seq (qr [qm 20 6,qa 21 (q8 .neq 20 92)]
 (qC 21
 (qr [qm 22 4,qm 23 6,qa 24 (.bsl 5 1 1 [qt 23]),qa 25 (.app 5 1 1 (qt 22) (qt 24)),qm 4 25]
 (.exit 1))
 .skip))
 (.seq (qr [qm 26 0,qa 27 (qk true 26),qm 28 5,qa 29 (q2 .sub 27 28),qa 30 (q3 .lss 29 3)]
 (qC 30
 (qr [qa 2 (.mv (qs [])),qa 3 (.mv (qb false))]
 .ret)
 .skip))
 (qr [qm 32 0,qm 33 5,qa 34 (q3 .add 33 1),qa 35 (qx 32 34),qa 36 (qc 103 [qt 35]),qm 31 36,qe 37 31 0,qe 38 31 1,qm 7 37,qm 8 38]
 (qr [qm 40 0,qm 41 5,qa 42 (q3 .add 41 2),qa 43 (qx 40 42),qa 44 (qc 103 [qt 43]),qm 39 44,qe 45 39 0,qe 46 39 1,qm 9 45,qm 10 46]
 (.seq (qr [qm 47 8,qa 48 (qz 47),qm 49 48,qj 50 10 49,qF 51 (qz 50) 49,qa 52 (qp 49 51)]
 (qC 52
 (qr [qa 2 (.mv (qs [])),qa 3 (.mv (qb false))]
 .ret)
 .skip))
 (qr [qm 53 4,qm 54 7,qa 55 (.bin .shl (qt 54) (.c (.x (.int .u64 (4))))),qm 56 9,qa 57 (q2 .or 55 56),qa 58 (.bsl 5 1 1 [qt 57]),qa 59 (.app 5 1 1 (qt 53) (qt 58)),qm 4 59]
 (.reg [qm 60 5,qa 61 (q3 .add 60 2),qm 5 61])))))))))
 (.reg [qm 15 5,qa 16 (q3 .add 15 1),qm 5 16]))))))
 (.seq (.dreg 5 [] [qm 62 4,qa 63 (.b2s (qt 62)),qm 64 4,qa 65 (.b2s (qt 64)),qa 66 (qc 104 [qt 65]),qm 67 0,qa 68 (q2 .eql 66 67),qm 2 63,qm 3 68])
 .ret))))⟩
def i91:IFn:=⟨26,[.tmp 4],(qr [qa 2 (.box (qt 0)),qa 4 (.mv (qi 0))]
 (qr [qa 5 (.mv (qi 0))]
 (.seq (qr [qm 8 1,qa 9 (q3 .gtr 8 0)]
 (qC 9
 (qr [qa 10 (qf 6 2),qa 11 (ql 10),qa 12 (qk false 11),qa 13 (.mv (qi 0))]
 (.block 0
 (.loop
 (qr [qa 14 (q2 .lss 13 12)]
 (.seq (qC 14
 .skip
 (.exit 0))
 (.seq (.block 1
 (qr [qa 15 (qy 7 11 13),qa 16 (qL 7 15),qa 7 (.box (.c (.agg [.x (.int .i64 (0)),.x (.str []),.x (.str []),.x (.str []),.x .nils,.x (.str []),.x .nils]))),qo 7 7 16]
 (.reg [qm 17 5,qa 18 (qL 7 7),qm 19 1,qa 20 (q3 .sub 19 1),qa 21 (qc 91 [qt 18,qt 20]),qa 22 (.mnx true (qt 17) (qt 21)),qm 5 22])))
 (.reg [qa 23 (q3 .add 13 1),qm 13 23])))))))
 .skip))
 (qr [qm 24 5,qa 25 (q3 .add 24 1),qm 4 25]
 .ret))))⟩
def i92:IFn:=⟨49,[.tmp 2],(qr [qa 1 (.box (qt 0)),qa 2 (.mv (qi 0))]
 (.seq (.block 0
 (qr [qa 6 (qf 0 1),qa 7 (ql 6),qa 8 (q3 .lss 7 0),qm 9 8,qF 10 (qf 0 1) 9,qF 11 (ql 10) 9,qF 12 (q3 .gtr 11 8) 9,qa 13 (qp 9 12),qm 5 13]
 (qC 5
 (qr [qa 2 (.mv (qi 1))]
 .ret)
 (qr [qa 15 (qf 6 1),qa 16 (ql 15),qa 17 (qk false 16),qa 18 (q3 .gtr 17 64),qm 14 18]
 (qC 14
 (qr [qa 2 (.mv (qi 3))]
 .ret)
 (qr [qa 20 (qL 7 1),qa 21 (qc 105 [qt 20]),qa 22 (qz 21),qm 19 22]
 (qC 19
 (qr [qa 2 (.mv (qi 5))]
 .ret)
 (qr [qa 24 (qf 0 1),qa 25 (ql 24),qa 26 (q3 .gtr 25 2),qm 27 26,qT 28 (qf 1 1) 27,qT 29 (ql 28) 27,qT 30 (qc 106 [qt 29]) 27,qT 31 (qz 30) 27,qa 32 (qP 27 31),qm 23 32]
 (qC 23
 (qr [qa 2 (.mv (qi 13))]
 .ret)
 .skip)))))))))
 (.seq (.seq (.dreg 6 [] [qa 33 (qf 3 1),qa 34 (qL 3 33),qa 35 (qc 107 [qt 34]),qa 36 (qf 2 1),qa 37 (ql 36),qa 38 (.bsl 9 1 1 [qt 37]),qa 39 (.app 9 1 16 (qt 35) (qt 38)),qa 40 (qk false 39),qa 41 (.mv (qi 0))])
 (.block 1
 (.loop
 (qr [qa 42 (q2 .lss 41 40)]
 (.seq (qC 42
 .skip
 (.exit 1))
 (.seq (.block 2
 (qr [qa 43 (qy 1 39 41),qa 44 (ql 43),qm 4 44]
 (qr [qm 45 4,qa 46 (qk true 45),qa 47 (q3 .gtr 46 1024)]
 (qC 47
 (qr [qa 2 (.mv (qi 3))]
 .ret)
 .skip))))
 (.reg [qa 48 (q3 .add 41 1),qm 41 48])))))))
 (qr [qa 2 (.mv (qi 0))]
 .ret))))⟩
def i93:IFn:=⟨22,[.tmp 2],(qr [qa 2 (.mv (.c (.x (.int .u8 (0)))))]
 (.seq (.block 0
 (qr [qm 4 0,qa 5 (q8 .geq 4 48),qm 6 5,qh 7 0 6,qT 8 (q8 .leq 7 57) 6,qa 9 (qP 6 8),qm 3 9]
 (qC 3
 (qr [qm 10 0,qa 11 (q8 .sub 10 48),qm 2 11]
 .ret)
 (qr [qm 13 0,qa 14 (q8 .geq 13 97),qm 15 14,qh 16 0 15,qT 17 (q8 .leq 16 102) 15,qa 18 (qP 15 17),qm 12 18]
 (qC 12
 (qr [qm 19 0,qa 20 (q8 .sub 19 97),qa 21 (q8 .add 20 10),qm 2 21]
 .ret)
 .skip)))))
 (qr [qa 2 (.mv (.c (.x (.int .u8 (16)))))]
 .ret)))⟩
def i94:IFn:=⟨30,[.tmp 4],(qr [qa 2 (.box (qt 0)),qa 4 (.mv (qi 0))]
 (qr [qa 5 (.mv (qi 0))]
 (.seq (qr [qa 6 (.mv (qi 0))]
 (.block 0
 (.loop
 (.seq (qr [qm 7 6,qa 8 (qf 6 2),qa 9 (ql 8),qa 10 (qk false 9),qa 11 (q2 .lss 7 10),qm 12 11,qh 13 1 12,qT 14 (q3 .gtr 13 0) 12,qa 15 (qP 12 14)]
 (qC 15
 .skip
 (.exit 0)))
 (.seq (.block 1
 (.reg [qm 18 5,qa 19 (qf 6 2),qa 20 (ql 19),qm 21 6,qa 22 (qy 7 20 21),qa 23 (qL 7 22),qm 24 1,qa 25 (q3 .sub 24 1),qa 26 (qc 94 [qt 23,qt 25]),qa 27 (.mnx true (qt 18) (qt 26)),qm 5 27]))
 (.reg [qm 16 6,qa 17 (q3 .add 16 1),qm 6 17]))))))
 (qr [qm 28 5,qa 29 (q3 .add 28 1),qm 4 29]
 .ret))))⟩
def i95:IFn:=⟨67,[.tmp 2],(qr [qa 1 (.box (qt 0)),qa 2 (.mv (qi 0))]
 (.seq (.block 0
 (qr [qa 5 (qf 0 1),qa 6 (ql 5),qa 7 (q3 .lss 6 0),qm 8 7,qF 9 (qf 0 1) 8,qF 10 (ql 9) 8,qF 11 (q3 .gtr 10 8) 8,qa 12 (qp 8 11),qm 4 12]
 (qC 4
 (qr [qa 2 (.mv (qi 1))]
 .ret)
 (qr [qa 14 (qf 6 1),qa 15 (ql 14),qa 16 (qk false 15),qa 17 (q3 .gtr 16 64),qm 13 17]
 (qC 13
 (qr [qa 2 (.mv (qi 3))]
 .ret)
 (qr [qa 19 (qL 7 1),qa 20 (qc 108 [qt 19]),qa 21 (qz 20),qm 18 21]
 (qC 18
 (qr [qa 2 (.mv (qi 5))]
 .ret)
 (qr [qa 23 (qf 0 1),qa 24 (ql 23),qa 25 (q3 .gtr 24 2),qm 26 25,qT 27 (qf 1 1) 26,qT 28 (ql 27) 26,qT 29 (qc 19 [qt 28]) 26,qT 30 (qz 29) 26,qa 31 (qP 26 30),qm 22 31]
 (qC 22
 (qr [qa 2 (.mv (qi 13))]
 .ret)
 (qr [qa 33 (qf 2 1),qa 34 (ql 33),qa 35 (qk true 34),qa 36 (q3 .gtr 35 1024),qm 37 36,qF 38 (qf 3 1) 37,qF 39 (qf 0 38) 37,qF 40 (ql 39) 37,qF 41 (qk true 40) 37,qF 42 (q3 .gtr 41 1024) 37,qa 43 (qp 37 42),qm 44 43,qF 45 (qf 3 1) 44,qF 46 (qf 2 45) 44,qF 47 (ql 46) 44,qF 48 (qk true 47) 44,qF 49 (q3 .gtr 48 1024) 44,qa 50 (qp 44 49),qm 32 50]
 (qC 32
 (qr [qa 2 (.mv (qi 3))]
 .ret)
 .skip)))))))))))
 (.seq (qr [qa 3 (.mv (qi 0))]
 (.block 1
 (.loop
 (.seq (qr [qm 51 3,qa 52 (qf 3 1),qa 53 (qf 1 52),qa 54 (ql 53),qa 55 (qk false 54),qa 56 (q2 .lss 51 55)]
 (qC 56
 .skip
 (.exit 1)))
 (.seq (.block 2
 (qr [qa 59 (qf 3 1),qa 60 (qf 1 59),qa 61 (ql 60),qm 62 3,qa 63 (qy 1 61 62),qa 64 (ql 63),qa 65 (qk true 64),qa 66 (q3 .gtr 65 1024)]
 (qC 66
 (qr [qa 2 (.mv (qi 3))]
 .ret)
 .skip)))
 (.reg [qm 57 3,qa 58 (q3 .add 57 1),qm 3 58]))))))
 (qr [qa 2 (.mv (qi 0))]
 .ret))))⟩
def i99:IFn:=⟨43,[.tmp 4],(qr [qa 4 (.mv (qs []))]
 (.seq (qr [qm 7 0,qa 8 (.bin .eql (qt 7) (qs [])),qm 9 8,qj 10 1 9,qF 11 (.bin .eql (qt 10) (qs [])) 9,qa 12 (qp 9 11)]
 (qC 12
 (qr [qm 13 0,qm 4 13]
 .ret)
 .skip))
 (.seq (qr [qm 14 1,qa 15 (qk true 14),qa 16 (q3 .eql 15 1),qm 17 16,qh 18 1 17,qT 19 (.idx (qt 18) (qi 0)) 17,qT 20 (q8 .lss 19 128) 17,qa 21 (qP 17 20)]
 (qC 21
 (.seq (.dreg 0 [] [qm 22 0,qm 23 1,qa 24 (.idx (qt 23) (qi 0)),qa 25 (qc 110 [qt 22,qt 24]),qm 26 1,qa 27 (.idx (qt 26) (qi 0)),qa 28 (qc 109 [qt 25,qt 27]),qm 4 28])
 .ret)
 .skip))
 (.seq (qr [qm 30 1,qa 31 (qc 111 [qt 30]),qm 29 31,qe 32 29 0,qe 33 29 1,qa 5 (.abx 134 (.c (.agg [.x (.bool false),.x (.bool false),.x (.bool false),.x (.bool false),.x (.bool false),.x (.bool false),.x (.bool false),.x (.bool false),.x (.bool false),.x (.bool false),.x (.bool false),.x (.bool false),.x (.bool false),.x (.bool false),.x (.bool false),.x (.bool false),.x (.bool false),.x (.bool false),.x (.bool false),.x (.bool false),.x (.bool false),.x (.bool false),.x (.bool false),.x (.bool false),.x (.bool false),.x (.bool false),.x (.bool false),.x (.bool false),.x (.bool false),.x (.bool false),.x (.bool false),.x (.bool false),.x (.bool false),.x (.bool false),.x (.bool false),.x (.bool false),.x (.bool false),.x (.bool false),.x (.bool false),.x (.bool false),.x (.bool false),.x (.bool false),.x (.bool false),.x (.bool false),.x (.bool false),.x (.bool false),.x (.bool false),.x (.bool false),.x (.bool false),.x (.bool false),.x (.bool false),.x (.bool false),.x (.bool false),.x (.bool false),.x (.bool false),.x (.bool false),.x (.bool false),.x (.bool false),.x (.bool false),.x (.bool false),.x (.bool false),.x (.bool false),.x (.bool false),.x (.bool false),.x (.bool false),.x (.bool false),.x (.bool false),.x (.bool false),.x (.bool false),.x (.bool false),.x (.bool false),.x (.bool false),.x (.bool false),.x (.bool false),.x (.bool false),.x (.bool false),.x (.bool false),.x (.bool false),.x (.bool false),.x (.bool false),.x (.bool false),.x (.bool false),.x (.bool false),.x (.bool false),.x (.bool false),.x (.bool false),.x (.bool false),.x (.bool false),.x (.bool false),.x (.bool false),.x (.bool false),.x (.bool false),.x (.bool false),.x (.bool false),.x (.bool false),.x (.bool false),.x (.bool false),.x (.bool false),.x (.bool false),.x (.bool false),.x (.bool false),.x (.bool false),.x (.bool false),.x (.bool false),.x (.bool false),.x (.bool false),.x (.bool false),.x (.bool false),.x (.bool false),.x (.bool false),.x (.bool false),.x (.bool false),.x (.bool false),.x (.bool false),.x (.bool false),.x (.bool false),.x (.bool false),.x (.bool false),.x (.bool false),.x (.bool false),.x (.bool false),.x (.bool false),.x (.bool false),.x (.bool false),.x (.bool false),.x (.bool false),.x (.bool false),.x (.bool false),.x (.bool false),.x (.bool false),.x (.bool false),.x (.bool false),.x (.bool false),.x (.bool false),.x (.bool false),.x (.bool false),.x (.bool false),.x (.bool false),.x (.bool false),.x (.bool false),.x (.bool false),.x (.bool false),.x (.bool false),.x (.bool false),.x (.bool false),.x (.bool false),.x (.bool false),.x (.bool false),.x (.bool false),.x (.bool false),.x (.bool false),.x (.bool false),.x (.bool false),.x (.bool false),.x (.bool false),.x (.bool false),.x (.bool false),.x (.bool false),.x (.bool false),.x (.bool false),.x (.bool false),.x (.bool false),.x (.bool false),.x (.bool false),.x (.bool false),.x (.bool false),.x (.bool false),.x (.bool false),.x (.bool false),.x (.bool false),.x (.bool false),.x (.bool false),.x (.bool false),.x (.bool false),.x (.bool false),.x (.bool false),.x (.bool false),.x (.bool false),.x (.bool false),.x (.bool false),.x (.bool false),.x (.bool false),.x (.bool false),.x (.bool false),.x (.bool false),.x (.bool false),.x (.bool false),.x (.bool false),.x (.bool false),.x (.bool false),.x (.bool false),.x (.bool false),.x (.bool false),.x (.bool false),.x (.bool false),.x (.bool false),.x (.bool false),.x (.bool false),.x (.bool false),.x (.bool false),.x (.bool false),.x (.bool false),.x (.bool false),.x (.bool false),.x (.bool false),.x (.bool false),.x (.bool false),.x (.bool false),.x (.bool false),.x (.bool false),.x (.bool false),.x (.bool false),.x (.bool false),.x (.bool false),.x (.bool false),.x (.bool false),.x (.bool false),.x (.bool false),.x (.bool false),.x (.bool false),.x (.bool false),.x (.bool false),.x (.bool false),.x (.bool false),.x (.bool false),.x (.bool false),.x (.bool false),.x (.bool false),.x (.bool false),.x (.bool false),.x (.bool false),.x (.bool false),.x (.bool false),.x (.bool false),.x (.bool false),.x (.bool false),.x (.bool false),.x (.bool false),.x (.bool false),.x (.bool false),.x (.bool false),.x (.bool false),.x (.bool false),.x (.bool false),.x (.bool false),.x (.bool false),.x (.bool false),.x (.bool false),.x (.bool false),.x (.bool false),.x (.bool false),.x (.bool false),.x (.bool false),.x (.bool false),.x (.bool false),.x (.bool false)]))),qo 256 5 32,qm 6 33]
 (qr [qm 34 6]
 (qC 34
 (qr [qm 35 0,qa 36 (qc 113 [qt 35,qt 5]),qa 37 (qc 112 [qt 36,qt 5]),qm 4 37]
 .ret)
 .skip)))
 (qr [qm 38 0,qm 39 1,qa 40 (qc 115 [qt 38,qt 39]),qm 41 1,qa 42 (qc 114 [qt 40,qt 41]),qm 4 42]
 .ret)))))⟩
def i100:IFn:=⟨51,[.tmp 2],(qr [qa 2 (.mv (qb false))]
 (qr [qm 7 0,qa 8 (.bin .neq (qt 7) (qs [])),qm 9 8,qh 10 0 9,qT 11 (qk true 10) 9,qT 12 (q3 .leq 11 64) 9,qa 13 (qP 9 12),qm 3 13]
 (.seq (qr [qm 14 0,qa 15 (qc 64 [qt 14]),qa 16 (.s2b 5 (qt 15)),qa 17 (qk false 16),qa 18 (.mv (qi 0))]
 (.block 0
 (.loop
 (qr [qa 19 (q2 .lss 18 17)]
 (.seq (qC 19
 .skip
 (.exit 0))
 (.seq (.block 1
 (qr [qm 20 18,qa 21 (qy 1 16 18),qa 22 (ql 21),qm 4 20,qm 5 22]
 (qr [qm 23 5,qa 24 (q8 .geq 23 97),qm 25 24,qh 26 5 25,qT 27 (q8 .leq 26 122) 25,qa 28 (qP 25 27),qm 6 28]
 (.reg [qm 29 3,qm 30 29,qh 31 6 30,qh 32 31 30,qj 33 4 32,qF 34 (q3 .gtr 33 0) 32,qj 35 34 32,qh 36 5 35,qT 37 (q8 .geq 36 48) 35,qh 38 37 35,qh 39 5 38,qT 40 (q8 .leq 39 57) 38,qT 41 (qP 38 40) 35,qh 42 41 35,qj 43 5 42,qF 44 (q8 .eql 43 45) 42,qT 45 (qp 42 44) 35,qF 46 (qP 35 45) 32,qT 47 (qp 32 46) 30,qa 48 (qP 30 47),qm 3 48]))))
 (.reg [qa 49 (q3 .add 18 1),qm 18 49])))))))
 (qr [qm 50 3,qm 2 50]
 .ret))))⟩
def i101:IFn:=⟨56,[.tmp 2,.tmp 3],(qr [qa 2 (.mv (qs [])),qa 3 (.mv (qb false))]
 (.scope (qr [qm 10 0,qa 11 (qc 116 [qt 10,(qs [32])]),qm 0 11]
 (qr [qa 4 (.mv (.c (.x .nils)))]
 (qr [qa 5 (.mv (qi 0))]
 (.seq (.label 0)
 (.seq (.block 0
 (.loop
 (.seq (qr [qm 12 0,qa 13 (.bin .neq (qt 12) (qs []))]
 (qC 13
 .skip
 (.exit 0)))
 (.block 1
 (qr [qm 14 0,qa 15 (.idx (qt 14) (qi 0)),qm 6 15]
 (qr [qm 16 0,qa 17 (.slc 0 (qt 16) (some (qi 1)) none none),qm 0 17]
 (.seq (.block 2
 (qr [qm 25 6,qa 26 (q8 .eql 25 92),qm 24 26]
 (qC 24
 (qr [qm 28 0,qa 29 (qc 117 [qt 28]),qm 27 29,qe 30 27 0,qe 31 27 1,qe 32 27 2,qm 7 30,qm 8 31,qm 9 32]
 (.seq (qr [qm 33 9,qa 34 (qz 33)]
 (qC 34
 (qr [qa 2 (.mv (qs [])),qa 3 (.mv (qb false))]
 .ret)
 .skip))
 (.dreg 0 [] [qm 35 4,qm 36 7,qa 37 (.bsl 5 1 1 [qt 36]),qa 38 (.app 5 1 1 (qt 35) (qt 37)),qm 39 0,qm 40 8,qa 41 (.slc 0 (qt 39) (some (qt 40)) none none),qm 4 38,qm 0 41])))
 (qr [qm 43 6,qm 44 4,qa 45 (qk false 44),qa 46 (q3 .eql 45 0),qa 47 (qc 118 [qt 43,qt 46]),qm 42 47]
 (qC 42
 (qr [qa 2 (.mv (qs [])),qa 3 (.mv (qb false))]
 .ret)
 (qr [qm 18 4,qm 19 6,qa 20 (.bsl 5 1 1 [qt 19]),qa 21 (.app 5 1 1 (qt 18) (qt 20)),qm 4 21]
 (qr [qm 22 6,qa 23 (q8 .eql 22 32)]
 (qC 23
 (.exit 1)
 .skip))))))))
 (.reg [qm 48 4,qa 49 (qk false 48),qm 5 49]))))))))
 (qr [qm 50 4,qm 51 5,qa 52 (.slc 1 (qt 50) none (some (qt 51)) none),qa 53 (.b2s (qt 52)),qm 54 5,qa 55 (q3 .gtr 54 0),qm 2 53,qm 3 55]
 .ret))))))
 (qr [qm 10 0,qa 11 (qc 116 [qt 10,(qs [32])]),qm 0 11]
 (qr [qa 4 (.mv (.c (.x .nils)))]
 (qr [qa 5 (.mv (qi 0))]
 (.seq (.label 0)
 (.seq (.block 0
 (.loop
 (.seq (qr [qm 12 0,qa 13 (.bin .neq (qt 12) (qs []))]
 (qC 13
 .skip
 (.exit 0)))
 (.block 1
 (qr [qm 14 0,qa 15 (.idx (qt 14) (qi 0)),qm 6 15]
 (qr [qm 16 0,qa 17 (.slc 0 (qt 16) (some (qi 1)) none none),qm 0 17]
 (.seq (.block 2
 (qr [qm 25 6,qa 26 (q8 .eql 25 92),qm 24 26]
 (qC 24
 (qr [qm 28 0,qa 29 (qc 117 [qt 28]),qm 27 29,qe 30 27 0,qe 31 27 1,qe 32 27 2,qm 7 30,qm 8 31,qm 9 32]
 (.seq (qr [qm 33 9,qa 34 (qz 33)]
 (qC 34
 (qr [qa 2 (.mv (qs [])),qa 3 (.mv (qb false))]
 .ret)
 .skip))
 (.dreg 0 [] [qm 35 4,qm 36 7,qa 37 (.bsl 5 1 1 [qt 36]),qa 38 (.app 5 1 1 (qt 35) (qt 37)),qm 39 0,qm 40 8,qa 41 (.slc 0 (qt 39) (some (qt 40)) none none),qm 4 38,qm 0 41])))
 (qr [qm 43 6,qm 44 4,qa 45 (qk false 44),qa 46 (q3 .eql 45 0),qa 47 (qc 118 [qt 43,qt 46]),qm 42 47]
 (qC 42
 (qr [qa 2 (.mv (qs [])),qa 3 (.mv (qb false))]
 .ret)
 (qr [qm 18 4,qm 19 6,qa 20 (.bsl 5 1 1 [qt 19]),qa 21 (.app 5 1 1 (qt 18) (qt 20)),qm 4 21]
 (qr [qm 22 6,qa 23 (q8 .eql 22 32)]
 (qC 23
 (.exit 1)
 .skip))))))))
 (.reg [qm 48 4,qa 49 (qk false 48),qm 5 49]))))))))
 (qr [qm 50 4,qm 51 5,qa 52 (.slc 1 (qt 50) none (some (qt 51)) none),qa 53 (.b2s (qt 52)),qm 54 5,qa 55 (q3 .gtr 54 0),qm 2 53,qm 3 55]
 .ret))))))))⟩
def i104:IFn:=⟨32,[.tmp 2],(qr [qa 2 (.mv (qs []))]
 (.scope (qr [qa 3 (.mv (.c (.x .nils)))]
 (qr [qa 4 (.mv (qi 0))]
 (.seq (.label 0)
 (.seq (qr [qm 6 4,qm 7 0,qa 8 (qk true 7),qa 9 (q2 .lss 6 8)]
 (qC 9
 (qr [qm 10 0,qm 11 4,qa 12 (qx 10 11),qm 5 12]
 (qr [qm 13 4,qa 14 (q3 .add 13 1),qm 4 14]
 (.seq (qr [qm 15 5,qa 16 (qc 120 [qt 15])]
 (qC 16
 (.dreg 0 [] [qm 17 3,qm 18 5,qa 19 (q8 .quo 18 16),qa 20 (.idx (qs [48,49,50,51,52,53,54,55,56,57,97,98,99,100,101,102]) (qt 19)),qm 21 5,qa 22 (q8 .rem 21 16),qa 23 (.idx (qs [48,49,50,51,52,53,54,55,56,57,97,98,99,100,101,102]) (qt 22)),qa 24 (.bsl 5 1 3 [(.c (.x (.int .u8 (92)))),qt 20,qt 23]),qa 25 (.app 5 1 1 (qt 17) (qt 24)),qm 3 25])
 (.reg [qm 26 3,qm 27 5,qa 28 (.bsl 5 1 1 [qt 27]),qa 29 (.app 5 1 1 (qt 26) (qt 28)),qm 3 29])))
 (.goto 0))))
 .skip))
 (qr [qm 30 3,qa 31 (.b2s (qt 30)),qm 2 31]
 .ret)))))
 (qr [qa 3 (.mv (.c (.x .nils)))]
 (qr [qa 4 (.mv (qi 0))]
 (.seq (.label 0)
 (.seq (qr [qm 6 4,qm 7 0,qa 8 (qk true 7),qa 9 (q2 .lss 6 8)]
 (qC 9
 (qr [qm 10 0,qm 11 4,qa 12 (qx 10 11),qm 5 12]
 (qr [qm 13 4,qa 14 (q3 .add 13 1),qm 4 14]
 (.seq (qr [qm 15 5,qa 16 (qc 120 [qt 15])]
 (qC 16
 (.dreg 0 [] [qm 17 3,qm 18 5,qa 19 (q8 .quo 18 16),qa 20 (.idx (qs [48,49,50,51,52,53,54,55,56,57,97,98,99,100,101,102]) (qt 19)),qm 21 5,qa 22 (q8 .rem 21 16),qa 23 (.idx (qs [48,49,50,51,52,53,54,55,56,57,97,98,99,100,101,102]) (qt 22)),qa 24 (.bsl 5 1 3 [(.c (.x (.int .u8 (92)))),qt 20,qt 23]),qa 25 (.app 5 1 1 (qt 17) (qt 24)),qm 3 25])
 (.reg [qm 26 3,qm 27 5,qa 28 (.bsl 5 1 1 [qt 27]),qa 29 (.app 5 1 1 (qt 26) (qt 28)),qm 3 29])))
 (.goto 0))))
 .skip))
 (qr [qm 30 3,qa 31 (.b2s (qt 30)),qm 2 31]
 .ret)))))))⟩
def i105:IFn:=⟨74,[.tmp 2],(qr [qa 1 (.box (qt 0)),qa 2 (.mv (qb false))]
 (.seq (qr [qa 3 (qf 0 1),qa 4 (ql 3)]
 (.block 0
 (.seq (qr [qa 6 (q3 .eql 4 0),qm 5 6]
 (qC 5
 .skip
 (qr [qa 7 (q3 .eql 4 1),qm 5 7]
 (qC 5
 .skip
 (.reg [qa 8 (q3 .eql 4 2),qm 5 8])))))
 (qC 5
 (qr [qa 9 (qf 1 1),qa 10 (ql 9),qa 11 (.bin .eql (qt 10) (qs [])),qm 12 11,qT 13 (qf 2 1) 12,qT 14 (ql 13) 12,qT 15 (.bin .eql (qt 14) (qs [])) 12,qa 16 (qP 12 15),qm 17 16,qT 18 (qf 3 1) 17,qT 19 (qL 3 18) 17,qT 20 (qc 121 [qt 19]) 17,qa 21 (qP 17 20),qm 22 21,qT 23 (qf 0 1) 22,qT 24 (ql 23) 22,qT 25 (q3 .neq 24 2) 22,qh 26 25 22,qF 27 (qf 6 1) 26,qF 28 (ql 27) 26,qF 29 (qk false 28) 26,qF 30 (q3 .eql 29 1) 26,qT 31 (qp 26 30) 22,qa 32 (qP 22 31),qm 2 32]
 .ret)
 (qr [qa 34 (q3 .eql 4 4),qm 33 34]
 (qC 33
 (qr [qa 35 (qf 6 1),qa 36 (ql 35),qa 37 (qk false 36),qa 38 (q3 .eql 37 0),qm 39 38,qT 40 (qf 2 1) 39,qT 41 (ql 40) 39,qT 42 (.bin .eql (qt 41) (qs [])) 39,qa 43 (qP 39 42),qm 44 43,qT 45 (qf 3 1) 44,qT 46 (qL 3 45) 44,qT 47 (qc 122 [qt 46]) 44,qa 48 (qP 44 47),qm 2 48]
 .ret)
 (qr [qa 50 (q3 .eql 4 7),qm 49 50]
 (qC 49
 (qr [qa 51 (qf 6 1),qa 52 (ql 51),qa 53 (qk false 52),qa 54 (q3 .eql 53 0),qm 55 54,qT 56 (qf 2 1) 55,qT 57 (ql 56) 55,qT 58 (.bin .eql (qt 57) (qs [])) 55,qa 59 (qP 55 58),qm 60 59,qT 61 (qf 3 1) 60,qT 62 (qL 3 61) 60,qT 63 (qc 121 [qt 62]) 60,qa 64 (qP 60 63),qm 2 64]
 .ret)
 .skip))))))))
 (qr [qa 65 (qf 6 1),qa 66 (ql 65),qa 67 (qk false 66),qa 68 (q3 .eql 67 0),qm 69 68,qT 70 (qf 3 1) 69,qT 71 (qL 3 70) 69,qT 72 (qc 121 [qt 71]) 69,qa 73 (qP 69 72),qm 2 73]
 .ret)))⟩
def i106:IFn:=⟨51,[.tmp 2],(qr [qa 2 (.mv (qb false))]
 (qr [qm 7 0,qa 8 (.bin .neq (qt 7) (qs [])),qm 9 8,qh 10 0 9,qT 11 (qk true 10) 9,qT 12 (q3 .leq 11 64) 9,qa 13 (qP 9 12),qm 3 13]
 (.seq (qr [qm 14 0,qa 15 (qc 64 [qt 14]),qa 16 (.s2b 5 (qt 15)),qa 17 (qk false 16),qa 18 (.mv (qi 0))]
 (.block 0
 (.loop
 (qr [qa 19 (q2 .lss 18 17)]
 (.seq (qC 19
 .skip
 (.exit 0))
 (.seq (.block 1
 (qr [qm 20 18,qa 21 (qy 1 16 18),qa 22 (ql 21),qm 4 20,qm 5 22]
 (qr [qm 23 5,qa 24 (q8 .geq 23 97),qm 25 24,qh 26 5 25,qT 27 (q8 .leq 26 122) 25,qa 28 (qP 25 27),qm 6 28]
 (.reg [qm 29 3,qm 30 29,qh 31 6 30,qh 32 31 30,qj 33 4 32,qF 34 (q3 .gtr 33 0) 32,qj 35 34 32,qh 36 5 35,qT 37 (q8 .geq 36 48) 35,qh 38 37 35,qh 39 5 38,qT 40 (q8 .leq 39 57) 38,qT 41 (qP 38 40) 35,qh 42 41 35,qj 43 5 42,qF 44 (q8 .eql 43 45) 42,qT 45 (qp 42 44) 35,qF 46 (qP 35 45) 32,qT 47 (qp 32 46) 30,qa 48 (qP 30 47),qm 3 48]))))
 (.reg [qa 49 (q3 .add 18 1),qm 18 49])))))))
 (qr [qm 50 3,qm 2 50]
 .ret))))⟩
def i107:IFn:=⟨11,[.tmp 2],(qr [qa 1 (.box (qt 0)),qa 2 (.mv (.c (.x .nils)))]
 (qr [qa 3 (qf 0 1),qa 4 (ql 3),qa 5 (qf 2 1),qa 6 (ql 5),qa 7 (.bsl 9 1 2 [qt 4,qt 6]),qa 8 (qf 1 1),qa 9 (ql 8),qa 10 (.app 9 1 16 (qt 7) (qt 9)),qm 2 10]
 .ret))⟩
def i108:IFn:=⟨90,[.tmp 2],(qr [qa 1 (.box (qt 0)),qa 2 (.mv (qb false))]
 (qr [qa 6 (qf 0 1),qa 7 (ql 6),qm 3 7]
 (qr [qm 8 3,qa 9 (q3 .eql 8 0),qm 10 9,qj 11 3 10,qF 12 (q3 .eql 11 1) 10,qa 13 (qp 10 12),qm 14 13,qj 15 3 14,qF 16 (q3 .eql 15 2) 14,qa 17 (qp 14 16),qm 4 17]
 (qr [qm 18 3,qa 19 (q3 .eql 18 3),qm 20 19,qj 21 3 20,qF 22 (q3 .eql 21 5) 20,qa 23 (qp 20 22),qm 24 23,qj 25 3 24,qF 26 (q3 .eql 25 6) 24,qa 27 (qp 24 26),qm 28 27,qj 29 3 28,qF 30 (q3 .eql 29 8) 28,qa 31 (qp 28 30),qm 5 31]
 (.seq (qr [qm 32 4,qa 33 (qz 32),qm 34 33,qT 35 (qf 6 1) 34,qT 36 (ql 35) 34,qT 37 (qk false 36) 34,qT 38 (q3 .gtr 37 0) 34,qa 39 (qP 34 38),qm 40 39,qj 41 4 40,qj 42 41 40,qT 43 (qf 1 1) 42,qT 44 (ql 43) 42,qT 45 (.bin .neq (qt 44) (qs [])) 42,qF 46 (qP 42 45) 40,qa 47 (qp 40 46),qm 48 47,qj 49 5 48,qF 50 (qz 49) 48,qj 51 50 48,qT 52 (qf 2 1) 51,qT 53 (ql 52) 51,qT 54 (.bin .neq (qt 53) (qs [])) 51,qF 55 (qP 51 54) 48,qa 56 (qp 48 55),qm 57 56,qj 58 3 57,qF 59 (q3 .eql 58 2) 57,qj 60 59 57,qT 61 (qf 6 1) 60,qT 62 (ql 61) 60,qT 63 (qk false 62) 60,qT 64 (q3 .neq 63 1) 60,qF 65 (qP 60 64) 57,qa 66 (qp 57 65)]
 (qC 66
 (qr [qa 2 (.mv (qb false))]
 .ret)
 .skip))
 (.seq (qr [qm 67 3,qa 68 (q3 .eql 67 4)]
 (qC 68
 (qr [qa 69 (qf 3 1),qa 70 (qL 3 69),qa 71 (qc 123 [qt 70]),qa 72 (q3 .eql 71 0),qm 2 72]
 .ret)
 .skip))
 (qr [qa 73 (qf 3 1),qa 74 (qf 0 73),qa 75 (ql 74),qa 76 (.bin .eql (qt 75) (qs [])),qm 77 76,qT 78 (qf 3 1) 77,qT 79 (qf 2 78) 77,qT 80 (ql 79) 77,qT 81 (.bin .eql (qt 80) (qs [])) 77,qa 82 (qP 77 81),qm 83 82,qT 84 (qf 3 1) 83,qT 85 (qf 1 84) 83,qT 86 (ql 85) 83,qT 87 (qk false 86) 83,qT 88 (q3 .eql 87 0) 83,qa 89 (qP 83 88),qm 2 89]
 .ret)))))))⟩
def i109:IFn:=⟨17,[.tmp 4],(qr [qa 4 (.mv (qs []))]
 (.seq (.block 0
 (.loop
 (.seq (qr [qm 5 0,qa 6 (qk true 5),qa 7 (q3 .gtr 6 0),qm 8 7,qh 9 0 8,qT 10 (.idx (qt 9) (qi 0)) 8,qh 11 1 8,qT 12 (q2 .eql 10 11) 8,qa 13 (qP 8 12)]
 (qC 13
 .skip
 (.exit 0)))
 (.block 1
 (.reg [qm 14 0,qa 15 (.slc 0 (qt 14) (some (qi 1)) none none),qm 0 15])))))
 (qr [qm 16 0,qm 4 16]
 .ret)))⟩
def i110:IFn:=⟨23,[.tmp 4],(qr [qa 4 (.mv (qs []))]
 (.seq (.block 0
 (.loop
 (.seq (qr [qm 5 0,qa 6 (qk true 5),qa 7 (q3 .gtr 6 0),qm 8 7,qh 9 0 8,qh 10 0 8,qT 11 (qk true 10) 8,qT 12 (q3 .sub 11 1) 8,qT 13 (qx 9 12) 8,qh 14 1 8,qT 15 (q2 .eql 13 14) 8,qa 16 (qP 8 15)]
 (qC 16
 .skip
 (.exit 0)))
 (.block 1
 (.reg [qm 17 0,qm 18 0,qa 19 (qk true 18),qa 20 (q3 .sub 19 1),qa 21 (.slc 0 (qt 17) none (some (qt 20)) none),qm 0 21])))))
 (qr [qm 22 0,qm 4 22]
 .ret)))⟩
def i116:IFn:=⟨37,[.tmp 4],(qr [qa 4 (.mv (qs []))]
 (.seq (qr [qm 7 0,qa 8 (.bin .eql (qt 7) (qs [])),qm 9 8,qj 10 1 9,qF 11 (.bin .eql (qt 10) (qs [])) 9,qa 12 (qp 9 11)]
 (qC 12
 (qr [qm 13 0,qm 4 13]
 .ret)
 .skip))
 (.seq (qr [qm 14 1,qa 15 (qk true 14),qa 16 (q3 .eql 15 1),qm 17 16,qh 18 1 17,qT 19 (.idx (qt 18) (qi 0)) 17,qT 20 (q8 .lss 19 128) 17,qa 21 (qP 17 20)]
 (qC 21
 (qr [qm 22 0,qm 23 1,qa 24 (.idx (qt 23) (qi 0)),qa 25 (qc 109 [qt 22,qt 24]),qm 4 25]
 .ret)
 .skip))
 (.seq (qr [qm 27 1,qa 28 (qc 111 [qt 27]),qm 26 28,qe 29 26 0,qe 30 26 1,qa 5 (.abx 134 (.c (.agg [.x (.bool false),.x (.bool false),.x (.bool false),.x (.bool false),.x (.bool false),.x (.bool false),.x (.bool false),.x (.bool false),.x (.bool false),.x (.bool false),.x (.bool false),.x (.bool false),.x (.bool false),.x (.bool false),.x (.bool false),.x (.bool false),.x (.bool false),.x (.bool false),.x (.bool false),.x (.bool false),.x (.bool false),.x (.bool false),.x (.bool false),.x (.bool false),.x (.bool false),.x (.bool false),.x (.bool false),.x (.bool false),.x (.bool false),.x (.bool false),.x (.bool false),.x (.bool false),.x (.bool false),.x (.bool false),.x (.bool false),.x (.bool false),.x (.bool false),.x (.bool false),.x (.bool false),.x (.bool false),.x (.bool false),.x (.bool false),.x (.bool false),.x (.bool false),.x (.bool false),.x (.bool false),.x (.bool false),.x (.bool false),.x (.bool false),.x (.bool false),.x (.bool false),.x (.bool false),.x (.bool false),.x (.bool false),.x (.bool false),.x (.bool false),.x (.bool false),.x (.bool false),.x (.bool false),.x (.bool false),.x (.bool false),.x (.bool false),.x (.bool false),.x (.bool false),.x (.bool false),.x (.bool false),.x (.bool false),.x (.bool false),.x (.bool false),.x (.bool false),.x (.bool false),.x (.bool false),.x (.bool false),.x (.bool false),.x (.bool false),.x (.bool false),.x (.bool false),.x (.bool false),.x (.bool false),.x (.bool false),.x (.bool false),.x (.bool false),.x (.bool false),.x (.bool false),.x (.bool false),.x (.bool false),.x (.bool false),.x (.bool false),.x (.bool false),.x (.bool false),.x (.bool false),.x (.bool false),.x (.bool false),.x (.bool false),.x (.bool false),.x (.bool false),.x (.bool false),.x (.bool false),.x (.bool false),.x (.bool false),.x (.bool false),.x (.bool false),.x (.bool false),.x (.bool false),.x (.bool false),.x (.bool false),.x (.bool false),.x (.bool false),.x (.bool false),.x (.bool false),.x (.bool false),.x (.bool false),.x (.bool false),.x (.bool false),.x (.bool false),.x (.bool false),.x (.bool false),.x (.bool false),.x (.bool false),.x (.bool false),.x (.bool false),.x (.bool false),.x (.bool false),.x (.bool false),.x (.bool false),.x (.bool false),.x (.bool false),.x (.bool false),.x (.bool false),.x (.bool false),.x (.bool false),.x (.bool false),.x (.bool false),.x (.bool false),.x (.bool false),.x (.bool false),.x (.bool false),.x (.bool false),.x (.bool false),.x (.bool false),.x (.bool false),.x (.bool false),.x (.bool false),.x (.bool false),.x (.bool false),.x (.bool false),.x (.bool false),.x (.bool false),.x (.bool false),.x (.bool false),.x (.bool false),.x (.bool false),.x (.bool false),.x (.bool false),.x (.bool false),.x (.bool false),.x (.bool false),.x (.bool false),.x (.bool false),.x (.bool false),.x (.bool false),.x (.bool false),.x (.bool false),.x (.bool false),.x (.bool false),.x (.bool false),.x (.bool false),.x (.bool false),.x (.bool false),.x (.bool false),.x (.bool false),.x (.bool false),.x (.bool false),.x (.bool false),.x (.bool false),.x (.bool false),.x (.bool false),.x (.bool false),.x (.bool false),.x (.bool false),.x (.bool false),.x (.bool false),.x (.bool false),.x (.bool false),.x (.bool false),.x (.bool false),.x (.bool false),.x (.bool false),.x (.bool false),.x (.bool false),.x (.bool false),.x (.bool false),.x (.bool false),.x (.bool false),.x (.bool false),.x (.bool false),.x (.bool false),.x (.bool false),.x (.bool false),.x (.bool false),.x (.bool false),.x (.bool false),.x (.bool false),.x (.bool false),.x (.bool false),.x (.bool false),.x (.bool false),.x (.bool false),.x (.bool false),.x (.bool false),.x (.bool false),.x (.bool false),.x (.bool false),.x (.bool false),.x (.bool false),.x (.bool false),.x (.bool false),.x (.bool false),.x (.bool false),.x (.bool false),.x (.bool false),.x (.bool false),.x (.bool false),.x (.bool false),.x (.bool false),.x (.bool false),.x (.bool false),.x (.bool false),.x (.bool false),.x (.bool false),.x (.bool false),.x (.bool false),.x (.bool false),.x (.bool false),.x (.bool false),.x (.bool false),.x (.bool false),.x (.bool false),.x (.bool false),.x (.bool false),.x (.bool false),.x (.bool false),.x (.bool false),.x (.bool false),.x (.bool false),.x (.bool false),.x (.bool false),.x (.bool false),.x (.bool false),.x (.bool false),.x (.bool false),.x (.bool false),.x (.bool false),.x (.bool false),.x (.bool false),.x (.bool false)]))),qo 256 5 29,qm 6 30]
 (qr [qm 31 6]
 (qC 31
 (qr [qm 32 0,qa 33 (qc 112 [qt 32,qt 5]),qm 4 33]
 .ret)
 .skip)))
 (qr [qm 34 0,qm 35 1,qa 36 (qc 114 [qt 34,qt 35]),qm 4 36]
 .ret)))))⟩
def i117:IFn:=⟨49,[.tmp 2,.tmp 3,.tmp 4],(qr [qa 2 (.mv (.c (.x (.int .u8 (0))))),qa 3 (.mv (qi 0)),qa 4 (.mv (qb false))]
 (.seq (qr [qm 8 0,qa 9 (.bin .eql (qt 8) (qs []))]
 (qC 9
 (qr [qa 2 (.mv (.c (.x (.int .u8 (0))))),qa 3 (.mv (qi 0)),qa 4 (.mv (qb false))]
 .ret)
 .skip))
 (.seq (qr [qm 10 0,qa 11 (.idx (qt 10) (qi 0)),qa 12 (qc 127 [(qs [44,43,34,92,60,62,59,61]),qt 11]),qm 13 12,qj 14 0 13,qF 15 (.idx (qt 14) (qi 0)) 13,qF 16 (q8 .eql 15 32) 13,qa 17 (qp 13 16),qm 18 17,qj 19 0 18,qF 20 (.idx (qt 19) (qi 0)) 18,qF 21 (q8 .eql 20 35) 18,qa 22 (qp 18 21)]
 (qC 22
 (qr [qm 23 0,qa 24 (.idx (qt 23) (qi 0)),qm 2 24,qa 3 (.mv (qi 1)),qa 4 (.mv (qb true))]
 .ret)
 .skip))
 (qr [qm 26 0,qa 27 (.idx (qt 26) (qi 0)),qa 28 (qc 128 [qt 27]),qm 25 28,qe 29 25 0,qe 30 25 1,qm 5 29,qm 6 30]
 (.seq (qr [qm 31 6,qa 32 (qz 31),qm 33 32,qj 34 0 33,qF 35 (qk true 34) 33,qF 36 (q3 .lss 35 2) 33,qa 37 (qp 33 36)]
 (qC 37
 (qr [qa 2 (.mv (.c (.x (.int .u8 (0))))),qa 3 (.mv (qi 0)),qa 4 (.mv (qb false))]
 .ret)
 .skip))
 (qr [qm 39 0,qa 40 (.idx (qt 39) (qi 1)),qa 41 (qc 128 [qt 40]),qm 38 41,qe 42 38 0,qe 43 38 1,qm 7 42,qm 6 43]
 (qr [qm 44 5,qa 45 (.bin .shl (qt 44) (.c (.x (.int .u64 (4))))),qm 46 7,qa 47 (q2 .or 45 46),qm 48 6,qm 2 47,qa 3 (.mv (qi 2)),qm 4 48]
 .ret)))))))⟩
def i118:IFn:=⟨26,[.tmp 4],(qr [qa 4 (.mv (qb false))]
 (qr [qm 5 0,qa 6 (q8 .lss 5 32),qm 7 6,qj 8 0 7,qF 9 (q8 .eql 8 127) 7,qa 10 (qp 7 9),qm 11 10,qj 12 0 11,qF 13 (q8 .neq 12 61) 11,qj 14 13 11,qh 15 0 14,qT 16 (qc 127 [(qs [44,43,34,92,60,62,59,61]),qt 15]) 14,qF 17 (qP 14 16) 11,qa 18 (qp 11 17),qm 19 18,qj 20 1 19,qj 21 20 19,qh 22 0 21,qT 23 (q8 .eql 22 35) 21,qF 24 (qP 21 23) 19,qa 25 (qp 19 24),qm 4 25]
 .ret))⟩
def i120:IFn:=⟨25,[.tmp 2],(qr [qa 2 (.mv (qb false))]
 (qr [qm 3 0,qa 4 (q8 .eql 3 42),qm 5 4,qj 6 0 5,qF 7 (q8 .eql 6 40) 5,qa 8 (qp 5 7),qm 9 8,qj 10 0 9,qF 11 (q8 .eql 10 41) 9,qa 12 (qp 9 11),qm 13 12,qj 14 0 13,qF 15 (q8 .eql 14 92) 13,qa 16 (qp 13 15),qm 17 16,qj 18 0 17,qF 19 (q8 .lss 18 32) 17,qa 20 (qp 17 19),qm 21 20,qj 22 0 21,qF 23 (q8 .gtr 22 126) 21,qa 24 (qp 21 23),qm 2 24]
 .ret))⟩
def i121:IFn:=⟨17,[.tmp 2],(qr [qa 1 (.box (qt 0)),qa 2 (.mv (qb false))]
 (qr [qa 3 (qf 0 1),qa 4 (ql 3),qa 5 (.bin .eql (qt 4) (qs [])),qm 6 5,qT 7 (qf 2 1) 6,qT 8 (ql 7) 6,qT 9 (.bin .eql (qt 8) (qs [])) 6,qa 10 (qP 6 9),qm 11 10,qT 12 (qf 1 1) 11,qT 13 (ql 12) 11,qT 14 (qk false 13) 11,qT 15 (q3 .eql 14 0) 11,qa 16 (qP 11 15),qm 2 16]
 .ret))⟩
def i122:IFn:=⟨29,[.tmp 2],(qr [qa 1 (.box (qt 0)),qa 2 (.mv (qb false))]
 (qr [qa 3 (qf 1 1),qa 4 (ql 3),qa 5 (qk false 4),qa 6 (q3 .leq 5 16),qm 7 6,qT 8 (qf 1 1) 7,qT 9 (ql 8) 7,qT 10 (qc 129 [qt 9,(qs [])]) 7,qT 11 (qz 10) 7,qa 12 (qP 7 11),qm 13 12,qT 14 (qf 0 1) 13,qT 15 (ql 14) 13,qT 16 (.bin .neq (qt 15) (qs [])) 13,qh 17 16 13,qF 18 (qf 2 1) 17,qF 19 (ql 18) 17,qF 20 (.bin .neq (qt 19) (qs [])) 17,qT 21 (qp 17 20) 13,qh 22 21 13,qF 23 (qf 1 1) 22,qF 24 (ql 23) 22,qF 25 (qk false 24) 22,qF 26 (q3 .gtr 25 0) 22,qT 27 (qp 22 26) 13,qa 28 (qP 13 27),qm 2 28]
 .ret))⟩
def i123:IFn:=⟨37,[.tmp 2],(qr [qa 1 (.box (qt 0)),qa 2 (.mv (qi 0))]
 (.seq (qr [qa 4 (qf 0 1),qa 5 (ql 4),qa 6 (.bin .eql (qt 5) (qs [])),qm 7 6,qT 8 (qf 2 1) 7,qT 9 (ql 8) 7,qT 10 (.bin .eql (qt 9) (qs [])) 7,qa 11 (qP 7 10),qm 12 11,qT 13 (qf 1 1) 12,qT 14 (ql 13) 12,qT 15 (qk false 14) 12,qT 16 (q3 .eql 15 0) 12,qa 17 (qP 12 16),qm 18 17,qF 19 (qf 1 1) 18,qF 20 (ql 19) 18,qF 21 (qk false 20) 18,qF 22 (q3 .gtr 21 16) 18,qa 23 (qp 18 22)]
 (qC 23
 (qr [qa 2 (.mv (qi 5))]
 .ret)
 .skip))
 (.seq (qr [qa 3 (.mv (qi 0))]
 (.block 0
 (.loop
 (.seq (qr [qm 24 3,qa 25 (qf 1 1),qa 26 (ql 25),qa 27 (qk false 26),qa 28 (q2 .lss 24 27)]
 (qC 28
 .skip
 (.exit 0)))
 (.seq (.block 1
 (qr [qa 31 (qf 1 1),qa 32 (ql 31),qm 33 3,qa 34 (qy 1 32 33),qa 35 (ql 34),qa 36 (.bin .eql (qt 35) (qs []))]
 (qC 36
 (qr [qa 2 (.mv (qi 5))]
 .ret)
 .skip)))
 (.reg [qm 29 3,qa 30 (q3 .add 29 1),qm 3 30]))))))
 (qr [qa 2 (.mv (qi 0))]
 .ret))))⟩
def i127:IFn:=⟨18,[.tmp 4],(qr [qa 4 (.mv (qb false))]
 (.seq (qr [qm 7 0,qa 8 (.s2b 5 (qt 7)),qa 9 (qk false 8),qa 10 (.mv (qi 0))]
 (.block 0
 (.loop
 (qr [qa 11 (q2 .lss 10 9)]
 (.seq (qC 11
 .skip
 (.exit 0))
 (.seq (.block 1
 (qr [qa 12 (qy 1 8 10),qa 13 (ql 12),qm 6 13]
 (qr [qm 14 6,qm 15 1,qa 16 (q2 .eql 14 15)]
 (qC 16
 (qr [qa 4 (.mv (qb true))]
 .ret)
 .skip))))
 (.reg [qa 17 (q3 .add 10 1),qm 10 17])))))))
 (qr [qa 4 (.mv (qb false))]
 .ret)))⟩
def G:FuncId→Option IFn
 |3=>some i3
 |4=>some i4
 |5=>some i5
 |6=>some i6
 |7=>some i7
 |8=>some i8
 |9=>some i9
 |10=>some i10
 |11=>some i11
 |12=>some i12
 |13=>some i13
 |14=>some i14
 |16=>some i16
 |17=>some i17
 |18=>some i18
 |19=>some i19
 |20=>some i20
 |21=>some i21
 |22=>some i22
 |23=>some i23
 |27=>some i27
 |28=>some i28
 |29=>some i29
 |30=>some i30
 |31=>some i31
 |32=>some i32
 |35=>some i35
 |36=>some i36
 |37=>some i37
 |38=>some i38
 |39=>some i39
 |44=>some i44
 |45=>some i45
 |46=>some i46
 |47=>some i47
 |50=>some i50
 |51=>some i51
 |52=>some i52
 |53=>some i53
 |54=>some i54
 |55=>some i55
 |61=>some i61
 |62=>some i62
 |63=>some i63
 |64=>some i64
 |65=>some i65
 |66=>some i66
 |67=>some i67
 |68=>some i68
 |71=>some i71
 |72=>some i72
 |73=>some i73
 |74=>some i74
 |75=>some i75
 |76=>some i76
 |77=>some i77
 |85=>some i85
 |86=>some i86
 |88=>some i88
 |89=>some i89
 |90=>some i90
 |91=>some i91
 |92=>some i92
 |93=>some i93
 |94=>some i94
 |95=>some i95
 |99=>some i99
 |100=>some i100
 |101=>some i101
 |104=>some i104
 |105=>some i105
 |106=>some i106
 |107=>some i107
 |108=>some i108
 |109=>some i109
 |110=>some i110
 |116=>some i116
 |117=>some i117
 |118=>some i118
 |120=>some i120
 |121=>some i121
 |122=>some i122
 |123=>some i123
 |127=>some i127
 |_=>none
theorem G_ok:GOk Tryz.prog G:=by
 intro f p h
 unfold G at h
 split at h
 ·exact gk Tryz.func3 h
 ·exact gk Tryz.func4 h
 ·exact gk Tryz.func5 h
 ·exact gk Tryz.func6 h
 ·exact gk Tryz.func7 h
 ·exact gk Tryz.func8 h
 ·exact gk Tryz.func9 h
 ·exact gk Tryz.func10 h
 ·exact gk Tryz.func11 h
 ·exact gk Tryz.func12 h
 ·exact gk Tryz.func13 h
 ·exact gk Tryz.func14 h
 ·exact gk Tryz.func16 h
 ·exact gk Tryz.func17 h
 ·exact gk Tryz.func18 h
 ·exact gk Tryz.func19 h
 ·exact gk Tryz.func20 h
 ·exact gk Tryz.func21 h
 ·exact gk Tryz.func22 h
 ·exact gk Tryz.func23 h
 ·exact gk Tryz.func27 h
 ·exact gk Tryz.func28 h
 ·exact gk Tryz.func29 h
 ·exact gk Tryz.func30 h
 ·exact gk Tryz.func31 h
 ·exact gk Tryz.func32 h
 ·exact gk Tryz.func35 h
 ·exact gk Tryz.func36 h
 ·exact gk Tryz.func37 h
 ·exact gk Tryz.func38 h
 ·exact gk Tryz.func39 h
 ·exact gk Tryz.func44 h
 ·exact gk Tryz.func45 h
 ·exact gk Tryz.func46 h
 ·exact gk Tryz.func47 h
 ·exact gk Tryz.func50 h
 ·exact gk Tryz.func51 h
 ·exact gk Tryz.func52 h
 ·exact gk Tryz.func53 h
 ·exact gk Tryz.func54 h
 ·exact gk Tryz.func55 h
 ·exact gk Tryz.func61 h
 ·exact gk Tryz.func62 h
 ·exact gk Tryz.func63 h
 ·exact gk Tryz.func64 h
 ·exact gk Tryz.func65 h
 ·exact gk Tryz.func66 h
 ·exact gk Tryz.func67 h
 ·exact gk Tryz.func68 h
 ·exact gk Tryz.func71 h
 ·exact gk Tryz.func72 h
 ·exact gk Tryz.func73 h
 ·exact gk Tryz.func74 h
 ·exact gk Tryz.func75 h
 ·exact gk Tryz.func76 h
 ·exact gk Tryz.func77 h
 ·exact gk Tryz.func85 h
 ·exact gk Tryz.func86 h
 ·exact gk Tryz.func88 h
 ·exact gk Tryz.func89 h
 ·exact gk Tryz.func90 h
 ·exact gk Tryz.func91 h
 ·exact gk Tryz.func92 h
 ·exact gk Tryz.func93 h
 ·exact gk Tryz.func94 h
 ·exact gk Tryz.func95 h
 ·exact gk Tryz.func99 h
 ·exact gk Tryz.func100 h
 ·exact gk Tryz.func101 h
 ·exact gk Tryz.func104 h
 ·exact gk Tryz.func105 h
 ·exact gk Tryz.func106 h
 ·exact gk Tryz.func107 h
 ·exact gk Tryz.func108 h
 ·exact gk Tryz.func109 h
 ·exact gk Tryz.func110 h
 ·exact gk Tryz.func116 h
 ·exact gk Tryz.func117 h
 ·exact gk Tryz.func118 h
 ·exact gk Tryz.func120 h
 ·exact gk Tryz.func121 h
 ·exact gk Tryz.func122 h
 ·exact gk Tryz.func123 h
 ·exact gk Tryz.func127 h
 ·cases h
end Go.Proofs.YtmlpbojoekmfaaaGreatDoor
