/- CStrand CL30 CL29 CL04 -/
import Derived.Test.YtncdnegdlkmicaaGreatQLb
import Derived.Test.YtncdnegdlkmicaaGreatProg
import Derived.KernelRfl
namespace Go.Proofs.YtncdnegdlkmicaaGreat
open Go Go.Kx Go.Proofs
set_option linter.unusedVariables false
set_option maxRecDepth 100000
def ZT:SCode:=
 .seq (qr [qb 27 .lss 26 25] [27])
 (.seq (.cond (qt 27) .skip (.exit 0))
 (.seq (.block 1 (.seq (qr [qp 28 (.ixa 3) [qt 24,qt 26],qL 29 3 28,qe 6 (.new 125 [qv 0,qv 0,qv 0]) [],qs 3 6 29] [6])
 (.seq (.seq (qr [qf 30 0 6,ql 31 30,qc 32 .lss 31 1,qm 33 32,qg 34 33 false (.pur (.fla 0) [qt 6]),qg 35 33 false (.ld none (qt 34)),qg 36 33 false (.pur (.bin .gtr) [qt 35,qi 12]),qp 37 .pick [qt 33,.const (.bool true),qt 36]] [37])
 (.cond (qt 37) (.seq (qr [qp 38 (.bld [.slice none 0 0,.slice none 0 0,.slice none 0 0] []) [],qs 3 2 38,qp 3 .mov [qi 5]] [3])
 .ret) .skip))
 (.seq (qr [qm 39 4,qa 40 41 [qt 39],qm 7 40] [7])
 (.seq (.seq (qr [qm 41 7,qL 42 3 6,qa 43 42 [qt 41,qt 42],qp 44 .not [qt 43]] [44])
 (.cond (qt 44) (.seq (qr [qp 45 (.bld [.slice none 0 0,.slice none 0 0,.slice none 0 0] []) [],qs 3 2 45,qp 3 .mov [qi 4]] [3])
 .ret) .skip))
 (.seq (qr [qm 46 4,qm 47 7,qL 48 3 6,qa 49 43 [qt 46,qt 47,qt 48]] [])
 (.seq (qr [qm 50 4,qn 51 50,qf 52 4 51,ql 53 52] [53])
 (.cond (qt 53) (.seq (qr [qp 54 (.bld [.slice none 0 0,.slice none 0 0,.slice none 0 0] []) [],qs 3 2 54,qp 3 .mov [qi 9]] [3])
 .ret) .skip))))))))
 (qr [qc 55 .add 26 1,qm 26 55] [26])))
def Z83:Fun:=⟨60,[2,3,4,0,26,25,27,24,6,37,7,44,53],[.cell 2 (some 3),.tmp 3],
 .seq (qr [qe 2 (.new 47 [.slice none 0 0,.slice none 0 0,.slice none 0 0]) [],qp 3 .mov [qi 0]] [2,3])
 (.seq (qr [qp 8 (.bld [.slice none 0 0,.slice none 0 0,.slice none 0 0,.slice none 0 0,.bool false] []) [],qe 9 (.box 117) [qt 8],qm 4 9] [4])
 (.seq (.reg (.run (qm 10 4) (.run (qm 11 4) (.run (qn 12 11) (.run (qf 13 3 12) (.run (ql 14 13) (.run (qm 15 4) (.run (qp 16 (.bld [qv 0,qv 0,qv 0] []) []) (.eff (qa 17 40 [qt 15,qt 16,.const (.slice none 0 0)]) [ql 14 13] (.run (qp 18 (.bld [qv 0,.bool false,qv 0,.slice none 0 0,qv 0,qv 0,qv 0,.slice none 0 0,qv 0,qv 0,.slice none 0 0,.slice none 0 0] [(0,1),(2,1)]) [qi 1,qt 17]) (.eff (qe 19 (.box 123) [qt 18]) [ql 14 13] (.eff (qe 20 (.bsl 118 1) [qt 19]) [ql 14 13] (.eff (qe 21 (.app 118 1 8 [.pointer none]) [qt 14,qt 20]) [] (.run (qn 22 10) (.run (qf 23 3 22) (.eff (qs 1 23 21) [] .done))))))))))))))) [])
 (.seq (.seq (qr [qm 24 0,qp 25 (.len false) [qt 24],qp 26 .mov [qi 0]] [24,25,26])
 (.block 0 (.loop ZT)))
 (.seq (qr [qm 56 4,qn 57 56,qf 58 0 57,qL 59 3 58,qs 3 2 59,qp 3 .mov [qi 0]] [3])
 .ret))))⟩
theorem X77:compF Tryz.prog 22=some Z83:=by kernel_rfl
def Q30:Fun:=⟨48,[6,1,0,13,2,4],[.tmp 6],
 .seq (qr [qe 4 (.box 120) [qt 1],qp 6 .mov [qi 0]] [4,6])
 (.seq (.seq (qr [qm 7 0,qn 8 7,qf 9 0 8,qf 10 0 9,ql 11 10,qp 12 (.len false) [qt 11],qc 13 .eql 12 1000] [13])
 (.cond (qt 13) (.seq (qr [qm 14 0,qn 15 14,qf 16 4 15,qE (.st 1) [qt 16,.const (.bool true)]] [])
 (.seq (qr [qp 6 .mov [qi 0]] [6])
 .ret)) .skip))
 (.seq (qr [qm 17 0,qm 18 0,qn 19 18,qf 20 0 19,qf 21 0 20,ql 22 21,qm 23 2,qe 24 (.bsl 25 1) [qt 23],qe 25 (.app 25 1 24 [.slice none 0 0]) [qt 22,qt 24],qn 26 17,qf 27 0 26,qf 28 0 27,qs 1 28 25] [])
 (.seq (.reg (.run (qm 29 0) (.run (qm 30 0) (.run (qn 31 30) (.run (qf 32 0 31) (.run (qf 33 1 32) (.run (ql 34 33) (.run (qL 35 3 4) (.eff (qe 36 (.bsl 120 3) [qt 35]) [ql 34 33] (.eff (qe 37 (.app 120 3 24 [qv 0,qv 0,qv 0]) [qt 34,qt 36]) [] (.run (qn 38 29) (.run (qf 39 0 38) (.run (qf 40 1 39) (.eff (qs 1 40 37) [] .done))))))))))))) [])
 (.seq (qr [qm 41 0,qn 42 41,qf 43 0 42,qf 44 0 43,ql 45 44,qp 46 (.len false) [qt 45],qc 47 .sub 46 1,qm 6 47] [6])
 .ret))))⟩
theorem Z15:compF Tryz.prog 40=some Q30:=by kernel_rfl
def Q71:Fun:=⟨15,[2,0],[.tmp 2],
 .seq (qr [qp 2 .mov [.const (.pointer none)]] [2])
 (.seq (qr [qm 3 0,qn 4 3,qf 5 3 4,ql 6 5,qm 7 0,qn 8 7,qf 9 3 8,ql 10 9,qp 11 (.len false) [qt 10],qc 12 .sub 11 1,qp 13 (.ixa 1) [qt 6,qt 12],ql 14 13,qm 2 14] [2])
 .ret)⟩
theorem Z68:compF Tryz.prog 41=some Q71:=by kernel_rfl
def XI:Fun:=⟨92,[4,1,3,6,7,0,23,46,52,69],[.tmp 4],
 .seq (qr [qe 3 (.box 125) [qt 1],qp 4 .mov [.const (.bool false)]] [3,4])
 (.seq (.seq (qr [qf 5 0 3,ql 6 5] [6])
 (.block 0 (.seq (qr [qc 8 .eql 6 9,qm 7 8] [7])
 (.cond (qt 7) (.seq (qr [qm 9 0,qn 10 9,qf 11 0 10,ql 12 11,qc 13 .eql 12 3,qm 14 13,qg 15 14 true (.pur (.fla 1) [qt 3]),qg 16 14 true (.ld none (qt 15)),qg 17 14 true (.pur .mov [qt 0]),qg 18 14 true (.pur .nilc [qt 17]),qg 19 14 true (.pur (.fla 9) [qt 18]),qg 20 14 true (.ld none (qt 19)),qg 21 14 true (.pur (.bin .eql) [qt 16,qt 20]),qp 22 .pick [qt 14,qt 21,.const (.bool false)],qm 4 22] [4])
 .ret) (.seq (qr [qc 24 .eql 6 8,qm 23 24] [23])
 (.cond (qt 23) (.seq (qr [qm 25 0,qn 26 25,qf 27 0 26,ql 28 27,qc 29 .eql 28 3,qm 30 29,qg 31 30 true (.pur (.fla 1) [qt 3]),qg 32 30 true (.ld none (qt 31)),qg 33 30 true (.pur .mov [qt 0]),qg 34 30 true (.pur .nilc [qt 33]),qg 35 30 true (.pur (.fla 8) [qt 34]),qg 36 30 true (.ld none (qt 35)),qg 37 30 true (.pur (.bin .eql) [qt 32,qt 36]),qp 38 .pick [qt 30,qt 37,.const (.bool false)],qm 39 38,qg 40 39 true (.pur .mov [qt 0]),qg 41 39 true (.pur .nilc [qt 40]),qg 42 39 true (.pur (.fla 9) [qt 41]),qg 43 39 true (.ld none (qt 42)),qg 44 39 true (.pur (.bin .gtr) [qt 43,qi 0]),qp 45 .pick [qt 39,qt 44,.const (.bool false)],qm 4 45] [4])
 .ret) (.seq (qr [qc 47 .eql 6 5,qm 46 47] [46])
 (.cond (qt 46) (.seq (qr [qm 48 0,qn 49 48,qf 50 1 49,ql 51 50,qm 4 51] [4])
 .ret) (.seq (qr [qc 53 .eql 6 10,qm 52 53] [52])
 (.cond (qt 52) (.seq (qr [qm 54 0,qn 55 54,qf 56 0 55,ql 57 56,qc 58 .eql 57 2,qm 59 58,qg 60 59 true (.pur (.fla 1) [qt 3]),qg 61 59 true (.ld none (qt 60)),qg 62 59 true (.pur .mov [qt 0]),qg 63 59 true (.pur .nilc [qt 62]),qg 64 59 true (.pur (.fla 4) [qt 63]),qg 65 59 true (.pur (.fla 1) [qt 64]),qg 66 59 true (.ld none (qt 65)),qg 67 59 true (.pur (.bin .eql) [qt 61,qt 66]),qp 68 .pick [qt 59,qt 67,.const (.bool false)],qm 4 68] [4])
 .ret) (.seq (.seq (qr [qc 70 .eql 6 11,qm 69 70] [69])
 (.cond (qt 69) .skip (qr [qc 71 .eql 6 12,qm 69 71] [69])))
 (.cond (qt 69) (.seq (qr [qm 72 0,qn 73 72,qf 74 0 73,ql 75 74,qc 76 .eql 75 2,qm 77 76,qg 78 77 true (.pur (.fla 1) [qt 3]),qg 79 77 true (.ld none (qt 78)),qg 80 77 true (.pur .mov [qt 0]),qg 81 77 true (.pur .nilc [qt 80]),qg 82 77 true (.pur (.fla 4) [qt 81]),qg 83 77 true (.pur (.fla 2) [qt 82]),qg 84 77 true (.ld none (qt 83)),qg 85 77 true (.pur (.bin .gtr) [qt 79,qt 84]),qp 86 .pick [qt 77,qt 85,.const (.bool false)],qm 4 86] [4])
 .ret) .skip))))))))))))
 (.seq (qr [qm 87 0,qn 88 87,qf 89 0 88,ql 90 89,qc 91 .neq 90 3,qm 4 91] [4])
 .ret))⟩
theorem Yx:compF Tryz.prog 42=some XI:=by kernel_rfl
def Q58:Fun:=⟨148,[2,5,9,14,0,1,35,6,68,93,112,117,124,129,7],[],
 .seq (qr [qe 5 (.box 125) [qt 2]] [5])
 (.seq (qr [qf 8 0 5,ql 9 8] [9])
 (.block 0 (.seq (qr [qc 15 .eql 9 4,qm 14 15] [14])
 (.cond (qt 14) (.reg (.run (qm 16 0) (.run (qm 17 0) (.run (qn 18 17) (.run (qf 19 3 18) (.run (ql 20 19) (.run (qm 21 0) (.run (qp 22 (.bld [qv 0,qv 0,qv 0] []) []) (.run (qm 23 1) (.run (qn 24 23) (.run (qf 25 2 24) (.run (ql 26 25) (.eff (qe 27 (.bsl 3 1) [qt 26]) [ql 20 19] (.eff (qa 28 40 [qt 21,qt 22,qt 27]) [ql 20 19] (.run (qp 29 (.bld [qv 0,.bool false,qv 0,.slice none 0 0,qv 0,qv 0,qv 0,.slice none 0 0,qv 0,qv 0,.slice none 0 0,.slice none 0 0] [(0,1),(1,1),(2,1)]) [qi 1,.const (.bool true),qt 28]) (.eff (qe 30 (.box 123) [qt 29]) [ql 20 19] (.eff (qe 31 (.bsl 118 1) [qt 30]) [ql 20 19] (.eff (qe 32 (.app 118 1 8 [.pointer none]) [qt 20,qt 31]) [] (.run (qn 33 16) (.run (qf 34 3 33) (.eff (qs 1 34 32) [] .done)))))))))))))))))))) []) (.seq (qr [qc 36 .eql 9 5,qm 35 36] [35])
 (.cond (qt 35) (.seq (qr [qm 37 0,qa 38 69 [qt 37]] [])
 (.seq (qr [qm 39 0,qa 40 41 [qt 39],qm 6 40] [6])
 (.seq (.reg (.run (qm 41 6) (.run (qm 42 6) (.run (qn 43 42) (.run (qf 44 3 43) (.run (ql 45 44) (.run (qm 46 1) (.run (qn 47 46) (.run (qf 48 2 47) (.run (ql 49 48) (.eff (qe 50 (.bsl 3 1) [qt 49]) [ql 45 44] (.eff (qe 51 (.app 3 1 8 [qv 0]) [qt 45,qt 50]) [] (.run (qn 52 41) (.run (qf 53 3 52) (.eff (qs 1 53 51) [] .done)))))))))))))) [])
 (.reg (.run (qm 54 6) (.run (qm 55 0) (.run (qm 56 6) (.run (qn 57 56) (.run (qf 58 4 57) (.run (qL 59 3 58) (.run (qm 60 6) (.run (qn 61 60) (.run (qf 62 2 61) (.run (ql 63 62) (.eff (qe 64 (.bsl 3 1) [qt 63]) [qL 59 3 58] (.eff (qa 65 40 [qt 55,qt 59,qt 64]) [] (.run (qn 66 54) (.run (qf 67 2 66) (.eff (qs 1 67 65) [] .done))))))))))))))) [])))) (.seq (qr [qc 69 .eql 9 6,qm 68 69] [68])
 (.cond (qt 68) (.seq (.reg (.run (qm 70 1) (.run (qm 71 0) (.run (qm 72 1) (.run (qn 73 72) (.run (qf 74 4 73) (.run (qL 75 3 74) (.run (qm 76 1) (.run (qn 77 76) (.run (qf 78 2 77) (.run (ql 79 78) (.run (qm 81 1) (.run (qn 82 81) (.run (qf 83 3 82) (.run (ql 84 83) (.eff (qe 80 (.bsl 3 1) [qt 79]) [ql 84 83,qL 75 3 74] (.eff (qe 85 (.bsl 25 1) [qt 80,qt 84]) [qL 75 3 74] (.eff (qa 86 70 [qt 85]) [qL 75 3 74] (.eff (qa 87 40 [qt 71,qt 75,qt 86]) [] (.run (qn 88 70) (.run (qf 89 2 88) (.eff (qs 1 89 87) [] .done))))))))))))))))))))) [])
 (qr [qm 90 1,qn 91 90,qf 92 3 91,qE (.st 1) [qt 92,.const (.slice none 0 0)]] [])) (.seq (qr [qc 94 .eql 9 7,qm 93 94] [93])
 (.cond (qt 93) (.reg (.run (qm 95 0) (.run (qm 96 0) (.run (qn 97 96) (.run (qf 98 3 97) (.run (ql 99 98) (.run (qf 100 1 5) (.run (ql 101 100) (.run (qm 102 1) (.run (qn 103 102) (.run (qf 104 2 103) (.run (ql 105 104) (.run (qp 106 (.bld [qv 0,.bool false,qv 0,.slice none 0 0,qv 0,qv 0,qv 0,.slice none 0 0,qv 0,qv 0,.slice none 0 0,.slice none 0 0] [(0,1),(8,1),(2,1)]) [qi 3,qt 101,qt 105]) (.eff (qe 107 (.box 123) [qt 106]) [ql 99 98] (.eff (qe 108 (.bsl 118 1) [qt 107]) [ql 99 98] (.eff (qe 109 (.app 118 1 8 [.pointer none]) [qt 99,qt 108]) [] (.run (qn 110 95) (.run (qf 111 3 110) (.eff (qs 1 111 109) [] .done)))))))))))))))))) []) (.seq (qr [qc 113 .eql 9 9,qm 112 113] [112])
 (.cond (qt 112) (qr [qm 114 0,qm 115 1,qa 116 71 [qt 114,qt 115]] []) (.seq (.seq (qr [qc 118 .eql 9 11,qm 117 118] [117])
 (.cond (qt 117) .skip (qr [qc 119 .eql 9 12,qm 117 119] [117])))
 (.cond (qt 117) (qr [qm 120 0,qm 121 1,qL 122 3 5,qa 123 72 [qt 120,qt 121,qt 122]] []) (.seq (qr [qc 125 .eql 9 10,qm 124 125] [124])
 (.cond (qt 124) (qr [qm 126 0,qm 127 1,qa 128 73 [qt 126,qt 127]] []) (.seq (qr [qc 130 .eql 9 8,qm 129 130] [129])
 (.cond (qt 129) (.seq (qr [qm 131 0,qa 132 69 [qt 131]] [])
 (.seq (qr [qm 133 0,qa 134 41 [qt 133],qm 7 134] [7])
 (.reg (.run (qm 135 7) (.run (qm 136 0) (.run (qm 137 7) (.run (qn 138 137) (.run (qf 139 4 138) (.run (qL 140 3 139) (.run (qm 141 1) (.run (qn 142 141) (.run (qf 143 11 142) (.run (ql 144 143) (.eff (qa 145 40 [qt 136,qt 140,qt 144]) [] (.run (qn 146 135) (.run (qf 147 2 146) (.eff (qs 1 147 145) [] .done)))))))))))))) []))) (qr [qm 10 0,qm 11 1,qL 12 3 5,qa 13 74 [qt 10,qt 11,qt 12]] [])))))))))))))))))))⟩
theorem Z40:compF Tryz.prog 43=some Q58:=by kernel_rfl
def Q72:Fun:=⟨21,[2,0,3],[.tmp 2],
 .seq (qr [qp 2 .mov [.const (.pointer none)]] [2])
 (.seq (qr [qm 4 0,qa 5 41 [qt 4],qm 3 5] [3])
 (.seq (.reg (.run (qm 6 0) (.run (qm 7 0) (.run (qn 8 7) (.run (qf 9 3 8) (.run (ql 10 9) (.run (qm 11 0) (.run (qn 12 11) (.run (qf 13 3 12) (.run (ql 14 13) (.run (qp 15 (.len false) [qt 14]) (.run (qc 16 .sub 15 1) (.run (qp 17 (.slc 1 false true) [qt 10,qt 16]) (.run (qn 18 6) (.run (qf 19 3 18) (.eff (qs 1 19 17) [] .done))))))))))))))) [])
 (.seq (qr [qm 20 3,qm 2 20] [2])
 .ret)))⟩
theorem Z69:compF Tryz.prog 69=some Q72:=by kernel_rfl
def QX:SCode:=
 .seq (qr [qb 12 .lss 11 10] [12])
 (.seq (.cond (qt 12) .skip (.exit 0))
 (.seq (.block 1 (.seq (qr [qp 13 (.ixa 1) [qt 9,qt 11],ql 14 13,qm 5 14] [5])
 (.seq (qr [qm 15 3,qm 16 5,qp 17 (.len false) [qt 16],qb 18 .add 15 17,qm 3 18] [3])
 (.seq (qr [qm 19 3,qc 20 .lss 19 0] [20])
 (.cond (qt 20) (qr [qp 21 (.mkif 9) [.const (.string ⟨#[108,101,110,32,111,117,116,32,111,102,32,114,97,110,103,101]⟩)],qE .die [qt 21]] []) .skip)))))
 (qr [qc 22 .add 11 1,qm 11 22] [11])))
def QY:SCode:=
 .seq (qr [qb 28 .lss 27 26] [28])
 (.seq (.cond (qt 28) .skip (.exit 2))
 (.seq (.block 3 (.seq (qr [qp 29 (.ixa 1) [qt 25,qt 27],ql 30 29,qm 8 30] [8])
 (qr [qm 31 6,qm 32 8,qe 33 (.app 3 1 8 [qv 0]) [qt 31,qt 32],qm 6 33] [6])))
 (qr [qc 34 .add 27 1,qm 27 34] [27])))
def Q31:Fun:=⟨36,[2,0,11,10,12,9,3,5,20,27,26,28,25,6,8],[.tmp 2],
 .seq (qr [qp 2 .mov [.const (.slice none 0 0)]] [2])
 (.seq (qr [qp 3 .mov [qi 0]] [3])
 (.seq (.seq (qr [qm 9 0,qp 10 (.len false) [qt 9],qp 11 .mov [qi 0]] [9,10,11])
 (.block 0 (.loop QX)))
 (.seq (qr [qm 23 3,qa 24 97 [.const (.slice none 0 0),qt 23],qm 6 24] [6])
 (.seq (.seq (qr [qm 25 0,qp 26 (.len false) [qt 25],qp 27 .mov [qi 0]] [25,26,27])
 (.block 2 (.loop QY)))
 (.seq (qr [qm 35 6,qm 2 35] [2])
 .ret)))))⟩
theorem Z16:compF Tryz.prog 70=some Q31:=by kernel_rfl
def Q14:Fun:=⟨55,[1,14,0,5,4],[],
 .seq (qr [qm 6 1,qn 7 6,qf 8 2 7,ql 9 8,qm 4 9] [4])
 (.seq (.seq (qr [qm 10 1,qn 11 10,qf 12 9 11,ql 13 12,qc 14 .gtr 13 0] [14])
 (.cond (qt 14) (qr [qm 15 1,qn 16 15,qf 17 10 16,ql 18 17,qp 19 (.ixa 2) [qt 18,qi 0],qf 20 1 19,ql 21 20,qm 4 21] [4]) .skip))
 (.seq (.reg (.run (qm 22 1) (.run (qn 23 22) (.run (qf 24 8 23) (.run (ql 25 24) (.run (qm 26 1) (.run (qn 27 26) (.run (qf 28 9 27) (.run (ql 29 28) (.run (qp 30 (.bld [qv 0,qv 0,qv 0] [(0,1),(1,1),(2,1)]) [qt 25,qt 29,qi 0]) (.eff (qe 5 (.new 120 [qv 0,qv 0,qv 0]) []) [ql 29 28,ql 25 24] (.eff (qs 3 5 30) [] .done))))))))))) [5])
 (.seq (qr [qm 31 1,qn 32 31,qf 33 9 32,ql 34 33,qc 35 .add 34 1,qn 36 31,qf 37 9 36,qs 1 37 35] [])
 (.reg (.run (qm 38 0) (.run (qm 39 0) (.run (qn 40 39) (.run (qf 41 3 40) (.run (ql 42 41) (.run (qL 43 3 5) (.run (qm 44 0) (.run (qL 45 3 5) (.run (qm 46 4) (.eff (qe 47 (.bsl 3 1) [qt 46]) [qL 45 3 5,qL 43 3 5,ql 42 41] (.eff (qa 48 40 [qt 44,qt 45,qt 47]) [qL 43 3 5,ql 42 41] (.run (qp 49 (.bld [qv 0,.bool false,qv 0,.slice none 0 0,qv 0,qv 0,qv 0,.slice none 0 0,qv 0,qv 0,.slice none 0 0,.slice none 0 0] [(0,1),(4,3),(2,1)]) [qi 2,qt 43,qt 48]) (.eff (qe 50 (.box 123) [qt 49]) [ql 42 41] (.eff (qe 51 (.bsl 118 1) [qt 50]) [ql 42 41] (.eff (qe 52 (.app 118 1 8 [.pointer none]) [qt 42,qt 51]) [] (.run (qn 53 38) (.run (qf 54 3 53) (.eff (qs 1 54 52) [] .done)))))))))))))))))) []))))⟩
theorem ZU:compF Tryz.prog 71=some Q14:=by kernel_rfl
def Q15:SCode:=
 .seq (qr [qb 64 .lss 63 62] [64])
 (.seq (.cond (qt 64) .skip (.exit 0))
 (.seq (.block 1 (.seq (qr [qp 65 (.ixa 2) [qt 61,qt 63],qL 66 2 65,qe 10 (.new 181 [qv 0,qv 0]) [],qs 2 10 66] [10])
 (.seq (qr [qf 67 0 10,ql 68 67,qf 69 1 5,ql 70 69,qb 71 .leq 68 70] [71])
 (.cond (qt 71) (qr [qf 72 1 10,ql 73 72,qm 8 73] [8]) .skip))))
 (qr [qc 74 .add 63 1,qm 63 74] [63])))
def Q59:Fun:=⟨95,[2,1,0,5,57,7,63,62,64,61,10,71,6,8],[],
 .seq (qr [qe 5 (.box 125) [qt 2]] [5])
 (.seq (.reg (.run (qm 11 1) (.run (qm 12 1) (.run (qn 13 12) (.run (qf 14 7 13) (.run (ql 15 14) (.run (qm 16 1) (.run (qn 17 16) (.run (qf 18 4 17) (.run (qf 19 2 18) (.run (ql 20 19) (.run (qm 21 1) (.run (qn 22 21) (.run (qf 23 2 22) (.run (ql 24 23) (.run (qp 25 (.bld [qv 0,qv 0] [(0,1),(1,1)]) [qt 20,qt 24]) (.eff (qe 26 (.bsl 181 2) [qt 25]) [ql 15 14] (.eff (qe 27 (.app 181 2 16 [qv 0,qv 0]) [qt 15,qt 26]) [] (.run (qn 28 11) (.run (qf 29 7 28) (.eff (qs 1 29 27) [] .done)))))))))))))))))))) [])
 (.seq (qr [qm 30 1,qn 31 30,qf 32 2 31,ql 33 32,qe 34 (.bsl 3 1) [qt 33],qm 6 34] [6])
 (.seq (qr [qm 35 0,qn 36 35,qf 37 3 36,ql 38 37,qm 39 0,qn 40 39,qf 41 3 40,ql 42 41,qp 43 (.len false) [qt 42],qc 44 .sub 43 2,qp 45 (.ixa 1) [qt 38,qt 44],ql 46 45,qm 7 46] [7])
 (.seq (.seq (qr [qf 47 0 5,ql 48 47,qc 49 .eql 48 11,qm 50 49,qg 51 50 true (.pur .mov [qt 1]),qg 52 50 true (.pur .nilc [qt 51]),qg 53 50 true (.pur (.fla 4) [qt 52]),qg 54 50 true (.pur (.fla 1) [qt 53]),qg 55 50 true (.ld none (qt 54)),qg 56 50 true (.pur (.bin .gtr) [qt 55,qi 0]),qp 57 .pick [qt 50,qt 56,.const (.bool false)]] [57])
 (.cond (qt 57) (.seq (qr [qp 8 .mov [qi 0]] [8])
 (.seq (.seq (qr [qm 58 7,qn 59 58,qf 60 10 59,ql 61 60,qp 62 (.len false) [qt 61],qp 63 .mov [qi 0]] [61,62,63])
 (.block 0 (.loop Q15)))
 (qr [qm 75 6,qm 76 8,qe 77 (.bsl 3 1) [qt 76],qe 78 (.app 3 1 8 [qv 0]) [qt 75,qt 77],qm 6 78] [6]))) .skip))
 (.seq (qr [qm 79 1,qf 80 1 5,ql 81 80,qn 82 79,qf 83 4 82,qf 84 2 83,qs 1 84 81] [])
 (qr [qm 85 1,qm 86 0,qm 87 1,qn 88 87,qf 89 4 88,qL 90 3 89,qm 91 6,qa 92 40 [qt 86,qt 90,qt 91],qn 93 85,qf 94 2 93,qs 1 94 92] []))))))⟩
theorem Z41:compF Tryz.prog 72=some Q59:=by kernel_rfl
def Q60:Fun:=⟨41,[0,4,1],[],
 .seq (qr [qm 5 0,qa 6 69 [qt 5]] [])
 (.seq (qr [qm 7 0,qa 8 41 [qt 7],qm 4 8] [4])
 (.seq (.reg (.run (qm 9 4) (.run (qm 10 1) (.run (qn 11 10) (.run (qf 12 7 11) (.run (ql 13 12) (.run (qm 14 1) (.run (qn 15 14) (.run (qf 16 4 15) (.run (qf 17 2 16) (.run (ql 18 17) (.run (qm 19 1) (.run (qn 20 19) (.run (qf 21 2 20) (.run (ql 22 21) (.run (qp 23 (.bld [qv 0,qv 0] [(0,1),(1,1)]) [qt 18,qt 22]) (.eff (qe 24 (.bsl 181 2) [qt 23]) [ql 13 12] (.eff (qe 25 (.app 181 2 16 [qv 0,qv 0]) [qt 13,qt 24]) [] (.run (qn 26 9) (.run (qf 27 10 26) (.eff (qs 1 27 25) [] .done)))))))))))))))))))) [])
 (.reg (.run (qm 28 4) (.run (qm 29 4) (.run (qn 30 29) (.run (qf 31 11 30) (.run (ql 32 31) (.run (qm 33 1) (.run (qn 34 33) (.run (qf 35 2 34) (.run (ql 36 35) (.eff (qe 37 (.bsl 3 1) [qt 36]) [ql 32 31] (.eff (qe 38 (.app 3 1 8 [qv 0]) [qt 32,qt 37]) [] (.run (qn 39 28) (.run (qf 40 11 39) (.eff (qs 1 40 38) [] .done)))))))))))))) [])))⟩
theorem Z42:compF Tryz.prog 73=some Q60:=by kernel_rfl
def Q32:Fun:=⟨33,[2,1,5,19,6,0],[],
 .seq (qr [qe 5 (.box 125) [qt 2]] [5])
 (.seq (.reg (.run (qm 7 1) (.run (qn 8 7) (.run (qf 9 2 8) (.run (ql 10 9) (.run (qf 11 1 5) (.run (ql 12 11) (.run (qf 13 0 5) (.run (ql 14 13) (.run (qc 15 .neq 14 1) (.run (qp 16 (.bld [qv 0,qv 0,.bool false] [(0,1),(1,1),(2,1)]) [qt 10,qt 12,qt 15]) (.eff (qe 6 (.new 43 [qv 0,qv 0,.bool false]) []) [ql 14 13,ql 12 11,ql 10 9] (.eff (qs 3 6 16) [] .done)))))))))))) [6])
 (.seq (.seq (qr [qf 17 0 5,ql 18 17,qc 19 .eql 18 3] [19])
 (.cond (qt 19) (qr [qf 20 1 6,qE (.st 1) [qt 20,qi (-1)]] []) .skip))
 (.reg (.run (qm 21 0) (.run (qm 22 0) (.run (qn 23 22) (.run (qf 24 0 23) (.run (qf 25 2 24) (.run (ql 26 25) (.run (qL 27 3 6) (.eff (qe 28 (.bsl 43 3) [qt 27]) [ql 26 25] (.eff (qe 29 (.app 43 3 24 [qv 0,qv 0,.bool false]) [qt 26,qt 28]) [] (.run (qn 30 21) (.run (qf 31 0 30) (.run (qf 32 2 31) (.eff (qs 1 32 29) [] .done))))))))))))) [])))⟩
theorem Z17:compF Tryz.prog 74=some Q32:=by kernel_rfl
def Q73:Fun:=⟨26,[2,3,0,4,18],[.tmp 2,.tmp 3],
 .seq (qr [qp 2 .mov [.const (.pointer none)],qp 3 .mov [qi 0]] [2,3])
 (.seq (qr [qm 5 0,qp 6 (.bld [.slice none 0 0,qv 0,.slice none 0 0,.slice none 0 0,.slice none 0 0,.bool false,qv 0] [(0,1)]) [qt 5],qe 7 (.box 69) [qt 6],qm 4 7] [4])
 (.seq (qr [qm 8 4,qp 9 (.bld [qv 0,qv 0,qv 0] []) [],qm 10 4,qp 11 (.bld [qv 0,qv 0,qv 0] []) [],qa 12 27 [qt 10,qt 11,.const (.slice none 0 0)],qa 13 26 [qt 8,qi 0,qt 9,qt 12,.const (.slice none 0 0)]] [])
 (.seq (.seq (qr [qm 14 4,qn 15 14,qf 16 6 15,ql 17 16,qc 18 .neq 17 0] [18])
 (.cond (qt 18) (.seq (.reg (.run (qp 19 (.bld [.slice none 0 0,qv 0,.slice none 0 0,.slice none 0 0,.slice none 0 0,.bool false,qv 0] []) []) (.run (qm 21 4) (.run (qn 22 21) (.run (qf 23 6 22) (.run (ql 24 23) (.eff (qe 20 (.box 69) [qt 19]) [ql 24 23] (.run (qm 2 20) (.run (qm 3 24) .done)))))))) [2,3])
 .ret) .skip))
 (.seq (qr [qm 25 4,qm 2 25,qp 3 .mov [qi 0]] [2,3])
 .ret))))⟩
theorem Z70:compF Tryz.prog 16=some Q73:=by kernel_rfl
def QQ:SCode:=
 .seq (.seq (qr [qm 19 0,qn 20 19,qf 21 5 20,ql 22 21,qp 23 .not [qt 22]] [23])
 (.cond (qt 23) .skip (.exit 0)))
 (.block 1 (.seq (qr [qm 24 0,qa 25 51 [qt 24],qe 13 (.new 138 [qv 0,qv 0,qv 0]) [],qs 3 13 25] [13])
 (.block 2 (.seq (qr [qm 29 0,qn 30 29,qf 31 5 30,ql 32 31,qm 28 32] [28])
 (.cond (qt 28) .skip (.seq (qr [qf 34 0 13,ql 35 34,qc 36 .eql 35 5,qm 37 36,qg 38 37 true (.pur .mov [qt 1]),qg 39 37 true (.pur (.bin .eql) [qt 38,qi 1]),qp 40 .pick [qt 37,qt 39,.const (.bool false)],qm 33 40] [33])
 (.cond (qt 33) (.seq (qr [qm 41 11,qm 42 3,qp 43 (.bld [qv 0,qv 0] [(0,1),(1,1)]) [qi 0,qt 42],qe 44 (.bsl 141 2) [qt 43],qe 45 (.app 141 2 16 [qv 0,qv 0]) [qt 41,qt 44],qm 10 45] [10])
 .ret) (.seq (qr [qf 47 0 13,ql 48 47,qc 49 .eql 48 10,qm 50 49,qg 51 50 true (.pur .mov [qt 1]),qg 52 50 true (.pur (.bin .eql) [qt 51,qi 2]),qp 53 .pick [qt 50,qt 52,.const (.bool false)],qm 54 53,qg 55 54 true (.pur (.fla 1) [qt 13]),qg 56 54 true (.ld none (qt 55)),qg 57 54 true (.pur (.fla 1) [qt 7]),qg 58 54 true (.ld none (qt 57)),qg 59 54 true (.pur (.bin .eql) [qt 56,qt 58]),qp 60 .pick [qt 54,qt 59,.const (.bool false)],qm 46 60] [46])
 (.cond (qt 46) (.seq (qr [qm 61 11,qf 62 2 7,ql 63 62,qm 64 3,qp 65 (.bld [qv 0,qv 0] [(0,1),(1,1)]) [qt 63,qt 64],qe 66 (.bsl 141 2) [qt 65],qe 67 (.app 141 2 16 [qv 0,qv 0]) [qt 61,qt 66],qm 10 67] [10])
 .ret) (.seq (qr [qf 69 0 13,ql 70 69,qc 71 .leq 70 3,qm 68 71] [68])
 (.cond (qt 68) (.seq (qr [qm 72 3,qf 73 1 13,ql 74 73,qf 75 0 13,ql 76 75,qc 77 .gtr 76 1,qp 78 (.bld [qv 0,qv 0,.bool false] [(0,1),(1,1),(2,1)]) [qt 72,qt 74,qt 77],qe 14 (.new 43 [qv 0,qv 0,.bool false]) [],qs 3 14 78] [14])
 (.seq (.seq (qr [qf 79 0 13,ql 80 79,qc 81 .eql 80 3] [81])
 (.cond (qt 81) (qr [qf 82 1 14,qE (.st 1) [qt 82,qi (-1)]] []) .skip))
 (.reg (.run (qm 83 0) (.run (qm 84 0) (.run (qn 85 84) (.run (qf 86 4 85) (.run (ql 87 86) (.run (qL 88 3 14) (.eff (qe 89 (.bsl 43 3) [qt 88]) [ql 87 86] (.eff (qe 90 (.app 43 3 24 [qv 0,qv 0,.bool false]) [qt 87,qt 89]) [] (.run (qn 91 83) (.run (qf 92 4 91) (.eff (qs 1 92 90) [] .done))))))))))) []))) (.seq (qr [qf 94 0 13,ql 95 94,qc 96 .eql 95 4,qm 93 96] [93])
 (.cond (qt 93) (.seq (qr [qm 97 0,qp 98 (.bld [qv 0,qv 0,qv 0] []) [],qm 99 3,qe 100 (.bsl 3 1) [qt 99],qa 101 27 [qt 97,qt 98,qt 100],qm 15 101] [15])
 (.seq (qr [qm 102 0,qn 103 102,qf 104 5 103,ql 105 104,qp 106 .not [qt 105]] [106])
 (.cond (qt 106) (.seq (qr [qm 107 0,qp 108 (.bld [qv 0,qv 0,qv 0] []) [],qm 109 15,qa 110 26 [qt 107,qi 1,qt 108,qt 109,.const (.slice none 0 0)],qm 16 110] [16])
 (.seq (qr [qm 111 0,qn 112 111,qf 113 5 112,ql 114 113,qp 115 .not [qt 114]] [115])
 (.cond (qt 115) (.seq (qr [qm 116 12,qm 117 16,qp 118 (.ixa 2) [qt 117,qi 0],qf 119 1 118,ql 120 119,qe 121 (.bsl 3 1) [qt 120],qe 122 (.app 3 1 8 [qv 0]) [qt 116,qt 121],qm 12 122] [12])
 (qr [qm 123 0,qL 124 3 7,qm 125 3,qe 126 (.bsl 3 1) [qt 125],qa 127 27 [qt 123,qt 124,qt 126],qm 3 127] [3])) .skip))) .skip))) (.seq (qr [qf 129 0 13,ql 130 129,qc 131 .eql 130 6,qm 128 131] [128])
 (.cond (qt 128) (.seq (.reg (.run (qm 132 0) (.run (qL 133 3 7) (.run (qm 134 3) (.run (qm 136 12) (.eff (qe 135 (.bsl 3 1) [qt 134]) [qL 133 3 7] (.eff (qe 137 (.app 3 1 8 [qv 0]) [qt 135,qt 136]) [qL 133 3 7] (.eff (qa 138 27 [qt 132,qt 133,qt 137]) [] (.eff (qm 3 138) [] .done)))))))) [3])
 (qr [qp 12 .mov [.const (.slice none 0 0)]] [12])) (.seq (qr [qf 140 0 13,ql 141 140,qc 142 .eql 141 7,qm 139 142] [139])
 (.cond (qt 139) (.seq (qr [qm 143 0,qf 144 1 13,ql 145 144,qm 146 3,qa 147 52 [qt 143,qt 145,qt 146],qm 17 147] [17])
 (.seq (qr [qm 148 0,qn 149 148,qf 150 5 149,ql 151 150,qp 152 .not [qt 151]] [152])
 (.cond (qt 152) (qr [qm 153 0,qL 154 3 7,qm 155 17,qa 156 27 [qt 153,qt 154,qt 155],qm 3 156] [3]) .skip))) (.seq (qr [qf 158 0 13,ql 159 158,qc 160 .geq 159 11,qm 161 160,qg 162 161 true (.pur .mov [qt 1]),qg 163 161 true (.pur (.bin .eql) [qt 162,qi 2]),qp 164 .pick [qt 161,qt 163,.const (.bool false)],qm 165 164,qg 166 165 true (.pur (.fla 1) [qt 13]),qg 167 165 true (.ld none (qt 166)),qg 168 165 true (.pur (.fla 2) [qt 7]),qg 169 165 true (.ld none (qt 168)),qg 170 165 true (.pur (.bin .gtr) [qt 167,qt 169]),qp 171 .pick [qt 165,qt 170,.const (.bool false)],qm 157 171] [157])
 (.cond (qt 157) (.seq (qr [qm 172 11,qf 173 2 7,ql 174 173,qm 175 3,qp 176 (.bld [qv 0,qv 0] [(0,1),(1,1)]) [qt 174,qt 175],qe 177 (.bsl 141 2) [qt 176],qe 178 (.app 141 2 16 [qv 0,qv 0]) [qt 172,qt 177],qm 11 178] [11])
 (.seq (qr [qm 179 3,qe 180 (.bsl 3 1) [qt 179],qm 18 180] [18])
 (.seq (.seq (qr [qf 181 0 13,ql 182 181,qc 183 .eql 182 11,qm 184 183,qg 185 184 true (.pur (.fla 1) [qt 7]),qg 186 184 true (.ld none (qt 185)),qg 187 184 true (.pur (.bin .gtr) [qt 186,qi 0]),qp 188 .pick [qt 184,qt 187,.const (.bool false)]] [188])
 (.cond (qt 188) (qr [qm 189 18,qm 190 4,qf 191 1 13,ql 192 191,qa 193 53 [qt 190,qt 192],qe 194 (.bsl 3 1) [qt 193],qe 195 (.app 3 1 8 [qv 0]) [qt 189,qt 194],qm 18 195] [18]) .skip))
 (.seq (qr [qf 196 1 13,ql 197 196,qf 198 2 7,qs 1 198 197] [])
 (qr [qm 199 0,qL 200 3 7,qm 201 18,qa 202 27 [qt 199,qt 200,qt 201],qm 3 202] [3]))))) (qr [qm 26 0,qa 27 54 [qt 26]] []))))))))))))))))))))
def Q16:Fun:=⟨203,[10,2,0,23,28,13,1,33,11,3,7,46,68,81,14,93,106,15,115,12,16,128,139,152,17,157,188,18,4],[.tmp 10],
 .seq (qr [qe 7 (.box 97) [qt 2],qp 10 .mov [.const (.slice none 0 0)]] [7,10])
 (.seq (qr [qp 11 .mov [.const (.slice none 0 0)]] [11])
 (.seq (qr [qp 12 .mov [.const (.slice none 0 0)]] [12])
 (.seq (.block 0 (.loop QQ))
 (.seq (qr [qp 10 .mov [.const (.slice none 0 0)]] [10])
 .ret))))⟩
theorem ZW:compF Tryz.prog 26=some Q16:=by kernel_rfl
def Q17:Fun:=⟨45,[6,1,0,12,2,4],[.tmp 6],
 .seq (qr [qe 4 (.box 97) [qt 1],qp 6 .mov [qi 0]] [4,6])
 (.seq (.seq (qr [qm 7 0,qn 8 7,qf 9 2 8,ql 10 9,qp 11 (.len false) [qt 10],qc 12 .eql 11 1000] [12])
 (.cond (qt 12) (.seq (qr [qm 13 0,qn 14 13,qf 15 6 14,qE (.st 1) [qt 15,qi 9]] [])
 (.seq (qr [qm 16 0,qn 17 16,qf 18 5 17,qE (.st 1) [qt 18,.const (.bool true)]] [])
 (.seq (qr [qp 6 .mov [qi 0]] [6])
 .ret))) .skip))
 (.seq (qr [qm 19 0,qm 20 0,qn 21 20,qf 22 2 21,ql 23 22,qm 24 2,qe 25 (.bsl 25 1) [qt 24],qe 26 (.app 25 1 24 [.slice none 0 0]) [qt 23,qt 25],qn 27 19,qf 28 2 27,qs 1 28 26] [])
 (.seq (.reg (.run (qm 29 0) (.run (qm 30 0) (.run (qn 31 30) (.run (qf 32 3 31) (.run (ql 33 32) (.run (qL 34 3 4) (.eff (qe 35 (.bsl 97 3) [qt 34]) [ql 33 32] (.eff (qe 36 (.app 97 3 24 [qv 0,qv 0,qv 0]) [qt 33,qt 35]) [] (.run (qn 37 29) (.run (qf 38 3 37) (.eff (qs 1 38 36) [] .done))))))))))) [])
 (.seq (qr [qm 39 0,qn 40 39,qf 41 2 40,ql 42 41,qp 43 (.len false) [qt 42],qc 44 .sub 43 1,qm 6 44] [6])
 .ret))))⟩
theorem ZX:compF Tryz.prog 27=some Q17:=by kernel_rfl
def QZ:SCode:=
 .seq (.seq (qr [qm 13 0,qn 14 13,qf 15 5 14,ql 16 15,qp 17 .not [qt 16]] [17])
 (.cond (qt 17) .skip (.exit 0)))
 (.block 1 (.seq (qr [qm 18 0,qa 19 51 [qt 18],qe 9 (.new 138 [qv 0,qv 0,qv 0]) [],qs 3 9 19] [9])
 (.block 2 (.seq (qr [qm 23 0,qn 24 23,qf 25 5 24,ql 26 25,qm 22 26] [22])
 (.cond (qt 22) .skip (.seq (qr [qf 28 0 9,ql 29 28,qc 30 .eql 29 9,qm 31 30,qg 32 31 true (.pur (.fla 1) [qt 9]),qg 33 31 true (.ld none (qt 32)),qg 34 31 true (.pur .mov [qt 7]),qg 35 31 true (.pur (.len false) [qt 34]),qg 36 31 true (.pur (.bin .eql) [qt 33,qt 35]),qp 37 .pick [qt 31,qt 36,.const (.bool false)],qm 27 37] [27])
 (.cond (qt 27) (.seq (qr [qm 38 2,qm 10 38] [10])
 (.seq (.seq (qr [qm 39 7,qp 40 (.len false) [qt 39],qc 41 .gtr 40 0] [41])
 (.cond (qt 41) (qr [qm 42 8,qp 43 (.ixa 2) [qt 42,qi 0],qf 44 1 43,ql 45 44,qm 10 45] [10]) .skip))
 (.seq (qr [qm 46 1,qm 47 7,qp 48 (.len false) [qt 47],qp 49 (.bld [qv 0,qv 0,qv 0] [(0,1),(1,1),(2,1)]) [qt 46,qt 48,qi 0],qe 11 (.new 97 [qv 0,qv 0,qv 0]) [],qs 3 11 49] [11])
 (.seq (qr [qm 50 0,qL 51 3 11,qm 52 10,qe 53 (.bsl 3 1) [qt 52],qa 54 27 [qt 50,qt 51,qt 53],qm 12 54] [12])
 (.seq (qr [qm 55 0,qn 56 55,qf 57 5 56,ql 58 57,qp 59 .not [qt 58]] [59])
 (.cond (qt 59) (.seq (qr [qm 60 0,qL 61 3 11,qm 62 12,qm 63 8,qa 64 26 [qt 60,qi 2,qt 61,qt 62,qt 63],qm 8 64] [8])
 (.seq (qr [qm 65 0,qn 66 65,qf 67 5 66,ql 68 67,qp 69 .not [qt 68]] [69])
 (.cond (qt 69) (qr [qm 70 7,qm 71 8,qm 72 8,qp 73 (.len false) [qt 72],qc 74 .sub 73 1,qp 75 (.ixa 2) [qt 71,qt 74],qf 76 1 75,ql 77 76,qe 78 (.bsl 3 1) [qt 77],qe 79 (.app 3 1 8 [qv 0]) [qt 70,qt 78],qm 7 79] [7]) .skip))) .skip)))))) (.seq (qr [qf 81 0 9,ql 82 81,qc 83 .eql 82 8,qm 84 83,qg 85 84 true (.pur (.fla 1) [qt 9]),qg 86 84 true (.ld none (qt 85)),qg 87 84 true (.pur .mov [qt 1]),qg 88 84 true (.pur (.bin .eql) [qt 86,qt 87]),qp 89 .pick [qt 84,qt 88,.const (.bool false)],qm 90 89,qg 91 90 true (.pur .mov [qt 7]),qg 92 90 true (.pur (.len false) [qt 91]),qg 93 90 true (.pur (.bin .gtr) [qt 92,qi 0]),qp 94 .pick [qt 90,qt 93,.const (.bool false)],qm 80 94] [80])
 (.cond (qt 80) (.seq (qr [qm 95 7,qm 6 95] [6])
 .ret) (qr [qm 20 0,qa 21 54 [qt 20]] []))))))))))
def Q34:Fun:=⟨96,[6,0,17,22,9,7,27,2,41,8,1,11,10,59,12,69,80],[.tmp 6],
 .seq (qr [qp 6 .mov [.const (.slice none 0 0)]] [6])
 (.seq (qr [qp 7 .mov [.const (.slice none 0 0)]] [7])
 (.seq (qr [qp 8 .mov [.const (.slice none 0 0)]] [8])
 (.seq (.block 0 (.loop QZ))
 (.seq (qr [qp 6 .mov [.const (.slice none 0 0)]] [6])
 .ret))))⟩
theorem Z18:compF Tryz.prog 52=some Q34:=by kernel_rfl
def Q74:SCode:=
 .seq (.seq (qr [qm 7 6,qm 8 0,qp 9 (.len false) [qt 8],qb 10 .lss 7 9] [10])
 (.cond (qt 10) .skip (.exit 0)))
 (.seq (.block 1 (.seq (qr [qm 13 0,qm 14 6,qp 15 (.ixa 2) [qt 13,qt 14],qf 16 0 15,ql 17 16,qm 18 1,qb 19 .leq 17 18] [19])
 (.cond (qt 19) (qr [qm 20 0,qm 21 6,qp 22 (.ixa 2) [qt 20,qt 21],qf 23 1 22,ql 24 23,qm 5 24] [5]) .skip)))
 (qr [qm 11 6,qc 12 .add 11 1,qm 6 12] [6]))
def ZY:Fun:=⟨26,[4,6,0,10,1,19,5],[.tmp 4],
 .seq (qr [qp 4 .mov [qi 0]] [4])
 (.seq (qr [qp 5 .mov [qi 0]] [5])
 (.seq (.seq (qr [qp 6 .mov [qi 0]] [6])
 (.block 0 (.loop Q74)))
 (.seq (qr [qm 25 5,qm 4 25] [4])
 .ret)))⟩
theorem X02:compF Tryz.prog 53=some ZY:=by kernel_rfl
def Q18:Fun:=⟨8,[0],[],
 .seq (qr [qm 2 0,qn 3 2,qf 4 6 3,qE (.st 1) [qt 4,qi 4]] [])
 (qr [qm 5 0,qn 6 5,qf 7 5 6,qE (.st 1) [qt 7,.const (.bool true)]] [])⟩
theorem ZZ:compF Tryz.prog 54=some Q18:=by kernel_rfl
def Q44:SCode:=
 .seq (.seq (qr [qm 11 5,qm 12 0,qp 13 (.len false) [qt 12],qb 14 .lss 11 13,qm 15 14,qg 16 15 true (.pur .mov [qt 5]),qg 17 15 true (.pur .mov [qt 1]),qg 18 15 true (.pur (.len false) [qt 17]),qg 19 15 true (.pur (.bin .lss) [qt 16,qt 18]),qp 20 .pick [qt 15,qt 19,.const (.bool false)]] [20])
 (.cond (qt 20) .skip (.exit 0)))
 (.seq (.block 1 (.seq (qr [qm 23 0,qm 24 5,qp 25 (.ixa 1) [qt 23,qt 24],ql 26 25,qm 27 1,qm 28 5,qp 29 (.ixa 1) [qt 27,qt 28],ql 30 29,qb 31 .neq 26 30] [31])
 (.cond (qt 31) (.seq (qr [qp 4 .mov [.const (.bool false)]] [4])
 .ret) .skip)))
 (qr [qm 21 5,qc 22 .add 21 1,qm 5 22] [5]))
def Z4:Fun:=⟨32,[4,0,1,10,5,20,31],[.tmp 4],
 .seq (qr [qp 4 .mov [.const (.bool false)]] [4])
 (.seq (.seq (qr [qm 6 0,qp 7 (.len false) [qt 6],qm 8 1,qp 9 (.len false) [qt 8],qb 10 .neq 7 9] [10])
 (.cond (qt 10) (.seq (qr [qp 4 .mov [.const (.bool false)]] [4])
 .ret) .skip))
 (.seq (.seq (qr [qp 5 .mov [qi 0]] [5])
 (.block 0 (.loop Q44)))
 (.seq (qr [qp 4 .mov [.const (.bool true)]] [4])
 .ret)))⟩
theorem X9:compF Tryz.prog 9=some Z4:=by kernel_rfl
def Q41:SCode:=
 .seq (.seq (qr [qm 8 3,qf 9 1 1,ql 10 9,qp 11 (.len false) [qt 10],qb 12 .lss 8 11] [12])
 (.cond (qt 12) .skip (.exit 0)))
 (.seq (.block 1 (.seq (qr [qf 15 1 1,ql 16 15,qm 17 3,qp 18 (.ixa 1) [qt 16,qt 17],ql 19 18,qp 20 (.len false) [qt 19],qc 21 .gtr 20 300] [21])
 (.cond (qt 21) (.seq (qr [qp 2 .mov [.const (.bool true)]] [2])
 .ret) .skip)))
 (qr [qm 13 3,qc 14 .add 13 1,qm 3 14] [3]))
def Q79:Fun:=⟨22,[2,0,1,7,3,12,21],[.tmp 2],
 .seq (qr [qe 1 (.box 24) [qt 0],qp 2 .mov [.const (.bool false)]] [1,2])
 (.seq (.seq (qr [qf 4 1 1,ql 5 4,qp 6 (.len false) [qt 5],qc 7 .gtr 6 40] [7])
 (.cond (qt 7) (.seq (qr [qp 2 .mov [.const (.bool true)]] [2])
 .ret) .skip))
 (.seq (.seq (qr [qp 3 .mov [qi 0]] [3])
 (.block 0 (.loop Q41)))
 (.seq (qr [qp 2 .mov [.const (.bool false)]] [2])
 .ret)))⟩
theorem Z75:compF Tryz.prog 5=some Q79:=by kernel_rfl
end Go.Proofs.YtncdnegdlkmicaaGreat
