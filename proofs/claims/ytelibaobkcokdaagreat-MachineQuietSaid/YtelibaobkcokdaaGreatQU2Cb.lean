/- CWo CWr CMc CL26 CL04 CL27 CAlo CR04 CLw -/
import Derived.Test.YtelibaobkcokdaaGreatQU2Ld
import Derived.Test.YtelibaobkcokdaaGreatProg
import Derived.KernelRfl
namespace Go.Proofs.YtelibaobkcokdaaGreat
open Go Go.Kx Go.Proofs
set_option linter.unusedVariables false
set_option maxRecDepth 100000
def Q76:Fun:=⟨9,[0,5,1],[],
 .seq (qr [qm 4 0,qp 5 (.eqn true 0) [qt 4]] [5])
 (.cond (qt 5) (qr [qm 6 0,qm 7 1,qa 8 49 [qt 6,qt 7]] []) .skip)⟩
theorem X05:compF Tryz.prog 13=some Q76:=by kernel_rfl
def Z0:Fun:=⟨48,[1,0,6,22,35,2],[],
 .seq (.seq (qr [qm 9 1,qa 10 46 [qt 9],qm 8 10,qx 11 0 8,qx 12 1 8,qm 6 11,qm 7 12] [6])
 (.seq (qr [qm 13 0,qp 14 (.eqn false 0) [qt 13],qm 15 14,qg 16 15 false (.pur .mov [qt 1]),qg 17 15 false (.pur (.eqn false 0) [qt 16]),qp 18 .pick [qt 15,.const (.bool true),qt 17],qm 19 18,qg 20 19 false (.pur .mov [qt 6]),qg 21 19 false (.pur (.bin .neq) [qt 20,qi 0]),qp 22 .pick [qt 19,.const (.bool true),qt 21]] [22])
 (.cond (qt 22) .ret .skip)))
 (.seq (qr [qm 23 1,qa 24 50 [qt 23],qn 25 24,qf 26 0 25,ql 27 26,qc 28 .add 27 1,qn 29 24,qf 30 0 29,qs 1 30 28] [])
 (.seq (.seq (qr [qm 31 0,qn 32 31,qf 33 1 32,ql 34 33,qc 35 .eql 34 0] [35])
 (.cond (qt 35) (.seq (qr [qm 36 0,qm 37 1,qm 38 2,qa 39 51 [qt 36,qt 37,qt 38]] [])
 .ret) .skip))
 (qr [qm 40 0,qn 41 40,qf 42 1 41,ql 43 42,qa 44 52 [qt 43],qm 45 0,qm 46 1,qe 47 .callv [qt 44,qt 45,qt 46]] [])))⟩
theorem X37:compF Tryz.prog 14=some Z0:=by kernel_rfl
def Y72:Fun:=⟨6,[2,0],[.tmp 2],
 .seq (qr [qp 2 .mov [.const (.pointer none)]] [2])
 (.seq (qr [qm 3 0,qp 4 (.bld [qv 0,qv 0,qv 0,qv 0,qv 0,.pointer none,.nilFunc,qv 0,qv 0,.bool false,.bool false,qv 0,.bool false,.bool false,qv 0,.bool false,.pointer none,.pointer none,.pointer none,.pointer none] [(0,1)]) [qt 3],qe 5 (.box 98) [qt 4],qm 2 5] [2])
 .ret)⟩
theorem K_worker_New:compF Tryz.prog 15=some Y72:=by kernel_rfl
def Z1:Fun:=⟨23,[2,0,4],[.cell 2 (some 4)],
 .seq (qr [qe 2 (.new 28 [qv 0,qv 0,qv 0,qv 0]) []] [2])
 (.seq (.seq (qr [qm 3 0,qp 4 (.eqn false 0) [qt 3]] [4])
 (.cond (qt 4) (.seq (qr [qp 5 (.bld [qv 0,qv 0,qv 0,qv 0] []) [],qs 4 2 5] [])
 .ret) .skip))
 (.seq (.reg (.run (qm 6 0) (.run (qn 7 6) (.run (qf 8 1 7) (.run (ql 9 8) (.run (qm 10 0) (.run (qn 11 10) (.run (qf 12 2 11) (.run (ql 13 12) (.run (qm 14 0) (.run (qn 15 14) (.run (qf 16 3 15) (.run (ql 17 16) (.run (qm 18 0) (.run (qn 19 18) (.run (qf 20 4 19) (.run (ql 21 20) (.run (qp 22 (.bld [qv 0,qv 0,qv 0,qv 0] [(0,1),(1,1),(2,1),(3,1)]) [qt 9,qt 13,qt 17,qt 21]) (.eff (qs 4 2 22) [] .done)))))))))))))))))) [])
 .ret))⟩
theorem X38:compF Tryz.prog 16=some Z1:=by kernel_rfl
def Z2:Fun:=⟨11,[0,1],[],
 qr [qm 4 0,qm 5 0,qm 6 1,qn 7 4,qf 8 2 7,qs 1 8 6,qn 9 5,qf 10 1 9,qE (.st 1) [qt 10,qi 4]] []⟩
theorem X39:compF Tryz.prog 49=some Z2:=by kernel_rfl
def Z3:Fun:=⟨60,[1,2,6,0,7,42],[],
 .seq (qr [qm 8 1,qa 9 90 [qt 8],qp 10 (.fld 0 none) [qt 9],qm 6 10] [6])
 (.seq (qr [qm 11 2,qp 12 (.minmax true) [qt 11,qi 0],qm 13 6,qb 14 .rem 12 13,qm 15 0,qn 16 15,qf 17 4 16,ql 18 17,qb 19 .add 14 18,qm 20 6,qb 21 .rem 19 20,qm 7 21] [7])
 (.seq (qr [qm 22 0,qn 23 22,qf 24 4 23,ql 25 24,qc 26 .add 25 1,qn 27 22,qf 28 4 27,qs 1 28 26] [])
 (.seq (qr [qm 29 1,qa 30 50 [qt 29],qn 31 30,qf 32 1 31,ql 33 32,qc 34 .add 33 1,qn 35 30,qf 36 1 35,qs 1 36 34] [])
 (.seq (qr [qm 37 7,qm 38 0,qn 39 38,qf 40 0 39,ql 41 40,qb 42 .neq 37 41] [42])
 (.cond (qt 42) (.seq (qr [qm 43 0,qm 44 0,qm 45 1,qa 46 66 [qt 45],qm 47 7,qa 48 91 [qt 46,qt 47],qn 49 43,qf 50 5 49,qs 1 50 48,qn 51 44,qf 52 1 51,qE (.st 1) [qt 52,qi 1]] [])
 (.reg (.run (qm 53 0) (.run (qn 54 53) (.run (qf 55 5 54) (.run (ql 56 55) (.run (qm 57 1) (.eff (qa 58 67 [qt 57]) [ql 56 55] (.eff (qa 59 92 [qt 56,qt 58]) [] .done))))))) [])) .skip)))))⟩
theorem X40:compF Tryz.prog 51=some Z3:=by kernel_rfl
def Y73:Fun:=⟨32,[2,0,3,4,6,8,10,12,14,16,18,20,22,24,26,28],[.tmp 2],
 .seq (qr [qp 2 .mov [.const .nilFunc]] [2])
 (.seq (.seq (qr [qm 3 0] [3])
 (.block 0 (.seq (qr [qc 5 .eql 3 1,qm 4 5] [4])
 (.cond (qt 4) (.seq (qr [qp 2 .mov [.func 93]] [2])
 .ret) (.seq (qr [qc 7 .eql 3 2,qm 6 7] [6])
 (.cond (qt 6) (.seq (qr [qp 2 .mov [.func 94]] [2])
 .ret) (.seq (qr [qc 9 .eql 3 3,qm 8 9] [8])
 (.cond (qt 8) (.seq (qr [qp 2 .mov [.func 95]] [2])
 .ret) (.seq (qr [qc 11 .eql 3 4,qm 10 11] [10])
 (.cond (qt 10) (.seq (qr [qp 2 .mov [.func 96]] [2])
 .ret) (.seq (qr [qc 13 .eql 3 5,qm 12 13] [12])
 (.cond (qt 12) (.seq (qr [qp 2 .mov [.func 97]] [2])
 .ret) (.seq (qr [qc 15 .eql 3 6,qm 14 15] [14])
 (.cond (qt 14) (.seq (qr [qp 2 .mov [.func 98]] [2])
 .ret) (.seq (qr [qc 17 .eql 3 7,qm 16 17] [16])
 (.cond (qt 16) (.seq (qr [qp 2 .mov [.func 99]] [2])
 .ret) (.seq (qr [qc 19 .eql 3 8,qm 18 19] [18])
 (.cond (qt 18) (.seq (qr [qp 2 .mov [.func 100]] [2])
 .ret) (.seq (qr [qc 21 .eql 3 9,qm 20 21] [20])
 (.cond (qt 20) (.seq (qr [qp 2 .mov [.func 101]] [2])
 .ret) (.seq (qr [qc 23 .eql 3 10,qm 22 23] [22])
 (.cond (qt 22) (.seq (qr [qp 2 .mov [.func 102]] [2])
 .ret) (.seq (qr [qc 25 .eql 3 11,qm 24 25] [24])
 (.cond (qt 24) (.seq (qr [qp 2 .mov [.func 103]] [2])
 .ret) (.seq (qr [qc 27 .eql 3 12,qm 26 27] [26])
 (.cond (qt 26) (.seq (qr [qp 2 .mov [.func 104]] [2])
 .ret) (.seq (qr [qc 29 .eql 3 13,qm 28 29] [28])
 (.cond (qt 28) (.seq (qr [qp 2 .mov [.func 105]] [2])
 .ret) .skip))))))))))))))))))))))))))))
 (.seq (qr [qm 30 0,qa 31 106 [qt 30],qm 2 31] [2])
 .ret))⟩
theorem K_worker_act:compF Tryz.prog 52=some Y73:=by kernel_rfl
def Q77:Fun:=⟨39,[0,1,13,5,23,4],[],
 .seq (.seq (.reg (.run (qm 6 0) (.run (qn 7 6) (.run (qf 8 5 7) (.run (ql 9 8) (.run (qm 10 1) (.eff (qa 11 67 [qt 10]) [ql 9 8] (.eff (qa 12 92 [qt 9,qt 11]) [] (.run (qp 13 .not [qt 12]) .done)))))))) [13])
 (.cond (qt 13) .ret .skip))
 (.seq (qr [qm 15 0,qn 16 15,qf 17 5 16,ql 18 17,qa 19 142 [qt 18],qm 14 19,qx 20 0 14,qx 21 1 14,qm 4 20,qm 5 21] [4,5])
 (.seq (.seq (qr [qm 22 5,qp 23 .not [qt 22]] [23])
 (.cond (qt 23) (.seq (qr [qm 24 0,qn 25 24,qf 26 1 25,qE (.st 1) [qt 26,qi 0]] [])
 .ret) .skip))
 (.seq (qr [qm 27 1,qa 28 50 [qt 27],qn 29 28,qf 30 2 29,ql 31 30,qc 32 .add 31 1,qn 33 28,qf 34 2 33,qs 1 34 32] [])
 (qr [qm 35 0,qm 36 1,qm 37 4,qa 38 143 [qt 35,qt 36,qt 37]] []))))⟩
theorem X06:compF Tryz.prog 93=some Q77:=by kernel_rfl
def ZX:Fun:=⟨39,[0,1,13,5,31,4],[],
 .seq (.seq (.reg (.run (qm 6 0) (.run (qn 7 6) (.run (qf 8 5 7) (.run (ql 9 8) (.run (qm 10 1) (.eff (qa 11 67 [qt 10]) [ql 9 8] (.eff (qa 12 92 [qt 9,qt 11]) [] (.run (qp 13 .not [qt 12]) .done)))))))) [13])
 (.cond (qt 13) .ret .skip))
 (.seq (qr [qm 14 0,qm 15 0,qn 16 15,qf 17 5 16,ql 18 17,qa 19 144 [qt 18],qn 20 14,qf 21 3 20,qs 1 21 19] [])
 (.seq (qr [qm 23 0,qn 24 23,qf 25 5 24,ql 26 25,qa 27 142 [qt 26],qm 22 27,qx 28 0 22,qx 29 1 22,qm 4 28,qm 5 29] [4,5])
 (.seq (.seq (qr [qm 30 5,qp 31 .not [qt 30]] [31])
 (.cond (qt 31) (.seq (qr [qm 32 0,qn 33 32,qf 34 1 33,qE (.st 1) [qt 34,qi 0]] [])
 .ret) .skip))
 (qr [qm 35 0,qm 36 1,qm 37 4,qa 38 143 [qt 35,qt 36,qt 37]] []))))⟩
theorem X95:compF Tryz.prog 94=some ZX:=by kernel_rfl
def Z4:Fun:=⟨33,[0,1,11,24],[],
 .seq (.seq (.reg (.run (qm 4 0) (.run (qn 5 4) (.run (qf 6 5 5) (.run (ql 7 6) (.run (qm 8 1) (.eff (qa 9 67 [qt 8]) [ql 7 6] (.eff (qa 10 92 [qt 7,qt 9]) [] (.run (qp 11 .not [qt 10]) .done)))))))) [11])
 (.cond (qt 11) .ret .skip))
 (.seq (qr [qm 12 0,qm 13 0,qn 14 13,qf 15 5 14,ql 16 15,qa 17 144 [qt 16],qn 18 12,qf 19 3 18,qs 1 19 17] [])
 (.seq (.seq (qr [qm 20 0,qn 21 20,qf 22 5 21,ql 23 22,qa 24 145 [qt 23]] [24])
 (.cond (qt 24) (.seq (qr [qm 25 1,qa 26 146 [qt 25,qi 5,qi 2]] [])
 .ret) .skip))
 (qr [qm 27 0,qn 28 27,qf 29 6 28,ql 30 29,qm 31 1,qe 32 .callv [qt 30,qt 31]] [])))⟩
theorem X41:compF Tryz.prog 95=some Z4:=by kernel_rfl
def Q48:Fun:=⟨22,[1,0],[],
 .seq (.reg (.run (qm 4 1) (.run (qm 6 1) (.run (qm 8 0) (.run (qn 9 8) (.run (qf 10 2 9) (.run (ql 11 10) (.eff (qa 5 67 [qt 4]) [ql 11 10] (.eff (qa 7 66 [qt 6]) [ql 11 10] (.eff (qa 12 137 [qt 7,qt 11]) [] (.eff (qa 13 160 [qt 5,qt 12]) [] .done)))))))))) [])
 (.seq (qr [qm 14 0,qm 15 1,qa 16 147 [qt 14,qt 15],qn 17 16,qf 18 12 17,qE (.st 1) [qt 18,.const (.bool false)]] [])
 (qr [qm 19 0,qn 20 19,qf 21 1 20,qE (.st 1) [qt 21,qi 4]] []))⟩
theorem Xz:compF Tryz.prog 97=some Q48:=by kernel_rfl
def Q78:Fun:=⟨27,[0,1,2,4],[],
 .seq (qr [qe 2 (.box 23) [qt 0]] [2])
 (.seq (.reg (.run (qm 5 1) (.run (qm 7 1) (.run (ql 9 2) (.run (qn 10 9) (.run (qf 11 2 10) (.run (ql 12 11) (.eff (qa 6 67 [qt 5]) [ql 12 11,ql 9 2] (.eff (qa 8 66 [qt 7]) [ql 12 11,ql 9 2] (.eff (qa 13 137 [qt 8,qt 12]) [] (.eff (qa 14 161 [qt 6,qt 13]) [] .done)))))))))) [])
 (.seq (qr [ql 15 2,qn 16 15,qf 17 7 16,ql 18 17,qe 4 (.new 3 [qv 0]) [],qs 1 4 18] [4])
 (.reg (.run (ql 19 2) (.run (qm 20 1) (.run (ql 21 2) (.run (qn 22 21) (.run (qf 23 2 22) (.run (ql 24 23) (.run (qp 25 (.mkf (.func 163) 0) [qt 2,qt 4]) (.eff (qa 26 162 [qt 19,qt 20,qt 24,qt 25]) [] .done)))))))) [])))⟩
theorem X07:compF Tryz.prog 98=some Q78:=by kernel_rfl
def Q49:Fun:=⟨20,[1,0,13],[],
 .seq (.seq (.reg (.run (qm 4 1) (.run (qm 6 1) (.run (qm 8 0) (.run (qn 9 8) (.run (qf 10 7 9) (.run (ql 11 10) (.eff (qa 5 67 [qt 4]) [ql 11 10] (.eff (qa 7 66 [qt 6]) [ql 11 10] (.eff (qa 12 137 [qt 7,qt 11]) [] (.eff (qa 13 153 [qt 5,qt 12]) [] .done)))))))))) [13])
 (.cond (qt 13) (.seq (qr [qm 14 0,qn 15 14,qf 16 1 15,qE (.st 1) [qt 16,qi 8]] [])
 .ret) .skip))
 (qr [qm 17 0,qm 18 1,qa 19 154 [qt 17,qt 18]] [])⟩
theorem XA:compF Tryz.prog 99=some Q49:=by kernel_rfl
def Q50:Fun:=⟨28,[1,0],[],
 .seq (.reg (.run (qm 4 1) (.run (qm 6 1) (.run (qm 8 0) (.run (qn 9 8) (.run (qf 10 7 9) (.run (ql 11 10) (.eff (qa 5 67 [qt 4]) [ql 11 10] (.eff (qa 7 66 [qt 6]) [ql 11 10] (.eff (qa 12 137 [qt 7,qt 11]) [] (.eff (qa 13 160 [qt 5,qt 12]) [] .done)))))))))) [])
 (.seq (qr [qm 14 1,qm 15 0,qn 16 15,qf 17 7 16,ql 18 17,qa 19 149 [qt 14,qt 18],qn 20 19,qf 21 12 20,qE (.st 1) [qt 21,.const (.bool false)]] [])
 (qr [qm 22 0,qm 23 0,qn 24 23,qf 25 7 24,ql 26 25,qa 27 49 [qt 22,qt 26]] []))⟩
theorem XB:compF Tryz.prog 100=some Q50:=by kernel_rfl
def Q32:Fun:=⟨63,[0,1,4,45,6,5,50],[],
 .seq (qr [qm 7 0,qm 8 1,qa 9 147 [qt 7,qt 8],qm 4 9] [4])
 (.seq (.reg (.run (qm 10 1) (.run (qm 11 4) (.run (qn 12 11) (.run (qf 13 11 12) (.run (ql 14 13) (.run (qm 16 1) (.run (qm 18 4) (.run (qn 19 18) (.run (qf 20 14 19) (.run (ql 21 20) (.run (qm 22 0) (.run (qn 23 22) (.run (qf 24 8 23) (.run (qf 25 0 24) (.run (ql 26 25) (.eff (qa 15 164 [qt 10,qt 14]) [ql 26 25,ql 21 20] (.eff (qa 17 67 [qt 16]) [ql 26 25,ql 21 20] (.eff (qa 27 165 [qt 15,qt 17,qt 21,qt 26]) [] .done)))))))))))))))))) [])
 (.seq (qr [qm 28 4,qn 29 28,qf 30 15 29,ql 31 30,qc 32 .eql 31 0,qm 5 32] [5])
 (.seq (qr [qm 33 4,qm 34 0,qn 35 34,qf 36 8 35,qf 37 0 36,ql 38 37,qn 39 33,qf 40 15 39,qs 1 40 38] [])
 (.seq (qr [qp 6 .mov [qi 6]] [6])
 (.seq (.seq (qr [qm 41 0,qn 42 41,qf 43 8 42,qf 44 1 43,ql 45 44] [45])
 (.cond (qt 45) (qr [qp 6 .mov [qi 3]] [6]) .skip))
 (.seq (qr [qm 46 0,qm 47 1,qm 48 6,qa 49 166 [qt 46,qt 47,qt 48]] [])
 (.seq (.seq (qr [qm 50 5] [50])
 (.cond (qt 50) (.seq (qr [qm 51 0,qm 52 1,qm 53 4,qn 54 53,qf 55 11 54,ql 56 55,qm 57 0,qp 58 (.mkf (.func 167) 1) [qt 57],qa 59 162 [qt 51,qt 52,qt 56,qt 58]] [])
 .ret) .skip))
 (qr [qm 60 0,qm 61 1,qa 62 167 [qt 60,qt 61]] []))))))))⟩
theorem Z99:compF Tryz.prog 101=some Q32:=by kernel_rfl
def Z5:Fun:=⟨40,[1,0,4,24],[],
 .seq (.reg (.run (qm 7 1) (.run (qm 9 1) (.run (qm 11 0) (.run (qn 12 11) (.run (qf 13 0 12) (.run (ql 14 13) (.eff (qa 8 67 [qt 7]) [ql 14 13] (.eff (qa 10 66 [qt 9]) [ql 14 13] (.eff (qa 15 69 [qt 10,qt 14]) [] (.eff (qa 16 68 [qt 8,qt 15]) [] (.run (qm 6 16) (.run (qx 17 0 6) (.run (qx 18 1 6) (.run (qm 4 17) (.run (qm 5 18) .done))))))))))))))) [4])
 (.seq (.seq (qr [qm 19 4,qm 20 0,qn 21 20,qf 22 3 21,ql 23 22,qb 24 .geq 19 23] [24])
 (.cond (qt 24) (.seq (qr [qm 25 0,qm 26 1,qm 27 0,qn 28 27,qf 29 8 28,qf 30 0 29,ql 31 30,qa 32 168 [qt 25,qt 26,qi 0,qt 31]] [])
 .ret) .skip))
 (.seq (qr [qm 33 0,qn 34 33,qf 35 8 34,qf 36 2 35,qE (.st 1) [qt 36,.const (.bool false)]] [])
 (qr [qm 37 0,qm 38 1,qa 39 169 [qt 37,qt 38]] [])))⟩
theorem X42:compF Tryz.prog 102=some Z5:=by kernel_rfl
def Q79:Fun:=⟨77,[0,1,15,30,31,35,4,7,5,68,6],[],
 .seq (.seq (.reg (.run (qm 8 0) (.run (qn 9 8) (.run (qf 10 16 9) (.run (ql 11 10) (.run (qm 12 1) (.eff (qa 13 67 [qt 12]) [ql 11 10] (.eff (qa 14 170 [qt 11,qt 13]) [] (.run (qp 15 .not [qt 14]) .done)))))))) [15])
 (.cond (qt 15) .ret .skip))
 (.seq (qr [qm 17 0,qn 18 17,qf 19 16 18,ql 20 19,qa 21 171 [qt 20],qm 16 21,qx 22 0 16,qx 23 1 16,qm 4 22,qm 5 23] [4,5])
 (.seq (qr [qm 24 0,qp 25 (.mkf (.func 169) 1) [qt 24],qm 6 25] [6])
 (.seq (.seq (qr [qm 26 0,qn 27 26,qf 28 8 27,qf 29 3 28,ql 30 29] [30])
 (.block 0 (.seq (qr [qc 32 .eql 30 1,qm 31 32] [31])
 (.cond (qt 31) (qr [qm 33 0,qp 34 (.mkf (.func 172) 1) [qt 33],qm 6 34] [6]) (.seq (qr [qc 36 .eql 30 2,qm 35 36] [35])
 (.cond (qt 35) (.seq (qr [qm 37 0,qm 38 4,qn 39 37,qf 40 12 39,qf 41 2 40,qs 1 41 38] [])
 (.seq (qr [qm 42 0,qm 43 1,qa 44 147 [qt 42,qt 43],qm 7 44] [7])
 (.seq (.reg (.run (qm 45 0) (.run (qm 46 0) (.run (qm 47 1) (.run (qm 48 7) (.run (qn 49 48) (.run (qf 50 11 49) (.run (ql 51 50) (.run (qm 53 7) (.run (qn 54 53) (.run (qf 55 14 54) (.run (ql 56 55) (.run (qm 57 0) (.run (qn 58 57) (.run (qf 59 12 58) (.run (qf 60 0 59) (.run (ql 61 60) (.run (qp 62 .not [qt 61]) (.eff (qa 52 164 [qt 47,qt 51]) [ql 61 60,ql 56 55] (.eff (qa 63 173 [qt 52,qt 56,qt 62]) [] (.run (qn 64 45) (.run (qf 65 18 64) (.eff (qs 1 65 63) [] (.run (qn 66 46) (.run (qf 67 1 66) (.eff (qE (.st 1) [qt 67,qi 15]) [] .done))))))))))))))))))))))))) [])
 .ret))) .skip))))))
 (.seq (.seq (qr [qm 68 5] [68])
 (.cond (qt 68) (.seq (qr [qm 69 0,qm 70 1,qm 71 4,qm 72 6,qa 73 162 [qt 69,qt 70,qt 71,qt 72]] [])
 .ret) .skip))
 (qr [qm 74 6,qm 75 1,qe 76 .callv [qt 74,qt 75]] [])))))⟩
theorem X08:compF Tryz.prog 103=some Q79:=by kernel_rfl
def Z6:Fun:=⟨66,[0,1,4,28,42],[],
 .seq (qr [qm 5 0,qm 6 1,qa 7 147 [qt 5,qt 6],qm 4 7] [4])
 (.seq (.reg (.run (qm 8 4) (.run (qm 9 1) (.run (qm 10 4) (.run (qn 11 10) (.run (qf 12 11 11) (.run (ql 13 12) (.run (qm 15 1) (.run (qm 17 4) (.run (qn 18 17) (.run (qf 19 14 18) (.run (ql 20 19) (.run (qc 21 .sub 20 1) (.eff (qa 14 164 [qt 9,qt 13]) [ql 20 19] (.eff (qa 16 67 [qt 15]) [ql 20 19] (.eff (qa 22 174 [qt 14,qt 16,qt 21]) [] (.run (qn 23 8) (.run (qf 24 16 23) (.eff (qs 1 24 22) [] .done)))))))))))))))))) [])
 (.block 0 (.seq (.reg (.run (qm 29 4) (.run (qn 30 29) (.run (qf 31 16 30) (.run (ql 32 31) (.run (qm 33 0) (.run (qn 34 33) (.run (qf 35 8 34) (.run (qf 36 0 35) (.run (ql 37 36) (.eff (qa 38 175 [qt 32,qt 37]) [] (.run (qm 28 38) .done))))))))))) [28])
 (.cond (qt 28) (qr [qm 39 0,qm 40 1,qa 41 176 [qt 39,qt 40]] []) (.seq (qr [qm 43 1,qa 44 90 [qt 43],qp 45 (.fld 6 none) [qt 44],qm 46 45,qg 47 46 true (.pur .mov [qt 0]),qg 48 46 true (.pur .nilc [qt 47]),qg 49 46 true (.pur (.fla 8) [qt 48]),qg 50 46 true (.pur (.fla 2) [qt 49]),qg 51 46 true (.ld none (qt 50)),qg 52 46 true (.pur .not [qt 51]),qp 53 .pick [qt 46,qt 52,.const (.bool false)],qm 42 53] [42])
 (.cond (qt 42) (.seq (qr [qm 54 0,qn 55 54,qf 56 8 55,qf 57 2 56,qE (.st 1) [qt 57,.const (.bool true)]] [])
 (qr [qm 58 0,qm 59 1,qm 60 0,qn 61 60,qf 62 8 61,qf 63 0 62,ql 64 63,qa 65 168 [qt 58,qt 59,qi 1,qt 64]] [])) (qr [qm 25 0,qm 26 1,qa 27 172 [qt 25,qt 26]] [])))))))⟩
theorem X43:compF Tryz.prog 104=some Z6:=by kernel_rfl
def Q80:Fun:=⟨26,[0,1,11,16],[],
 .seq (.seq (.reg (.run (qm 4 0) (.run (qn 5 4) (.run (qf 6 17 5) (.run (ql 7 6) (.run (qm 8 1) (.eff (qa 9 67 [qt 8]) [ql 7 6] (.eff (qa 10 177 [qt 7,qt 9]) [] (.run (qp 11 .not [qt 10]) .done)))))))) [11])
 (.cond (qt 11) .ret .skip))
 (.seq (.seq (qr [qm 12 0,qn 13 12,qf 14 17 13,ql 15 14,qa 16 178 [qt 15]] [16])
 (.cond (qt 16) (.seq (qr [qm 17 0,qm 18 0,qn 19 18,qf 20 7 19,ql 21 20,qa 22 49 [qt 17,qt 21]] [])
 .ret) .skip))
 (qr [qm 23 0,qm 24 1,qa 25 154 [qt 23,qt 24]] []))⟩
theorem X09:compF Tryz.prog 105=some Q80:=by kernel_rfl
def X76:Fun:=⟨24,[2,0,3,4,6,8,10,12,14,16,18,20,22],[.tmp 2],
 .seq (qr [qp 2 .mov [.const .nilFunc]] [2])
 (.seq (.seq (qr [qm 3 0] [3])
 (.block 0 (.seq (qr [qc 5 .eql 3 14,qm 4 5] [4])
 (.cond (qt 4) (.seq (qr [qp 2 .mov [.func 179]] [2])
 .ret) (.seq (qr [qc 7 .eql 3 15,qm 6 7] [6])
 (.cond (qt 6) (.seq (qr [qp 2 .mov [.func 180]] [2])
 .ret) (.seq (qr [qc 9 .eql 3 16,qm 8 9] [8])
 (.cond (qt 8) (.seq (qr [qp 2 .mov [.func 181]] [2])
 .ret) (.seq (qr [qc 11 .eql 3 17,qm 10 11] [10])
 (.cond (qt 10) (.seq (qr [qp 2 .mov [.func 182]] [2])
 .ret) (.seq (qr [qc 13 .eql 3 18,qm 12 13] [12])
 (.cond (qt 12) (.seq (qr [qp 2 .mov [.func 183]] [2])
 .ret) (.seq (qr [qc 15 .eql 3 19,qm 14 15] [14])
 (.cond (qt 14) (.seq (qr [qp 2 .mov [.func 184]] [2])
 .ret) (.seq (qr [qc 17 .eql 3 20,qm 16 17] [16])
 (.cond (qt 16) (.seq (qr [qp 2 .mov [.func 185]] [2])
 .ret) (.seq (qr [qc 19 .eql 3 21,qm 18 19] [18])
 (.cond (qt 18) (.seq (qr [qp 2 .mov [.func 186]] [2])
 .ret) (.seq (qr [qc 21 .eql 3 22,qm 20 21] [20])
 (.cond (qt 20) (.seq (qr [qp 2 .mov [.func 187]] [2])
 .ret) (.seq (qr [qc 23 .eql 3 23,qm 22 23] [22])
 (.cond (qt 22) (.seq (qr [qp 2 .mov [.func 188]] [2])
 .ret) .skip))))))))))))))))))))))
 (.seq (qr [qp 2 .mov [.func 189]] [2])
 .ret))⟩
theorem J26:compF Tryz.prog 106=some X76:=by kernel_rfl
def Q81:Fun:=⟨26,[1,2,6,19,0],[],
 .seq (.seq (qr [qm 7 1,qa 8 56 [qt 7],qm 9 2,qa 10 115 [qt 8,qt 9],qm 6 10] [6])
 (.seq (qr [qm 11 6,qp 12 (.eqn true 0) [qt 11],qm 13 12,qg 14 13 true (.pur .mov [qt 6]),qg 15 13 true (.pur .nilc [qt 14]),qg 16 13 true (.pur (.fla 0) [qt 15]),qg 17 13 true (.ld none (qt 16)),qg 18 13 true (.pur (.bin .eql) [qt 17,qi 3]),qp 19 .pick [qt 13,qt 18,.const (.bool false)]] [19])
 (.cond (qt 19) (.seq (qr [qm 20 0,qm 21 2,qa 22 219 [qt 20,qt 21]] [])
 .ret) .skip)))
 (qr [qm 23 0,qm 24 2,qa 25 49 [qt 23,qt 24]] [])⟩
theorem X10:compF Tryz.prog 143=some Q81:=by kernel_rfl
def Q82:Fun:=⟨11,[4,1,0],[.tmp 4],
 .seq (qr [qp 4 .mov [.const (.pointer none)]] [4])
 (.seq (qr [qm 5 1,qm 6 0,qn 7 6,qf 8 2 7,ql 9 8,qa 10 149 [qt 5,qt 9],qm 4 10] [4])
 .ret)⟩
theorem X11:compF Tryz.prog 147=some Q82:=by kernel_rfl
def J04:Fun:=⟨15,[4,0,1,5,11],[.tmp 4],
 .seq (qr [qp 4 .mov [.const (.pointer none)]] [4])
 (.seq (.seq (qr [qm 6 0,qa 7 56 [qt 6],qm 8 1,qa 9 115 [qt 7,qt 8],qm 5 9] [5])
 (.seq (qr [qm 10 5,qp 11 (.eqn true 0) [qt 10]] [11])
 (.cond (qt 11) (.seq (qr [qm 12 5,qm 4 12] [4])
 .ret) .skip)))
 (.seq (qr [qp 13 (.bld [qv 0,qv 0,qv 0,qv 0,qv 0,qv 0,qv 0,qv 0,qv 0,qv 0,qv 0,qv 0,.bool false,.bool false,qv 0,qv 0,qv 0,qv 0,qv 0] []) [],qe 14 (.box 158) [qt 13],qm 4 14] [4])
 .ret))⟩
theorem K_worker_at:compF Tryz.prog 149=some J04:=by kernel_rfl
def Z7:Fun:=⟨24,[0,1],[],
 .seq (qr [qm 4 0,qm 5 0,qn 6 4,qf 7 2 6,qE (.st 1) [qt 7,qi 0],qn 8 5,qf 9 1 8,qE (.st 1) [qt 9,qi 2]] [])
 (.reg (.run (qm 10 0) (.run (qm 11 1) (.run (qm 13 0) (.run (qn 14 13) (.run (qf 15 0 14) (.run (ql 16 15) (.run (qm 17 0) (.run (qn 18 17) (.run (qf 19 3 18) (.run (ql 20 19) (.eff (qa 12 66 [qt 11]) [ql 20 19,ql 16 15] (.eff (qa 21 226 [qt 12,qt 16,qt 20]) [] (.run (qn 22 10) (.run (qf 23 5 22) (.eff (qs 1 23 21) [] .done))))))))))))))) [])⟩
theorem X44:compF Tryz.prog 154=some Z7:=by kernel_rfl
def Z8:Fun:=⟨51,[4,9,11,12,0,1,2,3,21,30,39,45],[],
 .seq (qr [qe 9 (.box 226) [qt 4]] [9])
 (.seq (qr [qf 10 0 9,ql 11 10] [11])
 (.block 0 (.seq (qr [qc 13 .eql 11 6,qm 12 13] [12])
 (.cond (qt 12) (qr [qm 14 0,qm 15 1,qm 16 2,qm 17 3,qf 18 2 9,ql 19 18,qa 20 228 [qt 14,qt 15,qt 16,qt 17,qt 19]] []) (.seq (qr [qc 22 .eql 11 8,qm 21 22] [21])
 (.cond (qt 21) (qr [qm 23 0,qm 24 1,qm 25 2,qm 26 3,qf 27 2 9,ql 28 27,qa 29 229 [qt 23,qt 24,qt 25,qt 26,qt 28]] []) (.seq (.seq (qr [qc 31 .eql 11 9,qm 30 31] [30])
 (.cond (qt 30) .skip (qr [qc 32 .eql 11 10,qm 30 32] [30])))
 (.cond (qt 30) (qr [qm 33 0,qm 34 1,qm 35 2,qm 36 3,qL 37 5 9,qa 38 230 [qt 33,qt 34,qt 35,qt 36,qt 37]] []) (.seq (qr [qc 40 .eql 11 11,qm 39 40] [39])
 (.cond (qt 39) (qr [qm 41 0,qm 42 1,qm 43 2,qa 44 231 [qt 41,qt 42,qt 43]] []) (.seq (qr [qc 46 .eql 11 12,qm 45 46] [45])
 (.cond (qt 45) (qr [qm 47 0,qm 48 1,qm 49 2,qa 50 232 [qt 47,qt 48,qt 49]] []) .skip))))))))))))⟩
theorem X45:compF Tryz.prog 159=some Z8:=by kernel_rfl
def Q51:Fun:=⟨30,[0,1,2,3],[],
 .reg (.run (qm 8 0) (.run (qm 9 0) (.run (qm 10 0) (.run (qm 11 1) (.run (qm 13 0) (.run (qn 14 13) (.run (qf 15 0 14) (.run (ql 16 15) (.run (qm 17 0) (.run (qn 18 17) (.run (qf 19 3 18) (.run (ql 20 19) (.run (qm 21 2) (.run (qm 23 3) (.eff (qa 12 66 [qt 11]) [ql 20 19,ql 16 15] (.eff (qa 22 233 [qt 12,qt 16,qt 20,qt 21]) [] (.run (qn 24 8) (.run (qf 25 5 24) (.eff (qs 1 25 22) [] (.run (qn 26 9) (.run (qf 27 6 26) (.eff (qs 1 27 23) [] (.run (qn 28 10) (.run (qf 29 1 28) (.eff (qE (.st 1) [qt 29,qi 3]) [] .done))))))))))))))))))))))))) []⟩
theorem XC:compF Tryz.prog 162=some Q51:=by kernel_rfl
def Q33:Fun:=⟨7,[1,2],[],
 qr [ql 4 1,ql 5 2,qa 6 49 [qt 4,qt 5]] []⟩
theorem X0:compF Tryz.prog 163=some Q33:=by kernel_rfl
def X12:Fun:=⟨15,[4,0,1],[.cell 4 (some 6)],
 .seq (qr [qe 4 (.new 239 [qv 0,qv 0,qv 0,qv 0,qv 0,qv 0]) []] [4])
 (.seq (qr [qm 5 0,qa 6 66 [qt 5],qm 7 1,qm 8 0,qm 9 1,qa 10 149 [qt 8,qt 9],qn 11 10,qf 12 18 11,ql 13 12,qa 14 234 [qt 6,qt 7,qt 13],qs 6 4 14] [])
 .ret)⟩
theorem J05:compF Tryz.prog 164=some X12:=by kernel_rfl
def Z9:Fun:=⟨32,[0,1,2,6],[],
 .seq (qr [qm 7 0,qm 8 1,qa 9 147 [qt 7,qt 8],qm 6 9] [6])
 (.reg (.run (qm 10 1) (.run (qm 12 2) (.run (qm 13 1) (.run (qm 14 6) (.run (qn 15 14) (.run (qf 16 11 15) (.run (ql 17 16) (.run (qm 22 6) (.run (qn 23 22) (.run (qf 24 14 23) (.run (ql 25 24) (.run (qm 26 6) (.run (qn 27 26) (.run (qf 28 15 27) (.run (ql 29 28) (.eff (qa 11 58 [qt 10]) [ql 29 28,ql 25 24,ql 17 16] (.eff (qa 18 149 [qt 13,qt 17]) [ql 29 28,ql 25 24] (.run (qn 19 18) (.run (qf 20 18 19) (.run (ql 21 20) (.run (qp 30 (.bld [qv 0,qv 0,qv 0,qv 0] [(0,1),(1,1),(2,1),(3,1)]) [qt 12,qt 21,qt 25,qt 29]) (.eff (qa 31 148 [qt 11,qt 30]) [] .done)))))))))))))))))))))) [])⟩
theorem X46:compF Tryz.prog 166=some Z9:=by kernel_rfl
def Q34:Fun:=⟨18,[1,6,0],[],
 .seq (.seq (qr [qm 4 1,qa 5 90 [qt 4],qp 6 (.fld 6 none) [qt 5]] [6])
 (.cond (qt 6) (.seq (qr [qm 7 0,qn 8 7,qf 9 1 8,qE (.st 1) [qt 9,qi 10]] [])
 .ret) .skip))
 (qr [qm 10 0,qm 11 1,qm 12 0,qn 13 12,qf 14 8 13,qf 15 0 14,ql 16 15,qa 17 168 [qt 10,qt 11,qi 0,qt 16]] [])⟩
theorem X9:compF Tryz.prog 167=some Q34:=by kernel_rfl
def Q52:Fun:=⟨35,[0,1,2,8,3],[],
 .seq (qr [qm 9 0,qm 10 1,qa 11 147 [qt 9,qt 10],qm 8 11] [8])
 (.seq (qr [qm 12 0,qm 13 0,qm 14 2,qn 15 12,qf 16 8 15,qf 17 3 16,qs 1 17 14,qn 18 13,qf 19 1 18,qE (.st 1) [qt 19,qi 11]] [])
 (.reg (.run (qm 20 0) (.run (qm 21 1) (.run (qm 22 8) (.run (qn 23 22) (.run (qf 24 11 23) (.run (ql 25 24) (.run (qm 27 8) (.run (qn 28 27) (.run (qf 29 14 28) (.run (ql 30 29) (.run (qm 31 3) (.eff (qa 26 164 [qt 21,qt 25]) [ql 30 29] (.eff (qa 32 236 [qt 26,qt 30,qt 31]) [] (.run (qn 33 20) (.run (qf 34 16 33) (.eff (qs 1 34 32) [] .done)))))))))))))))) []))⟩
theorem XD:compF Tryz.prog 168=some Q52:=by kernel_rfl
def Q53:Fun:=⟨53,[0,1,11,4,26],[],
 .seq (qr [qm 5 0,qm 6 1,qa 7 147 [qt 5,qt 6],qm 4 7] [4])
 (.block 0 (.seq (.seq (qr [qm 12 0,qn 13 12,qf 14 8 13,qf 15 1 14,ql 16 15,qp 17 .not [qt 16],qm 11 17] [11])
 (.cond (qt 11) .skip (qr [qm 18 4,qn 19 18,qf 20 14 19,ql 21 20,qc 22 .eql 21 0,qm 11 22] [11])))
 (.cond (qt 11) (qr [qm 23 0,qm 24 1,qa 25 176 [qt 23,qt 24]] []) (.seq (.reg (.run (qm 27 1) (.eff (qa 28 90 [qt 27]) [] (.run (qp 29 (.fld 5 none) [qt 28]) (.run (qm 30 29) (.run (qg 31 30 true (.pur .mov [qt 4])) (.run (qg 32 30 true (.pur .nilc [qt 31])) (.run (qg 33 30 true (.pur (.fla 16) [qt 32])) (.run (qg 34 30 true (.ld none (qt 33))) (.run (qg 35 30 true (.pur .mov [qt 0])) (.run (qg 36 30 true (.pur .nilc [qt 35])) (.run (qg 37 30 true (.pur (.fla 8) [qt 36])) (.run (qg 38 30 true (.pur (.fla 0) [qt 37])) (.run (qg 39 30 true (.ld none (qt 38))) (.eff (qg 40 30 true (.eff (.call 175) [qt 34,qt 39])) [] (.run (qp 41 .pick [qt 30,qt 40,.const (.bool false)]) (.run (qm 26 41) .done)))))))))))))))) [26])
 (.cond (qt 26) (.seq (qr [qm 42 1,qa 43 50 [qt 42],qn 44 43,qf 45 5 44,ql 46 45,qc 47 .add 46 1,qn 48 43,qf 49 5 48,qs 1 49 47] [])
 (qr [qm 50 0,qm 51 1,qa 52 176 [qt 50,qt 51]] [])) (qr [qm 8 0,qn 9 8,qf 10 1 9,qE (.st 1) [qt 10,qi 12]] []))))))⟩
theorem XE:compF Tryz.prog 169=some Q53:=by kernel_rfl
def Za:Fun:=⟨51,[0,1,4],[],
 .seq (qr [qm 5 0,qm 6 1,qa 7 147 [qt 5,qt 6],qm 4 7] [4])
 (.seq (qr [qm 8 4,qn 9 8,qf 10 13 9,qE (.st 1) [qt 10,.const (.bool true)]] [])
 (.seq (qr [qm 11 1,qa 12 50 [qt 11],qn 13 12,qf 14 3 13,ql 15 14,qc 16 .add 15 1,qn 17 12,qf 18 3 17,qs 1 18 16] [])
 (.seq (.reg (.run (qm 19 0) (.run (qm 20 1) (.run (qm 21 4) (.run (qn 22 21) (.run (qf 23 11 22) (.run (ql 24 23) (.run (qm 26 4) (.run (qn 27 26) (.run (qf 28 14 27) (.run (ql 29 28) (.run (qm 30 0) (.run (qn 31 30) (.run (qf 32 8 31) (.run (qf 33 0 32) (.run (ql 34 33) (.eff (qa 25 164 [qt 20,qt 24]) [ql 34 33,ql 29 28] (.eff (qa 35 242 [qt 25,qt 29,qt 34]) [] (.run (qn 36 19) (.run (qf 37 17 36) (.eff (qs 1 37 35) [] .done)))))))))))))))))))) [])
 (qr [qm 38 0,qm 39 0,qm 40 0,qm 41 0,qn 42 41,qf 43 2 42,ql 44 43,qn 45 38,qf 46 7 45,qs 1 46 44,qn 47 39,qf 48 2 47,qE (.st 1) [qt 48,qi 0],qn 49 40,qf 50 1 49,qE (.st 1) [qt 50,qi 13]] []))))⟩
theorem X47:compF Tryz.prog 172=some Za:=by kernel_rfl
def ZY:Fun:=⟨12,[0,1],[],
 .seq (qr [qm 4 0,qm 5 1,qa 6 147 [qt 4,qt 5],qn 7 6,qf 8 13 7,qE (.st 1) [qt 8,.const (.bool true)]] [])
 (qr [qm 9 0,qn 10 9,qf 11 1 10,qE (.st 1) [qt 11,qi 4]] [])⟩
theorem X96:compF Tryz.prog 176=some ZY:=by kernel_rfl
def Zb:Fun:=⟨27,[0,1,4],[],
 .seq (qr [qm 5 0,qm 6 1,qa 7 147 [qt 5,qt 6],qm 4 7] [4])
 (.seq (.reg (.run (qm 8 1) (.run (qm 9 4) (.run (qn 10 9) (.run (qf 11 11 10) (.run (ql 12 11) (.run (qm 14 1) (.run (qm 16 4) (.run (qn 17 16) (.run (qf 18 14 17) (.run (ql 19 18) (.eff (qa 13 164 [qt 8,qt 12]) [ql 19 18] (.eff (qa 15 67 [qt 14]) [ql 19 18] (.eff (qa 20 165 [qt 13,qt 15,qt 19,qi 1048576]) [] .done))))))))))))) [])
 (.seq (qr [qm 21 0,qm 22 1,qa 23 166 [qt 21,qt 22,qi 4]] [])
 (qr [qm 24 0,qm 25 1,qa 26 168 [qt 24,qt 25,qi 2,qi 1048576]] [])))⟩
theorem X48:compF Tryz.prog 179=some Zb:=by kernel_rfl
def Q54:Fun:=⟨23,[0,1,10],[],
 .seq (.reg (.run (qm 4 0) (.run (qn 5 4) (.run (qf 6 18 5) (.run (ql 7 6) (.run (qm 8 1) (.eff (qa 9 67 [qt 8]) [ql 7 6] (.eff (qa 10 245 [qt 7,qt 9]) [] .done))))))) [10])
 (.cond (qt 10) (.seq (qr [qm 11 0,qm 12 0,qn 13 12,qf 14 18 13,ql 15 14,qa 16 246 [qt 15],qn 17 11,qf 18 12 17,qf 19 3 18,qs 1 19 16] [])
 (qr [qm 20 0,qn 21 20,qf 22 1 21,qE (.st 1) [qt 22,qi 16]] [])) .skip)⟩
theorem XF:compF Tryz.prog 180=some Q54:=by kernel_rfl
def Zc:Fun:=⟨71,[0,1,4,33,53,5,62],[],
 .seq (qr [qm 6 0,qm 7 1,qa 8 147 [qt 6,qt 7],qn 9 8,qf 10 11 9,ql 11 10,qm 4 11] [4])
 (.seq (.reg (.run (qm 12 1) (.run (qm 14 0) (.run (qn 15 14) (.run (qf 16 2 15) (.run (ql 17 16) (.eff (qa 13 56 [qt 12]) [ql 17 16] (.eff (qa 18 247 [qt 13,qt 17]) [] .done))))))) [])
 (.seq (qr [qm 19 0,qn 20 19,qf 21 2 20,qE (.st 1) [qt 21,qi 0]] [])
 (.seq (qr [qm 22 1,qa 23 67 [qt 22],qm 24 1,qa 25 66 [qt 24],qm 26 4,qa 27 137 [qt 25,qt 26],qa 28 153 [qt 23,qt 27],qm 5 28] [5])
 (.block 0 (.seq (qr [qm 34 0,qn 35 34,qf 36 12 35,qf 37 0 36,ql 38 37,qm 39 38,qg 40 39 true (.pur .mov [qt 0]),qg 41 39 true (.pur .nilc [qt 40]),qg 42 39 true (.pur (.fla 12) [qt 41]),qg 43 39 true (.pur (.fla 1) [qt 42]),qg 44 39 true (.ld none (qt 43)),qp 45 .pick [qt 39,qt 44,.const (.bool false)],qm 33 45] [33])
 (.cond (qt 33) (qr [qm 46 0,qm 47 0,qm 48 4,qn 49 46,qf 50 7 49,qs 1 50 48,qn 51 47,qf 52 1 51,qE (.st 1) [qt 52,qi 17]] []) (.seq (qr [qm 54 0,qn 55 54,qf 56 12 55,qf 57 0 56,ql 58 57,qm 53 58] [53])
 (.cond (qt 53) (qr [qm 59 0,qm 60 4,qa 61 219 [qt 59,qt 60]] []) (.seq (qr [qm 63 5,qm 62 63] [62])
 (.cond (qt 62) (qr [qm 64 0,qm 65 0,qm 66 4,qn 67 64,qf 68 2 67,qs 1 68 66,qn 69 65,qf 70 1 69,qE (.st 1) [qt 70,qi 18]] []) (qr [qm 29 0,qm 30 1,qm 31 4,qa 32 248 [qt 29,qt 30,qt 31]] [])))))))))))⟩
theorem X49:compF Tryz.prog 181=some Zc:=by kernel_rfl
def Q55:Fun:=⟨27,[1,0,13],[],
 .seq (.seq (.reg (.run (qm 4 1) (.run (qm 6 1) (.run (qm 8 0) (.run (qn 9 8) (.run (qf 10 7 9) (.run (ql 11 10) (.eff (qa 5 67 [qt 4]) [ql 11 10] (.eff (qa 7 66 [qt 6]) [ql 11 10] (.eff (qa 12 137 [qt 7,qt 11]) [] (.eff (qa 13 153 [qt 5,qt 12]) [] .done)))))))))) [13])
 (.cond (qt 13) (.seq (qr [qm 14 0,qm 15 0,qm 16 0,qn 17 16,qf 18 7 17,ql 19 18,qn 20 14,qf 21 2 20,qs 1 21 19,qn 22 15,qf 23 1 22,qE (.st 1) [qt 23,qi 18]] [])
 .ret) .skip))
 (qr [qm 24 0,qm 25 1,qa 26 154 [qt 24,qt 25]] [])⟩
theorem XG:compF Tryz.prog 182=some Q55:=by kernel_rfl
def Q21:Fun:=⟨37,[0,1,4],[],
 .seq (qr [qm 5 0,qm 6 1,qa 7 147 [qt 5,qt 6],qn 8 7,qL 9 19 8,qe 4 (.new 158 [qv 0,qv 0,qv 0,qv 0,qv 0,qv 0,qv 0,qv 0,qv 0,qv 0,qv 0,qv 0,.bool false,.bool false,qv 0,qv 0,qv 0,qv 0,qv 0]) [],qs 19 4 9] [4])
 (.seq (.reg (.run (qm 10 1) (.run (qf 12 18 4) (.run (ql 13 12) (.run (qf 14 17 4) (.run (ql 15 14) (.run (qp 16 (.bld [qv 0,qv 0,qv 0,qv 0] [(0,1),(1,1),(2,1)]) [qi 5,qt 13,qt 15]) (.eff (qa 11 58 [qt 10]) [ql 15 14,ql 13 12] (.eff (qa 17 148 [qt 11,qt 16]) [] .done)))))))) [])
 (.seq (.reg (.run (qm 18 1) (.run (qf 19 11 4) (.run (ql 20 19) (.run (qf 22 3 4) (.run (qL 23 8 22) (.eff (qa 21 149 [qt 18,qt 20]) [qL 23 8 22] (.run (qn 24 21) (.run (qf 25 3 24) (.eff (qs 8 25 23) [] .done))))))))) [])
 (.seq (.reg (.run (qm 26 1) (.run (qm 28 0) (.run (qn 29 28) (.run (qf 30 2 29) (.run (ql 31 30) (.eff (qa 27 56 [qt 26]) [ql 31 30] (.eff (qa 32 247 [qt 27,qt 31]) [] .done))))))) [])
 (qr [qm 33 0,qf 34 11 4,ql 35 34,qa 36 49 [qt 33,qt 35]] []))))⟩
theorem Z78:compF Tryz.prog 183=some Q21:=by kernel_rfl
def Zd:Fun:=⟨61,[0,1,4,5,46,6,52],[],
 .seq (qr [qm 7 0,qm 8 1,qa 9 147 [qt 7,qt 8],qm 4 9] [4])
 (.seq (qr [qm 10 1,qm 11 4,qa 12 249 [qt 10,qt 11],qm 5 12] [5])
 (.seq (qr [qm 13 1,qm 14 0,qn 15 14,qf 16 2 15,ql 17 16,qa 18 164 [qt 13,qt 17],qe 6 (.new 239 [qv 0,qv 0,qv 0,qv 0,qv 0,qv 0]) [],qs 6 6 18] [6])
 (.block 0 (.seq (qr [qm 47 5,qc 48 .lss 47 0,qm 46 48] [46])
 (.cond (qt 46) (qr [qm 49 0,qm 50 1,qa 51 186 [qt 49,qt 50]] []) (.seq (.reg (.run (qL 53 6 6) (.run (qm 54 1) (.run (qm 56 5) (.eff (qa 55 67 [qt 54]) [qL 53 6 6] (.eff (qa 57 250 [qt 53,qt 55,qt 56]) [] (.run (qm 52 57) .done)))))) [52])
 (.cond (qt 52) (qr [qm 58 0,qn 59 58,qf 60 1 59,qE (.st 1) [qt 60,qi 21]] []) (.seq (qr [qm 19 1,qa 20 50 [qt 19],qn 21 20,qf 22 4 21,ql 23 22,qc 24 .add 23 1,qn 25 20,qf 26 4 25,qs 1 26 24] [])
 (.seq (qr [qm 27 0,qL 28 6 6,qm 29 5,qa 30 251 [qt 28,qt 29],qn 31 27,qf 32 19 31,qs 1 32 30] [])
 (qr [qm 33 0,qm 34 0,qm 35 0,qm 36 0,qn 37 36,qf 38 2 37,ql 39 38,qn 40 33,qf 41 7 40,qs 1 41 39,qn 42 34,qf 43 2 42,qE (.st 1) [qt 43,qi 0],qn 44 35,qf 45 1 44,qE (.st 1) [qt 45,qi 20]] []))))))))))⟩
theorem X50:compF Tryz.prog 184=some Zd:=by kernel_rfl
def Ze:Fun:=⟨30,[0,1,11,16],[],
 .seq (.seq (.reg (.run (qm 4 0) (.run (qn 5 4) (.run (qf 6 19 5) (.run (ql 7 6) (.run (qm 8 1) (.eff (qa 9 67 [qt 8]) [ql 7 6] (.eff (qa 10 252 [qt 7,qt 9]) [] (.run (qp 11 .not [qt 10]) .done)))))))) [11])
 (.cond (qt 11) .ret .skip))
 (.seq (.seq (qr [qm 12 0,qn 13 12,qf 14 19 13,ql 15 14,qa 16 253 [qt 15]] [16])
 (.cond (qt 16) (.seq (qr [qm 17 0,qm 18 0,qm 19 0,qn 20 19,qf 21 7 20,ql 22 21,qn 23 17,qf 24 2 23,qs 1 24 22,qn 25 18,qf 26 1 25,qE (.st 1) [qt 26,qi 21]] [])
 .ret) .skip))
 (qr [qm 27 0,qm 28 1,qa 29 154 [qt 27,qt 28]] []))⟩
theorem X51:compF Tryz.prog 185=some Ze:=by kernel_rfl
def Q83:Fun:=⟨40,[0,1,4,6,25,5],[],
 .seq (qr [qm 7 0,qm 8 1,qa 9 147 [qt 7,qt 8],qm 4 9] [4])
 (.seq (.reg (.run (qm 11 0) (.run (qm 12 1) (.run (qm 13 4) (.run (qn 14 13) (.run (qL 15 19 14) (.run (qm 16 0) (.run (qn 17 16) (.run (qf 18 2 17) (.run (ql 19 18) (.eff (qa 20 255 [qt 15,qt 19]) [] (.eff (qa 21 254 [qt 11,qt 12,qt 20]) [] (.run (qm 10 21) (.run (qx 22 0 10) (.run (qx 23 1 10) (.run (qm 5 22) (.run (qm 6 23) .done)))))))))))))))) [5,6])
 (.seq (.seq (qr [qm 24 6,qp 25 .not [qt 24]] [25])
 (.cond (qt 25) .ret .skip))
 (.seq (qr [qm 26 4,qn 27 26,qf 28 17 27,ql 29 28,qc 30 .add 29 1,qn 31 26,qf 32 17 31,qs 1 32 30] [])
 (qr [qm 33 0,qm 34 0,qm 35 5,qn 36 33,qf 37 7 36,qs 1 37 35,qn 38 34,qf 39 1 38,qE (.st 1) [qt 39,qi 22]] []))))⟩
theorem X13:compF Tryz.prog 186=some Q83:=by kernel_rfl
def Q84:Fun:=⟨25,[1,0],[],
 .seq (.reg (.run (qm 4 1) (.run (qm 5 0) (.run (qn 6 5) (.run (qf 7 2 6) (.run (ql 8 7) (.run (qm 10 1) (.run (qm 12 1) (.run (qm 13 0) (.run (qn 14 13) (.run (qf 15 7 14) (.run (ql 16 15) (.eff (qa 9 164 [qt 4,qt 8]) [ql 16 15] (.eff (qa 11 67 [qt 10]) [ql 16 15] (.eff (qa 17 149 [qt 12,qt 16]) [] (.run (qn 18 17) (.run (qf 19 14 18) (.run (ql 20 19) (.eff (qa 21 165 [qt 9,qt 11,qt 20,qi 0]) [] .done)))))))))))))))))) [])
 (qr [qm 22 0,qn 23 22,qf 24 1 23,qE (.st 1) [qt 24,qi 23]] [])⟩
theorem X14:compF Tryz.prog 187=some Q84:=by kernel_rfl
def Zf:Fun:=⟨29,[1,0],[],
 .seq (.reg (.run (qm 4 1) (.run (qm 5 0) (.run (qn 6 5) (.run (qf 7 2 6) (.run (ql 8 7) (.run (qm 10 1) (.run (qm 12 1) (.run (qm 13 0) (.run (qn 14 13) (.run (qf 15 7 14) (.run (ql 16 15) (.run (qm 21 0) (.run (qn 22 21) (.run (qf 23 7 22) (.run (ql 24 23) (.eff (qa 9 164 [qt 4,qt 8]) [ql 24 23,ql 16 15] (.eff (qa 11 67 [qt 10]) [ql 24 23,ql 16 15] (.eff (qa 17 149 [qt 12,qt 16]) [ql 24 23] (.run (qn 18 17) (.run (qf 19 14 18) (.run (ql 20 19) (.eff (qa 25 256 [qt 9,qt 11,qt 20,qt 24]) [] .done)))))))))))))))))))))) [])
 (qr [qm 26 0,qn 27 26,qf 28 1 27,qE (.st 1) [qt 28,qi 24]] [])⟩
theorem X52:compF Tryz.prog 188=some Zf:=by kernel_rfl
def Q85:Fun:=⟨26,[1,0],[],
 .seq (.reg (.run (qm 4 1) (.run (qm 6 1) (.run (qm 8 0) (.run (qn 9 8) (.run (qf 10 2 9) (.run (ql 11 10) (.eff (qa 5 67 [qt 4]) [ql 11 10] (.eff (qa 7 66 [qt 6]) [ql 11 10] (.eff (qa 12 137 [qt 7,qt 11]) [] (.eff (qa 13 161 [qt 5,qt 12]) [] .done)))))))))) [])
 (.seq (qr [qm 14 0,qm 15 0,qn 16 15,qf 17 7 16,ql 18 17,qa 19 49 [qt 14,qt 18]] [])
 (.seq (qr [qm 20 0,qm 21 1,qa 22 166 [qt 20,qt 21,qi 1]] [])
 (qr [qm 23 0,qm 24 1,qa 25 166 [qt 23,qt 24,qi 2]] [])))⟩
theorem X15:compF Tryz.prog 189=some Q85:=by kernel_rfl
def Q86:Fun:=⟨11,[0,1],[],
 qr [qm 4 0,qm 5 0,qm 6 1,qn 7 4,qf 8 2 7,qs 1 8 6,qn 9 5,qf 10 1 9,qE (.st 1) [qt 10,qi 19]] []⟩
theorem X16:compF Tryz.prog 219=some Q86:=by kernel_rfl
def Zg:Fun:=⟨43,[0,1,2,4,11,28,3,10],[],
 .seq (.reg (.run (qm 13 0) (.run (qm 14 1) (.run (qm 15 2) (.run (qn 16 15) (.run (qL 17 19 16) (.run (qm 18 0) (.run (qn 19 18) (.run (qf 20 2 19) (.run (ql 21 20) (.run (qm 22 4) (.eff (qa 23 274 [qt 17,qt 21,qt 22]) [] (.eff (qa 24 254 [qt 13,qt 14,qt 23]) [] (.run (qm 12 24) (.run (qx 25 0 12) (.run (qx 26 1 12) (.run (qm 10 25) (.run (qm 11 26) .done))))))))))))))))) [10,11])
 (.seq (.seq (qr [qm 27 11,qp 28 .not [qt 27]] [28])
 (.cond (qt 28) .ret .skip))
 (.seq (qr [qm 29 2,qm 30 2,qm 31 3,qn 32 29,qf 33 2 32,qs 1 33 31,qn 34 30,qf 35 12 34,qE (.st 1) [qt 35,.const (.bool true)]] [])
 (qr [qm 36 0,qm 37 0,qm 38 10,qn 39 36,qf 40 7 39,qs 1 40 38,qn 41 37,qf 42 1 41,qE (.st 1) [qt 42,qi 6]] [])))⟩
theorem X53:compF Tryz.prog 228=some Zg:=by kernel_rfl
def Zh:Fun:=⟨38,[0,1,2,4,11,30,3,10],[],
 .seq (.reg (.run (qm 13 0) (.run (qm 14 1) (.run (qm 15 2) (.run (qn 16 15) (.run (qL 17 19 16) (.run (qm 18 0) (.run (qn 19 18) (.run (qf 20 2 19) (.run (ql 21 20) (.run (qm 22 4) (.run (qm 23 1) (.eff (qa 24 276 [qt 23]) [ql 21 20,qL 17 19 16] (.eff (qa 25 275 [qt 17,qt 21,qt 22,qt 24]) [] (.eff (qa 26 254 [qt 13,qt 14,qt 25]) [] (.run (qm 12 26) (.run (qx 27 0 12) (.run (qx 28 1 12) (.run (qm 10 27) (.run (qm 11 28) .done))))))))))))))))))) [10,11])
 (.seq (.seq (qr [qm 29 11,qp 30 .not [qt 29]] [30])
 (.cond (qt 30) .ret .skip))
 (.seq (qr [qm 31 2,qm 32 3,qn 33 31,qf 34 2 33,qs 1 34 32] [])
 (qr [qm 35 0,qm 36 10,qa 37 219 [qt 35,qt 36]] [])))⟩
theorem X54:compF Tryz.prog 229=some Zh:=by kernel_rfl
def Zi:Fun:=⟨65,[4,2,9,18,1,10,26,3,0,52],[],
 .seq (qr [qe 9 (.box 226) [qt 4]] [9])
 (.seq (.reg (.run (qm 11 2) (.run (qn 12 11) (.run (qf 13 15 12) (.run (ql 14 13) (.run (qf 15 2 9) (.run (ql 16 15) (.eff (qa 17 263 [qt 14,qt 16]) [] (.run (qm 10 17) .done)))))))) [10])
 (.seq (.block 0 (.seq (qr [qm 19 2,qn 20 19,qf 21 0 20,ql 22 21,qc 23 .neq 22 2,qm 18 23] [18])
 (.cond (qt 18) (.seq (qr [qm 24 1,qa 25 146 [qt 24,qi 4,qi 4]] [])
 .ret) (.seq (qr [qm 27 10,qc 28 .neq 27 0,qm 26 28] [26])
 (.cond (qt 26) (.seq (qr [qm 29 1,qm 30 10,qa 31 146 [qt 29,qi 4,qt 30]] [])
 .ret) .skip)))))
 (.seq (qr [qm 32 2,qm 33 3,qn 34 32,qf 35 2 34,qs 1 35 33] [])
 (.seq (qr [qm 36 0,qf 37 2 9,ql 38 37,qf 39 0 9,ql 40 39,qc 41 .eql 40 9,qp 42 (.bld [qv 0,.bool false,.bool false,qv 0] [(0,1),(1,1),(2,1)]) [qt 38,qt 41,.const (.bool true)],qn 43 36,qf 44 8 43,qs 4 44 42] [])
 (.seq (qr [qm 45 0,qn 46 45,qf 47 1 46,qE (.st 1) [qt 47,qi 9]] [])
 (.seq (qr [qm 48 2,qn 49 48,qf 50 15 49,ql 51 50,qc 52 .eql 51 0] [52])
 (.cond (qt 52) (.reg (.run (qm 53 1) (.run (qm 54 2) (.run (qn 55 54) (.run (qf 56 11 55) (.run (ql 57 56) (.run (qm 59 2) (.run (qn 60 59) (.run (qf 61 3 60) (.run (qL 62 8 61) (.eff (qa 58 149 [qt 53,qt 57]) [qL 62 8 61] (.run (qn 63 58) (.run (qf 64 3 63) (.eff (qs 8 64 62) [] .done))))))))))))) []) .skip)))))))⟩
theorem X55:compF Tryz.prog 230=some Zi:=by kernel_rfl
def Q87:Fun:=⟨41,[2,6,1,14,0],[],
 .seq (.block 0 (.seq (qr [qm 7 2,qn 8 7,qf 9 0 8,ql 10 9,qc 11 .neq 10 2,qm 6 11] [6])
 (.cond (qt 6) (.seq (qr [qm 12 1,qa 13 146 [qt 12,qi 4,qi 4]] [])
 .ret) (.seq (qr [qm 15 2,qn 16 15,qf 17 15 16,ql 18 17,qc 19 .neq 18 0,qm 14 19] [14])
 (.cond (qt 14) (.seq (qr [qm 20 1,qa 21 146 [qt 20,qi 4,qi 5]] [])
 .ret) .skip)))))
 (.seq (.reg (.run (qm 22 1) (.run (qm 23 2) (.run (qn 24 23) (.run (qf 25 11 24) (.run (ql 26 25) (.run (qm 28 2) (.run (qn 29 28) (.run (qf 30 3 29) (.run (qL 31 8 30) (.eff (qa 27 149 [qt 22,qt 26]) [qL 31 8 30] (.run (qn 32 27) (.run (qf 33 3 32) (.eff (qs 8 33 31) [] .done))))))))))))) [])
 (.seq (qr [qm 34 0,qp 35 (.bld [.bool false,.bool false,qv 0,.bool false] [(0,1),(1,1)]) [.const (.bool true),.const (.bool true)],qn 36 34,qf 37 12 36,qs 4 37 35] [])
 (qr [qm 38 0,qn 39 38,qf 40 1 39,qE (.st 1) [qt 40,qi 14]] [])))⟩
theorem X17:compF Tryz.prog 231=some Q87:=by kernel_rfl
def Zj:Fun:=⟨69,[2,26,0,45,1,61],[],
 .block 0 (.seq (qr [qm 27 2,qn 28 27,qf 29 0 28,ql 30 29,qc 31 .eql 30 2,qm 26 31] [26])
 (.cond (qt 26) (.seq (qr [qm 32 0,qm 33 2,qn 34 33,qf 35 15 34,ql 36 35,qc 37 .eql 36 0,qp 38 (.bld [.bool false,.bool false,qv 0,.bool false] [(0,1)]) [qt 37],qn 39 32,qf 40 12 39,qs 4 40 38] [])
 (.seq (.seq (qr [qm 41 0,qn 42 41,qf 43 12 42,qf 44 0 43,ql 45 44] [45])
 (.cond (qt 45) (.reg (.run (qm 46 1) (.run (qm 47 2) (.run (qn 48 47) (.run (qf 49 11 48) (.run (ql 50 49) (.run (qm 52 2) (.run (qn 53 52) (.run (qf 54 3 53) (.run (qL 55 8 54) (.eff (qa 51 149 [qt 46,qt 50]) [qL 55 8 54] (.run (qn 56 51) (.run (qf 57 3 56) (.eff (qs 8 57 55) [] .done))))))))))))) []) .skip))
 (qr [qm 58 0,qn 59 58,qf 60 1 59,qE (.st 1) [qt 60,qi 14]] []))) (.seq (qr [qm 62 2,qn 63 62,qf 64 11 63,ql 65 64,qc 66 .eql 65 0,qm 61 66] [61])
 (.cond (qt 61) (qr [qm 67 1,qa 68 146 [qt 67,qi 1,qi 0]] []) (.seq (qr [qm 6 0,qm 7 2,qn 8 7,qf 9 11 8,ql 10 9,qn 11 6,qf 12 7 11,qs 1 12 10] [])
 (.seq (.reg (.run (qm 13 1) (.run (qm 15 0) (.run (qn 16 15) (.run (qf 17 2 16) (.run (ql 18 17) (.eff (qa 14 56 [qt 13]) [ql 18 17] (.eff (qa 19 247 [qt 14,qt 18]) [] .done))))))) [])
 (qr [qm 20 0,qm 21 0,qn 22 20,qf 23 2 22,qE (.st 1) [qt 23,qi 0],qn 24 21,qf 25 1 24,qE (.st 1) [qt 25,qi 7]] [])))))))⟩
theorem X56:compF Tryz.prog 232=some Zj:=by kernel_rfl
def Zk:Fun:=⟨47,[0,3,6,15,1,2,30,37],[],
 .seq (qr [qe 3 (.box 23) [qt 0]] [3])
 (.seq (qr [ql 7 3,qn 8 7,qf 9 12 8,qf 10 2 9,ql 11 10,qe 6 (.new 3 [qv 0]) [],qs 1 6 11] [6])
 (.block 0 (.seq (qr [ql 16 6,qc 17 .gtr 16 0,qm 18 17,qg 19 18 true (.ld none (qt 3)),qg 20 18 true (.pur .nilc [qt 19]),qg 21 18 true (.pur (.fla 12) [qt 20]),qg 22 18 true (.pur (.fla 3) [qt 21]),qg 23 18 true (.ld none (qt 22)),qp 24 .pick [qt 18,qt 23,.const (.bool false)],qm 15 24] [15])
 (.cond (qt 15) (qr [ql 25 3,qm 26 1,qm 27 2,qp 28 (.mkf (.func 290) 0) [qt 3,qt 6],qa 29 162 [qt 25,qt 26,qt 27,qt 28]] []) (.seq (qr [ql 31 6,qc 32 .gtr 31 0,qm 30 32] [30])
 (.cond (qt 30) (qr [ql 33 3,qm 34 1,ql 35 6,qa 36 143 [qt 33,qt 34,qt 35]] []) (.seq (qr [ql 38 3,qn 39 38,qf 40 12 39,qf 41 3 40,ql 42 41,qm 37 42] [37])
 (.cond (qt 37) (qr [ql 43 3,qm 44 1,qm 45 2,qa 46 143 [qt 43,qt 44,qt 45]] []) (qr [ql 12 3,qm 13 1,qa 14 154 [qt 12,qt 13]] [])))))))))⟩
theorem X57:compF Tryz.prog 248=some Zk:=by kernel_rfl
def X77:Fun:=⟨13,[4,1,0],[.tmp 4],
 .seq (qr [qp 4 .mov [qi 0]] [4])
 (.seq (.reg (.run (qm 5 1) (.run (qn 6 5) (.run (qf 7 17 6) (.run (ql 8 7) (.run (qm 9 0) (.eff (qa 10 90 [qt 9]) [ql 8 7] (.run (qp 11 (.fld 1 none) [qt 10]) (.run (qb 12 .sub 8 11) (.run (qm 4 12) .done))))))))) [4])
 .ret)⟩
theorem J27:compF Tryz.prog 249=some X77:=by kernel_rfl
def Zl:Fun:=⟨23,[6,7,2,1,5,9,18,8],[.tmp 6,.tmp 7],
 .seq (qr [qe 5 (.box 158) [qt 2],qp 6 .mov [qi 0],qp 7 .mov [.const (.bool false)]] [5,6,7])
 (.seq (.reg (.run (qm 11 1) (.run (qL 13 19 5) (.eff (qa 12 56 [qt 11]) [qL 13 19 5] (.eff (qa 14 87 [qt 12,qt 13]) [] (.run (qm 10 14) (.run (qx 15 0 10) (.run (qx 16 1 10) (.run (qm 8 15) (.run (qm 9 16) .done))))))))) [8,9])
 (.seq (.seq (qr [qm 17 9,qp 18 .not [qt 17]] [18])
 (.cond (qt 18) (qr [qm 19 1,qa 20 146 [qt 19,qi 5,qi 1]] []) .skip))
 (.seq (qr [qm 21 8,qm 22 9,qm 6 21,qm 7 22] [6,7])
 .ret)))⟩
theorem X58:compF Tryz.prog 254=some Zl:=by kernel_rfl
def Q56:Fun:=⟨8,[1,0,2],[],
 qr [ql 4 1,qm 5 0,ql 6 2,qa 7 143 [qt 4,qt 5,qt 6]] []⟩
theorem XH:compF Tryz.prog 290=some Q56:=by kernel_rfl
def Zm:Fun:=⟨158,[0,1,4,17,7,72,90,8,97,103,10,113,5,6,9,127,136,143],[],
 .seq (qr [qm 11 0,qm 12 1,qa 13 147 [qt 11,qt 12],qm 4 13] [4])
 (.seq (.seq (qr [qm 14 4,qn 15 14,qf 16 13 15,ql 17 16] [17])
 (.cond (qt 17) (.seq (qr [qm 18 4,qn 19 18,qf 20 13 19,qE (.st 1) [qt 20,.const (.bool false)]] [])
 (.reg (.run (qm 21 1) (.run (qm 23 1) (.run (qm 24 4) (.run (qn 25 24) (.run (qf 26 11 25) (.run (ql 27 26) (.run (qm 32 4) (.run (qn 33 32) (.run (qf 34 14 33) (.run (ql 35 34) (.run (qm 36 4) (.run (qn 37 36) (.run (qf 38 15 37) (.run (ql 39 38) (.eff (qa 22 58 [qt 21]) [ql 39 38,ql 35 34,ql 27 26] (.eff (qa 28 149 [qt 23,qt 27]) [ql 39 38,ql 35 34] (.run (qn 29 28) (.run (qf 30 18 29) (.run (ql 31 30) (.run (qp 40 (.bld [qv 0,qv 0,qv 0,qv 0] [(0,1),(1,1),(2,1),(3,1)]) [qi 2,qt 31,qt 35,qt 39]) (.eff (qa 41 148 [qt 22,qt 40]) [] .done))))))))))))))))))))) [])) .skip))
 (.seq (.reg (.run (qm 43 1) (.run (qm 44 4) (.run (qn 45 44) (.run (qf 46 1 45) (.run (ql 47 46) (.run (qm 48 4) (.run (qn 49 48) (.run (qf 50 2 49) (.run (ql 51 50) (.run (qm 53 4) (.run (qn 54 53) (.run (qf 55 2 54) (.run (ql 56 55) (.run (qm 57 4) (.run (qn 58 57) (.run (qf 59 3 58) (.run (qL 60 8 59) (.both (.eff (qa 52 151 [qt 43,qt 47,qt 51]) [qL 60 8 59,ql 56 55] (.both (.eff (qa 61 150 [qt 52,qt 56,qt 60]) [] (.run (qm 42 61) (.run (qx 62 0 42) (.run (qx 63 1 42) (.run (qx 64 2 42) (.run (qx 65 3 42) (.both (.eff (qe 6 (.new 156 [qv 0,qv 0,qv 0,qv 0,qv 0,qv 0,qv 0,qv 0]) []) [] (.eff (qe 7 (.new 226 [qv 0,qv 0,qv 0,qv 0,qv 0]) []) [] (.run (qm 5 62) (.eff (qs 8 6 63) [] (.eff (qs 5 7 64) [] (.run (qm 8 65) .done)))))) (.eff (qe 7 (.new 226 [qv 0,qv 0,qv 0,qv 0,qv 0]) []) [] (.eff (qe 6 (.new 156 [qv 0,qv 0,qv 0,qv 0,qv 0,qv 0,qv 0,qv 0]) []) [] (.run (qm 5 62) (.eff (qs 8 6 63) [] (.eff (qs 5 7 64) [] (.run (qm 8 65) .done))))))))))))) (.both (.eff (qe 6 (.new 156 [qv 0,qv 0,qv 0,qv 0,qv 0,qv 0,qv 0,qv 0]) []) [qL 60 8 59,ql 56 55] (.both (.eff (qa 61 150 [qt 52,qt 56,qt 60]) [] (.run (qm 42 61) (.run (qx 62 0 42) (.run (qx 63 1 42) (.run (qx 64 2 42) (.run (qx 65 3 42) (.eff (qe 7 (.new 226 [qv 0,qv 0,qv 0,qv 0,qv 0]) []) [] (.run (qm 5 62) (.eff (qs 8 6 63) [] (.eff (qs 5 7 64) [] (.run (qm 8 65) .done))))))))))) (.eff (qe 7 (.new 226 [qv 0,qv 0,qv 0,qv 0,qv 0]) []) [qL 60 8 59,ql 56 55] (.eff (qa 61 150 [qt 52,qt 56,qt 60]) [] (.run (qm 42 61) (.run (qx 62 0 42) (.run (qx 63 1 42) (.run (qx 64 2 42) (.run (qx 65 3 42) (.run (qm 5 62) (.eff (qs 8 6 63) [] (.eff (qs 5 7 64) [] (.run (qm 8 65) .done))))))))))))) (.eff (qe 7 (.new 226 [qv 0,qv 0,qv 0,qv 0,qv 0]) []) [qL 60 8 59,ql 56 55] (.both (.eff (qa 61 150 [qt 52,qt 56,qt 60]) [] (.run (qm 42 61) (.run (qx 62 0 42) (.run (qx 63 1 42) (.run (qx 64 2 42) (.run (qx 65 3 42) (.eff (qe 6 (.new 156 [qv 0,qv 0,qv 0,qv 0,qv 0,qv 0,qv 0,qv 0]) []) [] (.run (qm 5 62) (.eff (qs 8 6 63) [] (.eff (qs 5 7 64) [] (.run (qm 8 65) .done))))))))))) (.eff (qe 6 (.new 156 [qv 0,qv 0,qv 0,qv 0,qv 0,qv 0,qv 0,qv 0]) []) [qL 60 8 59,ql 56 55] (.eff (qa 61 150 [qt 52,qt 56,qt 60]) [] (.run (qm 42 61) (.run (qx 62 0 42) (.run (qx 63 1 42) (.run (qx 64 2 42) (.run (qx 65 3 42) (.run (qm 5 62) (.eff (qs 8 6 63) [] (.eff (qs 5 7 64) [] (.run (qm 8 65) .done)))))))))))))))) (.both (.eff (qe 6 (.new 156 [qv 0,qv 0,qv 0,qv 0,qv 0,qv 0,qv 0,qv 0]) []) [] (.both (.eff (qa 52 151 [qt 43,qt 47,qt 51]) [qL 60 8 59,ql 56 55] (.both (.eff (qa 61 150 [qt 52,qt 56,qt 60]) [] (.run (qm 42 61) (.run (qx 62 0 42) (.run (qx 63 1 42) (.run (qx 64 2 42) (.run (qx 65 3 42) (.eff (qe 7 (.new 226 [qv 0,qv 0,qv 0,qv 0,qv 0]) []) [] (.run (qm 5 62) (.eff (qs 8 6 63) [] (.eff (qs 5 7 64) [] (.run (qm 8 65) .done))))))))))) (.eff (qe 7 (.new 226 [qv 0,qv 0,qv 0,qv 0,qv 0]) []) [qL 60 8 59,ql 56 55] (.eff (qa 61 150 [qt 52,qt 56,qt 60]) [] (.run (qm 42 61) (.run (qx 62 0 42) (.run (qx 63 1 42) (.run (qx 64 2 42) (.run (qx 65 3 42) (.run (qm 5 62) (.eff (qs 8 6 63) [] (.eff (qs 5 7 64) [] (.run (qm 8 65) .done))))))))))))) (.eff (qe 7 (.new 226 [qv 0,qv 0,qv 0,qv 0,qv 0]) []) [] (.eff (qa 52 151 [qt 43,qt 47,qt 51]) [qL 60 8 59,ql 56 55] (.eff (qa 61 150 [qt 52,qt 56,qt 60]) [] (.run (qm 42 61) (.run (qx 62 0 42) (.run (qx 63 1 42) (.run (qx 64 2 42) (.run (qx 65 3 42) (.run (qm 5 62) (.eff (qs 8 6 63) [] (.eff (qs 5 7 64) [] (.run (qm 8 65) .done)))))))))))))) (.eff (qe 7 (.new 226 [qv 0,qv 0,qv 0,qv 0,qv 0]) []) [] (.both (.eff (qa 52 151 [qt 43,qt 47,qt 51]) [qL 60 8 59,ql 56 55] (.both (.eff (qa 61 150 [qt 52,qt 56,qt 60]) [] (.run (qm 42 61) (.run (qx 62 0 42) (.run (qx 63 1 42) (.run (qx 64 2 42) (.run (qx 65 3 42) (.eff (qe 6 (.new 156 [qv 0,qv 0,qv 0,qv 0,qv 0,qv 0,qv 0,qv 0]) []) [] (.run (qm 5 62) (.eff (qs 8 6 63) [] (.eff (qs 5 7 64) [] (.run (qm 8 65) .done))))))))))) (.eff (qe 6 (.new 156 [qv 0,qv 0,qv 0,qv 0,qv 0,qv 0,qv 0,qv 0]) []) [qL 60 8 59,ql 56 55] (.eff (qa 61 150 [qt 52,qt 56,qt 60]) [] (.run (qm 42 61) (.run (qx 62 0 42) (.run (qx 63 1 42) (.run (qx 64 2 42) (.run (qx 65 3 42) (.run (qm 5 62) (.eff (qs 8 6 63) [] (.eff (qs 5 7 64) [] (.run (qm 8 65) .done))))))))))))) (.eff (qe 6 (.new 156 [qv 0,qv 0,qv 0,qv 0,qv 0,qv 0,qv 0,qv 0]) []) [] (.eff (qa 52 151 [qt 43,qt 47,qt 51]) [qL 60 8 59,ql 56 55] (.eff (qa 61 150 [qt 52,qt 56,qt 60]) [] (.run (qm 42 61) (.run (qx 62 0 42) (.run (qx 63 1 42) (.run (qx 64 2 42) (.run (qx 65 3 42) (.run (qm 5 62) (.eff (qs 8 6 63) [] (.eff (qs 5 7 64) [] (.run (qm 8 65) .done))))))))))))))))))))))))))))))))) [6,7,5,8])
 (.block 0 (.seq (qr [qL 73 5 7,qa 74 152 [qt 73],qm 75 74,qg 76 75 true (.pur .mov [qt 4]),qg 77 75 true (.pur .nilc [qt 76]),qg 78 75 true (.pur (.fla 12) [qt 77]),qg 79 75 true (.ld none (qt 78)),qp 80 .pick [qt 75,qt 79,.const (.bool false)],qm 72 80] [72])
 (.cond (qt 72) (.seq (.seq (.reg (.run (qm 81 1) (.run (qm 83 1) (.run (qm 85 0) (.run (qn 86 85) (.run (qf 87 2 86) (.run (ql 88 87) (.eff (qa 82 67 [qt 81]) [ql 88 87] (.eff (qa 84 66 [qt 83]) [ql 88 87] (.eff (qa 89 137 [qt 84,qt 88]) [] (.eff (qa 90 153 [qt 82,qt 89]) [] .done)))))))))) [90])
 (.cond (qt 90) (.seq (qr [qm 91 0,qn 92 91,qf 93 1 92,qE (.st 1) [qt 93,qi 5]] [])
 .ret) .skip))
 (qr [qm 94 0,qm 95 1,qa 96 154 [qt 94,qt 95]] [])) (.seq (qr [qm 98 8,qc 99 .neq 98 0,qm 97 99] [97])
 (.cond (qt 97) (qr [qm 100 1,qm 101 8,qa 102 146 [qt 100,qi 4,qt 101]] []) (.seq (qr [qL 104 5 7,qa 105 155 [qt 104],qm 103 105] [103])
 (.cond (qt 103) (.seq (qr [qm 107 1,qL 108 5 7,qa 109 156 [qt 107,qt 108],qm 106 109,qx 110 0 106,qx 111 1 106,qm 9 110,qm 10 111] [9,10])
 (.seq (.seq (qr [qm 112 10,qp 113 .not [qt 112]] [113])
 (.cond (qt 113) (.seq (qr [qm 114 1,qa 115 146 [qt 114,qi 4,qi 2]] [])
 .ret) .skip))
 (qr [qm 116 4,qm 117 4,qm 118 5,qL 119 8 6,qL 120 5 7,qm 121 9,qa 122 157 [qt 119,qt 120,qt 121],qn 123 116,qf 124 2 123,qs 1 124 118,qn 125 117,qf 126 3 125,qs 8 126 122] []))) (.seq (qr [qf 128 0 7,ql 129 128,qc 130 .eql 129 5,qm 127 130] [127])
 (.cond (qt 127) (.seq (.seq (.reg (.run (qm 131 1) (.run (qf 133 2 7) (.run (ql 134 133) (.eff (qa 132 47 [qt 131]) [ql 134 133] (.eff (qa 135 158 [qt 132,qt 134]) [] (.run (qp 136 .not [qt 135]) .done)))))) [136])
 (.cond (qt 136) (.seq (qr [qm 137 1,qa 138 146 [qt 137,qi 5,qi 3]] [])
 .ret) .skip))
 (qr [qm 139 4,qm 140 5,qn 141 139,qf 142 2 141,qs 1 142 140] [])) (.seq (.seq (qr [qf 144 0 7,ql 145 144,qc 146 .eql 145 0,qm 143 146] [143])
 (.cond (qt 143) .skip (qr [qf 147 0 7,ql 148 147,qc 149 .eql 148 7,qm 143 149] [143])))
 (.cond (qt 143) (.reg (.run (qm 150 4) (.run (qm 151 4) (.run (qm 152 5) (.run (qL 153 8 6) (.run (qn 154 150) (.run (qf 155 2 154) (.eff (qs 1 155 152) [qL 153 8 6] (.run (qn 156 151) (.run (qf 157 3 156) (.eff (qs 8 157 153) [] .done)))))))))) []) (qr [qm 66 0,qm 67 1,qm 68 4,qm 69 5,qL 70 5 7,qa 71 159 [qt 66,qt 67,qt 68,qt 69,qt 70]] []))))))))))))))⟩
theorem X59:(compF Tryz.prog 96).map Fun.slim=some Zm:=by kernel_rfl
def Xw:SCode:=
 .seq (qr [qb 28 .lss 27 26] [28])
 (.seq (.cond (qt 28) .skip (.exit 0))
 (.seq (.block 1 (.seq (qr [qm 29 27,qm 11 29] [11])
 (.reg (.run (qm 30 10) (.run (qm 31 10) (.run (qn 32 31) (.run (qf 33 1 32) (.run (ql 34 33) (.run (qm 35 11) (.eff (qa 36 15 [qt 35]) [ql 34 33] (.eff (qe 37 (.bsl 23 1) [qt 36]) [ql 34 33] (.eff (qe 38 (.app 23 1 8 [.pointer none]) [qt 34,qt 37]) [] (.run (qn 39 30) (.run (qf 40 1 39) (.eff (qs 1 40 38) [] .done)))))))))))) [])))
 (qr [qc 41 .add 27 1,qm 27 41] [27])))
def Xa:Fun:=⟨50,[6,7,0,2,3,1,5,9,20,8,27,26,28,10,11],[.tmp 6,.tmp 7],
 .seq (qr [qe 3 (.box 33) [qt 0],qe 5 (.box 36) [qt 2],qp 6 .mov [.const (.pointer none)],qp 7 .mov [qi 0]] [3,5,6,7])
 (.seq (qr [qL 13 2 3,qm 14 1,qL 15 7 5,qa 16 44 [qt 13,qt 14,qt 15],qm 12 16,qx 17 0 12,qx 18 1 12,qm 8 17,qm 9 18] [8,9])
 (.seq (.seq (qr [qm 19 9,qc 20 .neq 19 0] [20])
 (.cond (qt 20) (.seq (qr [qm 21 9,qp 6 .mov [.const (.pointer none)],qm 7 21] [6,7])
 .ret) .skip))
 (.seq (qr [qm 22 8,qp 23 (.bld [.pointer none,.slice none 0 0] [(0,1)]) [qt 22],qe 24 (.box 105) [qt 23],qm 10 24] [10])
 (.seq (.seq (qr [qf 25 0 5,ql 26 25,qp 27 .mov [qi 0]] [26,27])
 (.block 0 (.loop Xw)))
 (.seq (qr [qm 42 10,qn 43 42,qf 44 1 43,ql 45 44,qp 46 (.ixa 1) [qt 45,qi 0],ql 47 46,qa 48 13 [qt 47,qi 1]] [])
 (.seq (qr [qm 49 10,qm 6 49,qp 7 .mov [qi 0]] [6,7])
 .ret))))))⟩
theorem Y04:compF Tryz.prog 19=some Xa:=by kernel_rfl
def Q57:Fun:=⟨31,[4,1,0,6,3],[.tmp 4],
 .seq (qr [qe 3 (.box 46) [qt 1],qp 4 .mov [.const (.bool false)]] [3,4])
 (.seq (.seq (qr [qm 5 0,qa 6 27 [qt 5]] [6])
 (.cond (qt 6) (.seq (qr [qp 4 .mov [.const (.bool true)]] [4])
 .ret) .skip))
 (.seq (.reg (.run (qm 7 0) (.run (qn 8 7) (.run (qf 9 1 8) (.run (ql 10 9) (.run (qf 11 0 3) (.run (ql 12 11) (.run (qp 13 (.minmax true) [qt 12,qi 0]) (.run (qm 14 0) (.run (qn 15 14) (.run (qf 16 1 15) (.run (ql 17 16) (.run (qp 18 (.len false) [qt 17]) (.run (qb 19 .rem 13 18) (.run (qp 20 (.ixa 1) [qt 10,qt 19]) (.run (ql 21 20) (.run (qm 22 0) (.run (qn 23 22) (.run (qf 24 0 23) (.run (ql 25 24) (.run (qf 26 1 3) (.run (ql 27 26) (.eff (qa 28 14 [qt 21,qt 25,qt 27]) [] .done)))))))))))))))))))))) [])
 (.seq (qr [qm 29 0,qa 30 27 [qt 29],qm 4 30] [4])
 .ret)))⟩
theorem XI:compF Tryz.prog 21=some Q57:=by kernel_rfl
def Q23:Fun:=⟨11,[2,0,4],[.tmp 2],
 .seq (qr [qp 2 .mov [qi 0]] [2])
 (.seq (.seq (qr [qm 3 0,qp 4 (.eqn false 0) [qt 3]] [4])
 (.cond (qt 4) (.seq (qr [qp 2 .mov [qi 0]] [2])
 .ret) .skip))
 (.seq (qr [qm 5 0,qn 6 5,qf 7 0 6,ql 8 7,qa 9 56 [qt 8],qa 10 57 [qt 9],qm 2 10] [2])
 .ret))⟩
theorem Z79:compF Tryz.prog 22=some Q23:=by kernel_rfl
def Q24:Fun:=⟨11,[2,0,4],[.tmp 2],
 .seq (qr [qp 2 .mov [.const (.slice none 0 0)]] [2])
 (.seq (.seq (qr [qm 3 0,qp 4 (.eqn false 0) [qt 3]] [4])
 (.cond (qt 4) (.seq (qr [qp 2 .mov [.const (.slice none 0 0)]] [2])
 .ret) .skip))
 (.seq (qr [qm 5 0,qn 6 5,qf 7 0 6,ql 8 7,qa 9 58 [qt 8],qa 10 59 [qt 9],qm 2 10] [2])
 .ret))⟩
theorem Z80:compF Tryz.prog 23=some Q24:=by kernel_rfl
def Z81:SCode:=
 .seq (qr [qb 11 .lss 10 9] [11])
 (.seq (.cond (qt 11) .skip (.exit 0))
 (.seq (.block 1 (.seq (qr [qp 12 (.ixa 4) [qt 8,qt 10],qL 13 4 12,qe 6 (.new 113 [qv 0,qv 0,qv 0,qv 0]) [],qs 4 6 13] [6])
 (.seq (.reg (.run (qm 14 4) (.run (qf 15 1 6) (.run (ql 16 15) (.run (qL 18 4 6) (.both (.eff (qe 17 (.mlk (.int .i64) (qv 0)) [qt 14,qt 16]) [qL 18 4 6] (.eff (qa 19 60 [qt 18]) [] (.run (qb 20 .add 17 19) (.eff (qE (.mup (.int .i64)) [qt 14,qt 16,qt 20]) [] .done)))) (.eff (qa 19 60 [qt 18]) [ql 16 15] (.eff (qe 17 (.mlk (.int .i64) (qv 0)) [qt 14,qt 16]) [] (.run (qb 20 .add 17 19) (.eff (qE (.mup (.int .i64)) [qt 14,qt 16,qt 20]) [] .done))))))))) [])
 (qr [qm 21 3,qm 22 4,qf 23 1 6,ql 24 23,qe 25 (.mlk (.int .i64) (qv 0)) [qt 22,qt 24],qp 26 (.minmax true) [qt 21,qt 25],qm 3 26] [3]))))
 (qr [qc 27 .add 10 1,qm 10 27] [10])))
def X79:Fun:=⟨29,[2,0,10,9,11,8,4,6,3],[.tmp 2],
 .seq (qr [qp 2 .mov [qi 0]] [2])
 (.seq (qr [qe 7 .mkm [],qp 3 .mov [qi 0],qm 4 7] [3,4])
 (.seq (.seq (qr [qm 8 0,qp 9 (.len false) [qt 8],qp 10 .mov [qi 0]] [8,9,10])
 (.block 0 (.loop Z81)))
 (.seq (qr [qm 28 3,qm 2 28] [2])
 .ret)))⟩
theorem J31:compF Tryz.prog 24=some X79:=by kernel_rfl
def Q25:Fun:=⟨54,[2,0,7,3,22,4,5],[.cell 2 (some 11)],
 .seq (qr [qe 2 (.new 54 [qv 0,qv 0,.slice none 0 0,.slice none 0 0,qv 0,qv 0,qv 0,qv 0,qv 0,qv 0,qv 0]) []] [2])
 (.seq (.seq (qr [qm 6 0,qp 7 (.eqn false 0) [qt 6]] [7])
 (.cond (qt 7) (.seq (qr [qp 8 (.bld [qv 0,qv 0,.slice none 0 0,.slice none 0 0,qv 0,qv 0,qv 0,qv 0,qv 0,qv 0,qv 0] []) [],qs 11 2 8] [])
 .ret) .skip))
 (.seq (qr [qm 10 0,qn 11 10,qf 12 0 11,ql 13 12,qa 14 46 [qt 13],qm 9 14,qx 15 0 9,qx 16 1 9,qm 3 15,qm 4 16] [3,4])
 (.seq (.seq (qr [qm 17 3,qc 18 .eql 17 0,qm 19 18,qg 20 19 true (.pur .mov [qt 0]),qg 21 19 true (.eff (.call 27) [qt 20]),qp 22 .pick [qt 19,qt 21,.const (.bool false)]] [22])
 (.cond (qt 22) (qr [qp 3 .mov [qi 6]] [3]) .skip))
 (.seq (.reg (.run (qm 23 3) (.run (qm 24 4) (.run (qm 25 0) (.run (qn 26 25) (.run (qf 27 0 26) (.run (ql 28 27) (.run (qm 31 0) (.run (qn 32 31) (.run (qf 33 0 32) (.run (ql 34 33) (.run (qm 37 0) (.run (qn 38 37) (.run (qf 39 0 38) (.run (ql 40 39) (.both (.eff (qa 29 47 [qt 28]) [ql 40 39,ql 34 33] (.both (.eff (qa 30 48 [qt 29]) [ql 40 39,ql 34 33] (.both (.eff (qa 35 61 [qt 34]) [ql 40 39] (.both (.eff (qa 36 62 [qt 35]) [ql 40 39] (.both (.eff (qa 41 50 [qt 40]) [] (.run (qn 42 41) (.run (qL 43 7 42) (.run (qp 44 (.bld [qv 0,qv 0,.slice none 0 0,.slice none 0 0,qv 0,qv 0,qv 0,qv 0,qv 0,qv 0,qv 0] [(0,1),(1,1),(2,1),(3,1),(4,7)]) [qt 23,qt 24,qt 30,qt 36,qt 43]) (.eff (qe 5 (.new 54 [qv 0,qv 0,.slice none 0 0,.slice none 0 0,qv 0,qv 0,qv 0,qv 0,qv 0,qv 0,qv 0]) []) [qL 43 7 42] (.eff (qs 11 5 44) [] .done)))))) (.eff (qe 5 (.new 54 [qv 0,qv 0,.slice none 0 0,.slice none 0 0,qv 0,qv 0,qv 0,qv 0,qv 0,qv 0,qv 0]) []) [ql 40 39] (.eff (qa 41 50 [qt 40]) [] (.run (qn 42 41) (.run (qL 43 7 42) (.run (qp 44 (.bld [qv 0,qv 0,.slice none 0 0,.slice none 0 0,qv 0,qv 0,qv 0,qv 0,qv 0,qv 0,qv 0] [(0,1),(1,1),(2,1),(3,1),(4,7)]) [qt 23,qt 24,qt 30,qt 36,qt 43]) (.eff (qs 11 5 44) [] .done)))))))) (.eff (qe 5 (.new 54 [qv 0,qv 0,.slice none 0 0,.slice none 0 0,qv 0,qv 0,qv 0,qv 0,qv 0,qv 0,qv 0]) []) [ql 40 39] (.eff (qa 36 62 [qt 35]) [ql 40 39] (.eff (qa 41 50 [qt 40]) [] (.run (qn 42 41) (.run (qL 43 7 42) (.run (qp 44 (.bld [qv 0,qv 0,.slice none 0 0,.slice none 0 0,qv 0,qv 0,qv 0,qv 0,qv 0,qv 0,qv 0] [(0,1),(1,1),(2,1),(3,1),(4,7)]) [qt 23,qt 24,qt 30,qt 36,qt 43]) (.eff (qs 11 5 44) [] .done))))))))) (.eff (qe 5 (.new 54 [qv 0,qv 0,.slice none 0 0,.slice none 0 0,qv 0,qv 0,qv 0,qv 0,qv 0,qv 0,qv 0]) []) [ql 40 39,ql 34 33] (.eff (qa 35 61 [qt 34]) [ql 40 39] (.eff (qa 36 62 [qt 35]) [ql 40 39] (.eff (qa 41 50 [qt 40]) [] (.run (qn 42 41) (.run (qL 43 7 42) (.run (qp 44 (.bld [qv 0,qv 0,.slice none 0 0,.slice none 0 0,qv 0,qv 0,qv 0,qv 0,qv 0,qv 0,qv 0] [(0,1),(1,1),(2,1),(3,1),(4,7)]) [qt 23,qt 24,qt 30,qt 36,qt 43]) (.eff (qs 11 5 44) [] .done)))))))))) (.eff (qe 5 (.new 54 [qv 0,qv 0,.slice none 0 0,.slice none 0 0,qv 0,qv 0,qv 0,qv 0,qv 0,qv 0,qv 0]) []) [ql 40 39,ql 34 33] (.eff (qa 30 48 [qt 29]) [ql 40 39,ql 34 33] (.eff (qa 35 61 [qt 34]) [ql 40 39] (.eff (qa 36 62 [qt 35]) [ql 40 39] (.eff (qa 41 50 [qt 40]) [] (.run (qn 42 41) (.run (qL 43 7 42) (.run (qp 44 (.bld [qv 0,qv 0,.slice none 0 0,.slice none 0 0,qv 0,qv 0,qv 0,qv 0,qv 0,qv 0,qv 0] [(0,1),(1,1),(2,1),(3,1),(4,7)]) [qt 23,qt 24,qt 30,qt 36,qt 43]) (.eff (qs 11 5 44) [] .done))))))))))) (.eff (qe 5 (.new 54 [qv 0,qv 0,.slice none 0 0,.slice none 0 0,qv 0,qv 0,qv 0,qv 0,qv 0,qv 0,qv 0]) []) [ql 40 39,ql 34 33,ql 28 27] (.eff (qa 29 47 [qt 28]) [ql 40 39,ql 34 33] (.eff (qa 30 48 [qt 29]) [ql 40 39,ql 34 33] (.eff (qa 35 61 [qt 34]) [ql 40 39] (.eff (qa 36 62 [qt 35]) [ql 40 39] (.eff (qa 41 50 [qt 40]) [] (.run (qn 42 41) (.run (qL 43 7 42) (.run (qp 44 (.bld [qv 0,qv 0,.slice none 0 0,.slice none 0 0,qv 0,qv 0,qv 0,qv 0,qv 0,qv 0,qv 0] [(0,1),(1,1),(2,1),(3,1),(4,7)]) [qt 23,qt 24,qt 30,qt 36,qt 43]) (.eff (qs 11 5 44) [] .done))))))))))))))))))))))))) [5])
 (.seq (qr [qm 45 0,qn 46 45,qf 47 0 46,ql 48 47,qa 49 56 [qt 48],qa 50 63 [qt 49],qf 51 4 5,qf 52 6 51,qs 1 52 50] [])
 (.seq (qr [qL 53 11 5,qs 11 2 53] [])
 .ret))))))⟩
theorem Z82:compF Tryz.prog 25=some Q25:=by kernel_rfl
def Q36:Fun:=⟨28,[2,0,6,3],[.tmp 2],
 .seq (qr [qp 2 .mov [.const (.bool false)]] [2])
 (.seq (.seq (qr [qm 5 0,qp 6 (.eqn false 0) [qt 5]] [6])
 (.cond (qt 6) (.seq (qr [qp 2 .mov [.const (.bool true)]] [2])
 .ret) .skip))
 (.seq (qr [qm 8 0,qn 9 8,qf 10 0 9,ql 11 10,qa 12 46 [qt 11],qm 7 12,qx 13 0 7,qx 14 1 7,qm 3 13,qm 4 14] [3])
 (.seq (qr [qm 15 3,qc 16 .neq 15 0,qm 17 16,qg 18 17 false (.pur .mov [qt 0]),qg 19 17 false (.pur .nilc [qt 18]),qg 20 17 false (.pur (.fla 0) [qt 19]),qg 21 17 false (.ld none (qt 20)),qg 22 17 false (.eff (.call 50) [qt 21]),qg 23 17 false (.pur .nilc [qt 22]),qg 24 17 false (.pur (.fla 0) [qt 23]),qg 25 17 false (.ld none (qt 24)),qg 26 17 false (.pur (.bin .geq) [qt 25,qi 8388608]),qp 27 .pick [qt 17,.const (.bool true),qt 26],qm 2 27] [2])
 .ret)))⟩
theorem Xb:compF Tryz.prog 27=some Q36:=by kernel_rfl
def QZ:SCode:=
 .seq (qr [qb 14 .lss 13 12] [14])
 (.seq (.cond (qt 14) .skip (.exit 0))
 (.seq (.block 1 (.seq (qr [qp 15 (.ixa 1) [qt 11,qt 13],ql 16 15,qm 5 16] [5])
 (qr [qm 17 3,qm 18 5,qa 19 16 [qt 18],qe 20 (.bsl 28 4) [qt 19],qe 21 (.app 28 4 32 [qv 0,qv 0,qv 0,qv 0]) [qt 17,qt 20],qm 3 21] [3])))
 (qr [qc 22 .add 13 1,qm 13 22] [13])))
def Q11:Fun:=⟨24,[2,0,7,13,12,14,11,3,5],[.tmp 2],
 .seq (qr [qp 2 .mov [.const (.slice none 0 0)]] [2])
 (.seq (.seq (qr [qm 6 0,qp 7 (.eqn false 0) [qt 6]] [7])
 (.cond (qt 7) (.seq (qr [qp 2 .mov [.const (.slice none 0 0)]] [2])
 .ret) .skip))
 (.seq (qr [qp 3 .mov [.const (.slice none 0 0)]] [3])
 (.seq (.seq (qr [qm 8 0,qn 9 8,qf 10 1 9,ql 11 10,qp 12 (.len false) [qt 11],qp 13 .mov [qi 0]] [11,12,13])
 (.block 0 (.loop QZ)))
 (.seq (qr [qm 23 3,qm 2 23] [2])
 .ret))))⟩
theorem Z51:compF Tryz.prog 28=some Q11:=by kernel_rfl
def X80:Fun:=⟨9,[2,0,1,4,5,7],[.tmp 2],
 .seq (qr [qe 1 (.box 113) [qt 0],qp 2 .mov [qi 0]] [1,2])
 (.seq (.seq (qr [qf 3 0 1,ql 4 3] [4])
 (.block 0 (.seq (qr [qc 6 .eql 4 1,qm 5 6] [5])
 (.cond (qt 5) (.seq (qr [qp 2 .mov [qi 1]] [2])
 .ret) (.seq (qr [qc 8 .eql 4 4,qm 7 8] [7])
 (.cond (qt 7) (.seq (qr [qp 2 .mov [qi (-1)]] [2])
 .ret) .skip))))))
 (.seq (qr [qp 2 .mov [qi 0]] [2])
 .ret))⟩
theorem J32:compF Tryz.prog 60=some X80:=by kernel_rfl
def Zn:Fun:=⟨36,[8,0,2,4,1,3,6],[.tmp 8],
 .seq (qr [qe 4 (.box 33) [qt 0],qe 6 (.box 36) [qt 2],qp 8 .mov [.const (.bool false)]] [4,6,8])
 (.seq (qr [qL 9 2 4,qa 10 54 [qt 9],qm 11 10,qg 12 11 false (.pur .mov [qt 1]),qg 13 11 false (.pur (.len false) [qt 12]),qg 14 11 false (.pur (.bin .gtr) [qt 13,qi 1000]),qp 15 .pick [qt 11,.const (.bool true),qt 14],qm 16 15,qg 17 16 false (.pur .mov [qt 3]),qg 18 16 false (.pur (.len false) [qt 17]),qg 19 16 false (.pur (.bin .gtr) [qt 18,qi 20000]),qp 20 .pick [qt 16,.const (.bool true),qt 19],qm 21 20,qg 22 21 false (.ld (some 2) (qt 4)),qg 23 21 false (.pur .mov [qt 1]),qg 24 21 false (.ld (some 7) (qt 6)),qg 25 21 false (.eff (.call 55) [qt 22,qt 23,qt 24]),qg 26 21 false (.pur (.bin .eql) [qt 25,qi 0]),qg 27 21 false (.pur .mov [qt 26]),qg 28 27 true (.pur (.fla 2) [qt 6]),qg 29 27 true (.ld none (qt 28)),qg 30 27 true (.pur (.fla 1) [qt 6]),qg 31 27 true (.ld none (qt 30)),qg 32 27 true (.pur (.bin .mul) [qt 29,qt 31]),qg 33 27 true (.pur (.bin .gtr) [qt 32,qi 6000]),qg 34 21 false (.pur .pick [qt 27,qt 33,.const (.bool false)]),qp 35 .pick [qt 21,.const (.bool true),qt 34],qm 8 35] [8])
 .ret)⟩
theorem X60:compF Tryz.prog 18=some Zn:=by kernel_rfl
def Q12:Fun:=⟨38,[4,0,1,2,3],[.tmp 4],
 .seq (qr [qe 2 (.box 54) [qt 0],qe 3 (.box 54) [qt 1],qp 4 .mov [.const (.bool false)]] [2,3,4])
 (.seq (qr [qf 5 0 2,ql 6 5,qf 7 0 3,ql 8 7,qb 9 .eql 6 8,qm 10 9,qg 11 10 true (.pur (.fla 1) [qt 2]),qg 12 10 true (.ld none (qt 11)),qg 13 10 true (.pur (.fla 1) [qt 3]),qg 14 10 true (.ld none (qt 13)),qg 15 10 true (.pur (.bin .eql) [qt 12,qt 14]),qp 16 .pick [qt 10,qt 15,.const (.bool false)],qm 17 16,qg 18 17 true (.pur (.fla 2) [qt 2]),qg 19 17 true (.ld none (qt 18)),qg 20 17 true (.pur (.fla 2) [qt 3]),qg 21 17 true (.ld none (qt 20)),qg 22 17 true (.eff (.call 41) [qt 19,qt 21]),qp 23 .pick [qt 17,qt 22,.const (.bool false)],qm 24 23,qg 25 24 true (.pur (.fla 3) [qt 2]),qg 26 24 true (.ld none (qt 25)),qg 27 24 true (.pur (.fla 3) [qt 3]),qg 28 24 true (.ld none (qt 27)),qg 29 24 true (.eff (.call 41) [qt 26,qt 28]),qp 30 .pick [qt 24,qt 29,.const (.bool false)],qm 31 30,qg 32 31 true (.pur (.fla 4) [qt 2]),qg 33 31 true (.ld (some 7) (qt 32)),qg 34 31 true (.pur (.fla 4) [qt 3]),qg 35 31 true (.ld (some 7) (qt 34)),qg 36 31 true (.pur (.eqs false [.int .i64,.int .i64,.int .i64,.int .i64,.int .i64,.int .i64,.int .i64]) [qt 33,qt 35]),qp 37 .pick [qt 31,qt 36,.const (.bool false)],qm 4 37] [4])
 .ret)⟩
theorem Z52:compF Tryz.prog 29=some Q12:=by kernel_rfl
def Zo:Fun:=⟨39,[6,0,2,3,7,11,5,33,1,38],[.tmp 6],
 .seq (qr [qe 3 (.box 33) [qt 0],qe 5 (.box 36) [qt 2],qp 6 .mov [qi 0]] [3,5,6])
 (.seq (qr [qL 8 2 3,qa 9 107 [qt 8],qm 7 9] [7])
 (.seq (.seq (qr [qm 10 7,qc 11 .neq 10 0] [11])
 (.cond (qt 11) (.seq (qr [qm 12 7,qm 6 12] [6])
 .ret) .skip))
 (.seq (.seq (qr [qf 13 0 5,ql 14 13,qf 15 2 5,ql 16 15,qf 17 1 5,ql 18 17,qf 19 3 5,ql 20 19,qp 21 (.bld [qv 0,qv 0,qv 0,qv 0] [(0,1),(1,1),(2,1),(3,1)]) [qt 14,qt 16,qt 18,qt 20],qa 22 108 [qt 21],qp 23 .not [qt 22],qm 24 23,qg 25 24 false (.pur (.fla 4) [qt 5]),qg 26 24 false (.ld none (qt 25)),qg 27 24 false (.pur (.bin .lss) [qt 26,qi 0]),qp 28 .pick [qt 24,.const (.bool true),qt 27],qm 29 28,qg 30 29 false (.pur (.fla 4) [qt 5]),qg 31 29 false (.ld none (qt 30)),qg 32 29 false (.pur (.bin .gtr) [qt 31,qi 1000]),qp 33 .pick [qt 29,.const (.bool true),qt 32]] [33])
 (.cond (qt 33) (.seq (qr [qp 6 .mov [qi 3]] [6])
 .ret) .skip))
 (.seq (.seq (qr [qm 34 1,qp 35 (.len false) [qt 34],qf 36 0 3,ql 37 36,qb 38 .gtr 35 37] [38])
 (.cond (qt 38) (.seq (qr [qp 6 .mov [qi 9]] [6])
 .ret) .skip))
 (.seq (qr [qp 6 .mov [qi 0]] [6])
 .ret)))))⟩
theorem X61:compF Tryz.prog 55=some Zo:=by kernel_rfl
def Zp:Fun:=⟨41,[2,0,1],[.tmp 2],
 .seq (qr [qe 1 (.box 168) [qt 0],qp 2 .mov [.const (.bool false)]] [1,2])
 (.seq (qr [qf 3 0 1,ql 4 3,qc 5 .geq 4 1,qm 6 5,qg 7 6 true (.pur (.fla 0) [qt 1]),qg 8 6 true (.ld none (qt 7)),qg 9 6 true (.pur (.bin .leq) [qt 8,qi 64]),qp 10 .pick [qt 6,qt 9,.const (.bool false)],qm 11 10,qg 12 11 true (.pur (.fla 1) [qt 1]),qg 13 11 true (.ld none (qt 12)),qg 14 11 true (.pur (.bin .geq) [qt 13,qi 1]),qp 15 .pick [qt 11,qt 14,.const (.bool false)],qm 16 15,qg 17 16 true (.pur (.fla 1) [qt 1]),qg 18 16 true (.ld none (qt 17)),qg 19 16 true (.pur (.bin .leq) [qt 18,qi 256]),qp 20 .pick [qt 16,qt 19,.const (.bool false)],qm 21 20,qg 22 21 true (.pur (.fla 2) [qt 1]),qg 23 21 true (.ld none (qt 22)),qg 24 21 true (.pur (.bin .geq) [qt 23,qi 1]),qp 25 .pick [qt 21,qt 24,.const (.bool false)],qm 26 25,qg 27 26 true (.pur (.fla 2) [qt 1]),qg 28 26 true (.ld none (qt 27)),qg 29 26 true (.pur (.bin .leq) [qt 28,qi 64]),qp 30 .pick [qt 26,qt 29,.const (.bool false)],qm 31 30,qg 32 31 true (.pur (.fla 3) [qt 1]),qg 33 31 true (.ld none (qt 32)),qg 34 31 true (.pur (.bin .geq) [qt 33,qi 2]),qp 35 .pick [qt 31,qt 34,.const (.bool false)],qm 36 35,qg 37 36 true (.pur (.fla 3) [qt 1]),qg 38 36 true (.ld none (qt 37)),qg 39 36 true (.pur (.bin .leq) [qt 38,qi 256]),qp 40 .pick [qt 36,qt 39,.const (.bool false)],qm 2 40] [2])
 .ret)⟩
theorem X62:compF Tryz.prog 108=some Zp:=by kernel_rfl
def Q37:SCode:=
 .seq (.seq (qr [qm 8 3,qf 9 1 1,ql 10 9,qp 11 (.len false) [qt 10],qb 12 .lss 8 11] [12])
 (.cond (qt 12) .skip (.exit 0)))
 (.seq (.block 1 (.seq (qr [qf 15 1 1,ql 16 15,qm 17 3,qp 18 (.ixa 1) [qt 16,qt 17],ql 19 18,qp 20 (.len false) [qt 19],qc 21 .gtr 20 300] [21])
 (.cond (qt 21) (.seq (qr [qp 2 .mov [.const (.bool true)]] [2])
 .ret) .skip)))
 (qr [qm 13 3,qc 14 .add 13 1,qm 3 14] [3]))
def Zq:Fun:=⟨22,[2,0,1,7,3,12,21],[.tmp 2],
 .seq (qr [qe 1 (.box 33) [qt 0],qp 2 .mov [.const (.bool false)]] [1,2])
 (.seq (.seq (qr [qf 4 1 1,ql 5 4,qp 6 (.len false) [qt 5],qc 7 .gtr 6 40] [7])
 (.cond (qt 7) (.seq (qr [qp 2 .mov [.const (.bool true)]] [2])
 .ret) .skip))
 (.seq (.seq (qr [qp 3 .mov [qi 0]] [3])
 (.block 0 (.loop Q37)))
 (.seq (qr [qp 2 .mov [.const (.bool false)]] [2])
 .ret)))⟩
theorem X63:compF Tryz.prog 54=some Zq:=by kernel_rfl
def Zr:Fun:=⟨46,[0,1,7,2],[.tmp 0],
 .seq (qr [qp 0 .mov [.const (.bool false)]] [0])
 (.seq (qr [qa 3 53 [],qp 4 (.bld [qv 0,qv 0,qv 0,qv 0,qv 0,.bool false,.bool false] [(1,1),(2,1),(3,1),(4,1)]) [qi 2,qi 8,qi 8,qi 9],qa 5 40 [qt 3,.const (.slice none 0 0),qt 4,qi 400],qm 1 5] [1])
 (.seq (.seq (qr [qm 6 1,qp 7 (.eqn false 0) [qt 6]] [7])
 (.cond (qt 7) (.seq (qr [qp 0 .mov [.const (.bool false)]] [0])
 .ret) .skip))
 (.seq (qr [qm 8 1,qa 9 25 [qt 8],qe 2 (.new 54 [qv 0,qv 0,.slice none 0 0,.slice none 0 0,qv 0,qv 0,qv 0,qv 0,qv 0,qv 0,qv 0]) [],qs 11 2 9] [2])
 (.seq (qr [qm 10 1,qa 11 27 [qt 10],qm 12 11,qg 13 12 true (.pur (.fla 0) [qt 2]),qg 14 12 true (.ld none (qt 13)),qg 15 12 true (.pur (.bin .eql) [qt 14,qi 1]),qp 16 .pick [qt 12,qt 15,.const (.bool false)],qm 17 16,qg 18 17 true (.pur (.fla 2) [qt 2]),qg 19 17 true (.ld none (qt 18)),qg 20 17 true (.eff (.bsl 3 1) [qi 1,qi 2,qi 3]),qg 21 17 true (.eff (.call 41) [qt 19,qt 20]),qp 22 .pick [qt 17,qt 21,.const (.bool false)],qm 23 22,qg 24 23 true (.pur .mov [qt 1]),qg 25 23 true (.eff (.call 22) [qt 24]),qg 26 23 true (.pur (.bin .eql) [qt 25,qi 1]),qp 27 .pick [qt 23,qt 26,.const (.bool false)],qm 28 27,qg 29 28 true (.pur .mov [qt 1]),qg 30 28 true (.eff (.call 28) [qt 29]),qg 31 28 true (.pur (.len false) [qt 30]),qg 32 28 true (.pur (.bin .eql) [qt 31,qi 1]),qp 33 .pick [qt 28,qt 32,.const (.bool false)],qm 34 33,qg 35 34 true (.pur .mov [qt 1]),qg 36 34 true (.eff (.call 23) [qt 35]),qg 37 34 true (.eff (.call 24) [qt 36]),qg 38 34 true (.pur (.bin .geq) [qt 37,qi 1]),qp 39 .pick [qt 34,qt 38,.const (.bool false)],qm 40 39,qg 41 40 true (.pur (.fla 4) [qt 2]),qg 42 40 true (.pur (.fla 6) [qt 41]),qg 43 40 true (.ld none (qt 42)),qg 44 40 true (.pur (.bin .geq) [qt 43,qi 3]),qp 45 .pick [qt 40,qt 44,.const (.bool false)],qm 0 45] [0])
 .ret))))⟩
theorem X64:compF Tryz.prog 17=some Zr:=by kernel_rfl
def Q59:SCode:=
 .seq (.seq (qr [qm 11 5,qm 12 0,qp 13 (.len false) [qt 12],qb 14 .lss 11 13,qm 15 14,qg 16 15 true (.pur .mov [qt 5]),qg 17 15 true (.pur .mov [qt 1]),qg 18 15 true (.pur (.len false) [qt 17]),qg 19 15 true (.pur (.bin .lss) [qt 16,qt 18]),qp 20 .pick [qt 15,qt 19,.const (.bool false)]] [20])
 (.cond (qt 20) .skip (.exit 0)))
 (.seq (.block 1 (.seq (qr [qm 23 0,qm 24 5,qp 25 (.ixa 1) [qt 23,qt 24],ql 26 25,qm 27 1,qm 28 5,qp 29 (.ixa 1) [qt 27,qt 28],ql 30 29,qb 31 .neq 26 30] [31])
 (.cond (qt 31) (.seq (qr [qp 4 .mov [.const (.bool false)]] [4])
 .ret) .skip)))
 (qr [qm 21 5,qc 22 .add 21 1,qm 5 22] [5]))
def Z01:Fun:=⟨32,[4,0,1,10,5,20,31],[.tmp 4],
 .seq (qr [qp 4 .mov [.const (.bool false)]] [4])
 (.seq (.seq (qr [qm 6 0,qp 7 (.len false) [qt 6],qm 8 1,qp 9 (.len false) [qt 8],qb 10 .neq 7 9] [10])
 (.cond (qt 10) (.seq (qr [qp 4 .mov [.const (.bool false)]] [4])
 .ret) .skip))
 (.seq (.seq (qr [qp 5 .mov [qi 0]] [5])
 (.block 0 (.loop Q59)))
 (.seq (qr [qp 4 .mov [.const (.bool true)]] [4])
 .ret)))⟩
theorem X99:compF Tryz.prog 41=some Z01:=by kernel_rfl
def Zs:Fun:=⟨16,[0],[.cell 0 (some 2)],
 .seq (qr [qe 0 (.new 33 [qv 0,.slice none 0 0]) []] [0])
 (.seq (qr [qp 1 (.bld [qv 0,qv 0,qv 0,qv 0] [(0,1),(1,1),(2,1)]) [qi 1,qi 7,qi 3],qp 2 (.bld [qv 0,qv 0,qv 0,qv 0] [(0,1),(1,1),(2,1)]) [qi 1,qi 6,qi 1],qp 3 (.bld [qv 0,qv 0,qv 0,qv 0] [(0,1),(1,1)]) [qi 22,qi 1],qp 4 (.bld [qv 0,qv 0,qv 0,qv 0] [(0,1)]) [qi 0],qe 5 (.bsl 126 4) [qt 1,qt 2,qt 3,qt 4],qp 6 (.bld [qv 0,qv 0,qv 0,qv 0] [(0,1),(1,1),(2,1)]) [qi 19,qi 7,qi 6],qp 7 (.bld [qv 0,qv 0,qv 0,qv 0] [(0,1),(1,1),(2,1),(3,1)]) [qi 4,qi 7,qi 7,qi 6],qp 8 (.bld [qv 0,qv 0,qv 0,qv 0] [(0,1),(1,1),(2,1),(3,1)]) [qi 3,qi 5,qi 5,qi 6],qp 9 (.bld [qv 0,qv 0,qv 0,qv 0] [(0,1),(1,1)]) [qi 23,qi 6],qp 10 (.bld [qv 0,qv 0,qv 0,qv 0] [(0,1),(1,1)]) [qi 17,qi 5],qp 11 (.bld [qv 0,qv 0,qv 0,qv 0] [(0,1)]) [qi 0],qp 12 (.bld [qv 0,qv 0,qv 0,qv 0] [(0,1)]) [qi 25],qe 13 (.bsl 126 4) [qt 6,qt 7,qt 8,qt 9,qt 10,qt 11,qt 12],qe 14 (.bsl 106 1) [qt 5,qt 13],qp 15 (.bld [qv 0,.slice none 0 0] [(1,1)]) [qt 14],qs 2 0 15] [])
 .ret)⟩
theorem X65:compF Tryz.prog 53=some Zs:=by kernel_rfl
def Q26:SCode:=
 .seq (.seq (qr [qm 25 11,qm 26 3,qb 27 .lss 25 26] [27])
 (.cond (qt 27) .skip (.exit 0)))
 (.seq (.block 1 (.seq (qr [qm 30 9,qp 31 (.bld [qv 0,qv 0] []) [],qa 32 21 [qt 30,qt 31]] [32])
 (.cond (qt 32) (.seq (qr [qm 33 9,qm 8 33] [8])
 .ret) .skip)))
 (qr [qm 28 11,qc 29 .add 28 1,qm 11 29] [11]))
def Q88:Fun:=⟨35,[8,0,2,6,4,1,10,24,11,3,27,9,32],[.tmp 8],
 .seq (qr [qe 4 (.box 33) [qt 0],qe 6 (.box 36) [qt 2],qp 8 .mov [.const (.pointer none)]] [4,6,8])
 (.seq (qr [qf 12 0 6,qE (.st 1) [qt 12,qi 1]] [])
 (.seq (.reg (.run (qL 14 2 4) (.run (qm 17 1) (.run (qL 19 7 6) (.both (.eff (qa 15 20 [qt 14]) [qL 19 7 6] (.eff (qe 16 (.bsl 3 1) []) [qL 19 7 6] (.eff (qe 18 (.app 3 1 8 [qv 0]) [qt 16,qt 17]) [qL 19 7 6] (.eff (qa 20 19 [qt 15,qt 18,qt 19]) [] (.run (qm 13 20) (.run (qx 21 0 13) (.run (qx 22 1 13) (.run (qm 9 21) (.run (qm 10 22) .done))))))))) (.eff (qe 16 (.bsl 3 1) []) [] (.eff (qa 15 20 [qt 14]) [qL 19 7 6] (.eff (qe 18 (.app 3 1 8 [qv 0]) [qt 16,qt 17]) [qL 19 7 6] (.eff (qa 20 19 [qt 15,qt 18,qt 19]) [] (.run (qm 13 20) (.run (qx 21 0 13) (.run (qx 22 1 13) (.run (qm 9 21) (.run (qm 10 22) .done))))))))))))) [9,10])
 (.seq (.seq (qr [qm 23 10,qc 24 .neq 23 0] [24])
 (.cond (qt 24) (.seq (qr [qp 8 .mov [.const (.pointer none)]] [8])
 .ret) .skip))
 (.seq (.seq (qr [qp 11 .mov [qi 0]] [11])
 (.block 0 (.loop Q26)))
 (.seq (qr [qm 34 9,qm 8 34] [8])
 .ret)))))⟩
theorem X19:(compF Tryz.prog 40).map Fun.slim=some Q88:=by kernel_rfl
def Q39:SCode:=
 .seq (.seq (qr [qm 43 7,qm 44 5,qp 45 (.len false) [qt 44],qb 46 .lss 43 45] [46])
 (.cond (qt 46) .skip (.exit 2)))
 (.seq (.block 3 (.seq (qr [qm 49 5,qm 50 7,qp 51 (.ixa 4) [qt 49,qt 50],qL 52 4 51,qa 53 191 [qt 52],qm 8 53] [8])
 (.seq (.seq (qr [qm 54 8,qc 55 .neq 54 0] [55])
 (.cond (qt 55) (.seq (qr [qm 56 8,qm 2 56] [2])
 .ret) .skip))
 (.seq (qr [qm 57 5,qm 58 7,qp 59 (.ixa 4) [qt 57,qt 58],qf 60 0 59,ql 61 60,qc 62 .eql 61 18,qm 63 62,qg 64 63 true (.pur .mov [qt 5]),qg 65 63 true (.pur .mov [qt 7]),qg 66 63 true (.pur (.ixa 4) [qt 64,qt 65]),qg 67 63 true (.pur (.fla 1) [qt 66]),qg 68 63 true (.ld none (qt 67)),qg 69 63 true (.pur .mov [qt 5]),qg 70 63 true (.pur (.len false) [qt 69]),qg 71 63 true (.pur (.bin .geq) [qt 68,qt 70]),qp 72 .pick [qt 63,qt 71,.const (.bool false)],qm 73 72,qg 74 73 false (.pur .mov [qt 5]),qg 75 73 false (.pur .mov [qt 7]),qg 76 73 false (.pur (.ixa 4) [qt 74,qt 75]),qg 77 73 false (.pur (.fla 0) [qt 76]),qg 78 73 false (.ld none (qt 77)),qg 79 73 false (.pur (.bin .eql) [qt 78,qi 19]),qg 80 73 false (.pur .mov [qt 79]),qg 81 80 true (.pur .mov [qt 5]),qg 82 80 true (.pur .mov [qt 7]),qg 83 80 true (.pur (.ixa 4) [qt 81,qt 82]),qg 84 80 true (.pur (.fla 2) [qt 83]),qg 85 80 true (.ld none (qt 84)),qg 86 80 true (.pur .mov [qt 5]),qg 87 80 true (.pur (.len false) [qt 86]),qg 88 80 true (.pur (.bin .geq) [qt 85,qt 87]),qg 89 73 false (.pur .pick [qt 80,qt 88,.const (.bool false)]),qp 90 .pick [qt 73,.const (.bool true),qt 89],qm 91 90,qg 92 91 false (.pur .mov [qt 5]),qg 93 91 false (.pur .mov [qt 7]),qg 94 91 false (.pur (.ixa 4) [qt 92,qt 93]),qg 95 91 false (.pur (.fla 0) [qt 94]),qg 96 91 false (.ld none (qt 95)),qg 97 91 false (.pur (.bin .eql) [qt 96,qi 20]),qg 98 91 false (.pur .mov [qt 97]),qg 99 98 false (.pur .mov [qt 5]),qg 100 98 false (.pur .mov [qt 7]),qg 101 98 false (.pur (.ixa 4) [qt 99,qt 100]),qg 102 98 false (.pur (.fla 0) [qt 101]),qg 103 98 false (.ld none (qt 102)),qg 104 98 false (.pur (.bin .eql) [qt 103,qi 22]),qg 105 91 false (.pur .pick [qt 98,.const (.bool true),qt 104]),qg 106 91 false (.pur .mov [qt 105]),qg 107 106 true (.pur .mov [qt 5]),qg 108 106 true (.pur .mov [qt 7]),qg 109 106 true (.pur (.ixa 4) [qt 107,qt 108]),qg 110 106 true (.pur (.fla 1) [qt 109]),qg 111 106 true (.ld none (qt 110)),qg 112 106 true (.pur (.fla 1) [qt 1]),qg 113 106 true (.ld none (qt 112)),qg 114 106 true (.pur (.len false) [qt 113]),qg 115 106 true (.pur (.bin .geq) [qt 111,qt 114]),qg 116 91 false (.pur .pick [qt 106,qt 115,.const (.bool false)]),qp 117 .pick [qt 91,.const (.bool true),qt 116]] [117])
 (.cond (qt 117) (.seq (qr [qp 2 .mov [qi 11]] [2])
 .ret) .skip)))))
 (qr [qm 47 7,qc 48 .add 47 1,qm 7 48] [7]))
def Q40:SCode:=
 .seq (.seq (qr [qm 25 4,qf 26 1 1,ql 27 26,qp 28 (.len false) [qt 27],qb 29 .lss 25 28] [29])
 (.cond (qt 29) .skip (.exit 0)))
 (.seq (.block 1 (.seq (qr [qf 32 1 1,ql 33 32,qm 34 4,qp 35 (.ixa 1) [qt 33,qt 34],ql 36 35,qm 5 36] [5])
 (.seq (qr [qm 37 5,qp 38 (.len false) [qt 37],qa 39 190 [qt 38,qi 200],qm 6 39] [6])
 (.seq (.seq (qr [qm 40 6,qc 41 .neq 40 0] [41])
 (.cond (qt 41) (.seq (qr [qm 42 6,qm 2 42] [2])
 .ret) .skip))
 (.seq (.seq (qr [qp 7 .mov [qi 0]] [7])
 (.block 2 (.loop Q39)))
 (.seq (qr [qm 118 5,qm 119 5,qp 120 (.len false) [qt 119],qc 121 .sub 120 1,qp 122 (.ixa 4) [qt 118,qt 121],qf 123 0 122,ql 124 123,qm 9 124] [9])
 (.seq (qr [qm 125 9,qc 126 .neq 125 0,qm 127 126,qg 128 127 true (.pur .mov [qt 9]),qg 129 127 true (.pur (.bin .neq) [qt 128,qi 18]),qp 130 .pick [qt 127,qt 129,.const (.bool false)],qm 131 130,qg 132 131 true (.pur .mov [qt 9]),qg 133 131 true (.pur (.bin .neq) [qt 132,qi 25]),qp 134 .pick [qt 131,qt 133,.const (.bool false)]] [134])
 (.cond (qt 134) (.seq (qr [qp 2 .mov [qi 12]] [2])
 .ret) .skip))))))))
 (qr [qm 30 4,qc 31 .add 30 1,qm 4 31] [4]))
def Zt:Fun:=⟨135,[2,0,1,17,3,23,4,29,5,6,41,7,46,8,55,117,9,134],[.tmp 2],
 .seq (qr [qe 1 (.box 33) [qt 0],qp 2 .mov [qi 0]] [1,2])
 (.seq (.seq (qr [qf 10 0 1,ql 11 10,qc 12 .lss 11 0,qm 13 12,qg 14 13 false (.pur (.fla 0) [qt 1]),qg 15 13 false (.ld none (qt 14)),qg 16 13 false (.pur (.bin .gtr) [qt 15,qi 256]),qp 17 .pick [qt 13,.const (.bool true),qt 16]] [17])
 (.cond (qt 17) (.seq (qr [qp 2 .mov [qi 3]] [2])
 .ret) .skip))
 (.seq (qr [qf 18 1 1,ql 19 18,qp 20 (.len false) [qt 19],qa 21 190 [qt 20,qi 16],qm 3 21] [3])
 (.seq (.seq (qr [qm 22 3,qc 23 .neq 22 0] [23])
 (.cond (qt 23) (.seq (qr [qm 24 3,qm 2 24] [2])
 .ret) .skip))
 (.seq (.seq (qr [qp 4 .mov [qi 0]] [4])
 (.block 0 (.loop Q40)))
 (.seq (qr [qp 2 .mov [qi 0]] [2])
 .ret)))))⟩
theorem X66:compF Tryz.prog 107=some Zt:=by kernel_rfl
def Z02:Fun:=⟨10,[4,0,6,1,9],[.tmp 4],
 .seq (qr [qp 4 .mov [qi 0]] [4])
 (.seq (.seq (qr [qm 5 0,qc 6 .eql 5 0] [6])
 (.cond (qt 6) (.seq (qr [qp 4 .mov [qi 7]] [4])
 .ret) .skip))
 (.seq (.seq (qr [qm 7 0,qm 8 1,qb 9 .gtr 7 8] [9])
 (.cond (qt 9) (.seq (qr [qp 4 .mov [qi 9]] [4])
 .ret) .skip))
 (.seq (qr [qp 4 .mov [qi 0]] [4])
 .ret)))⟩
theorem Y0:compF Tryz.prog 190=some Z02:=by kernel_rfl
def Q41:SCode:=
 .seq (.seq (qr [qm 27 5,qm 28 3,qp 29 (.len true) [qt 28],qb 30 .lss 27 29] [30])
 (.cond (qt 30) .skip (.exit 0)))
 (.seq (.block 1 (.seq (qr [qm 34 3,qm 35 5,qm 36 5,qc 37 .add 36 1,qp 38 (.sls true true) [qt 34,qt 35,qt 37],qa 39 258 [qt 38],qm 33 39,qx 40 0 33,qx 41 1 33,qm 6 40,qm 7 41] [6,7])
 (.seq (qr [qm 42 4,qm 43 5,qp 44 (.ixa 1) [qt 42,qt 43],ql 45 44,qm 46 6,qb 47 .lss 45 46,qm 48 47,qg 49 48 false (.pur .mov [qt 4]),qg 50 48 false (.pur .mov [qt 5]),qg 51 48 false (.pur (.ixa 1) [qt 49,qt 50]),qg 52 48 false (.ld none (qt 51)),qg 53 48 false (.pur .mov [qt 7]),qg 54 48 false (.pur (.bin .gtr) [qt 52,qt 53]),qp 55 .pick [qt 48,.const (.bool true),qt 54]] [55])
 (.cond (qt 55) (.seq (qr [qp 2 .mov [qi 3]] [2])
 .ret) .skip))))
 (qr [qm 31 5,qc 32 .add 31 1,qm 5 32] [5]))
def Q42:SCode:=
 .seq (.seq (qr [qm 58 8,qc 59 .lss 58 3] [59])
 (.cond (qt 59) .skip (.exit 2)))
 (.seq (.block 3 (.seq (qr [qm 62 4,qm 63 8,qp 64 (.ixa 1) [qt 62,qt 63],ql 65 64,qc 66 .neq 65 0] [66])
 (.cond (qt 66) (.seq (qr [qp 2 .mov [qi 4]] [2])
 .ret) .skip)))
 (qr [qm 60 8,qc 61 .add 60 1,qm 8 61] [8]))
def Zu:Fun:=⟨67,[2,0,1,16,5,3,30,4,6,7,55,8,59,66],[.tmp 2],
 .seq (qr [qe 1 (.box 126) [qt 0],qp 2 .mov [qi 0]] [1,2])
 (.seq (.seq (qr [qf 9 0 1,ql 10 9,qc 11 .lss 10 0,qm 12 11,qg 13 12 false (.pur (.fla 0) [qt 1]),qg 14 12 false (.ld none (qt 13)),qg 15 12 false (.pur (.bin .gtr) [qt 14,qi 25]),qp 16 .pick [qt 12,.const (.bool true),qt 15]] [16])
 (.cond (qt 16) (.seq (qr [qp 2 .mov [qi 5]] [2])
 .ret) .skip))
 (.seq (qr [qf 17 0 1,ql 18 17,qa 19 257 [qt 18],qm 3 19] [3])
 (.seq (qr [qf 20 1 1,ql 21 20,qf 22 2 1,ql 23 22,qf 24 3 1,ql 25 24,qe 26 (.bsl 3 1) [qt 21,qt 23,qt 25],qm 4 26] [4])
 (.seq (.seq (qr [qp 5 .mov [qi 0]] [5])
 (.block 0 (.loop Q41)))
 (.seq (.seq (qr [qm 56 3,qp 57 (.len true) [qt 56],qm 8 57] [8])
 (.block 2 (.loop Q42)))
 (.seq (qr [qp 2 .mov [qi 0]] [2])
 .ret))))))⟩
theorem X67:compF Tryz.prog 191=some Zu:=by kernel_rfl
def Z03:Fun:=⟨13,[2,0,8],[.tmp 2],
 .seq (qr [qp 2 .mov [.const (.string ⟨#[]⟩)]] [2])
 (.seq (.seq (qr [qm 3 0,qc 4 .lss 3 0,qm 5 4,qg 6 5 false (.pur .mov [qt 0]),qg 7 5 false (.pur (.bin .gtr) [qt 6,qi 25]),qp 8 .pick [qt 5,.const (.bool true),qt 7]] [8])
 (.cond (qt 8) (.seq (qr [qp 2 .mov [.const (.string ⟨#[]⟩)]] [2])
 .ret) .skip))
 (.seq (qr [qa 9 293 [],qm 10 0,qp 11 (.ixa 1) [qt 9,qt 10],ql 12 11,qm 2 12] [2])
 .ret))⟩
theorem Y1:compF Tryz.prog 257=some Z03:=by kernel_rfl
def Z04:Fun:=⟨11,[2,3,0,4,5,7,9],[.tmp 2,.tmp 3],
 .seq (qr [qp 2 .mov [qi 0],qp 3 .mov [qi 0]] [2,3])
 (.seq (.seq (qr [qm 4 0] [4])
 (.block 0 (.seq (qr [qp 6 (.bin .eql) [qt 4,.const (.string ⟨#[114]⟩)],qm 5 6] [5])
 (.cond (qt 5) (.seq (qr [qp 2 .mov [qi 0],qp 3 .mov [qi 7]] [2,3])
 .ret) (.seq (qr [qp 8 (.bin .eql) [qt 4,.const (.string ⟨#[102]⟩)],qm 7 8] [7])
 (.cond (qt 7) (.seq (qr [qp 2 .mov [qi 0],qp 3 .mov [qi 15]] [2,3])
 .ret) (.seq (qr [qp 10 (.bin .eql) [qt 4,.const (.string ⟨#[116]⟩)],qm 9 10] [9])
 (.cond (qt 9) (.seq (qr [qp 2 .mov [qi 0],qp 3 .mov [qi 199]] [2,3])
 .ret) .skip))))))))
 (.seq (qr [qp 2 .mov [qi (-32768)],qp 3 .mov [qi 32767]] [2,3])
 .ret))⟩
theorem Y2:compF Tryz.prog 258=some Z04:=by kernel_rfl
def Zv:Fun:=⟨2,[0],[.tmp 0],
 .seq (qr [qp 0 .mov [.const (.slice none 0 0)]] [0])
 (.seq (qr [⟨some 1,none,.eff (.bsl 9 1) [.const (.string ⟨#[]⟩),.const (.string ⟨#[114,110]⟩),.const (.string ⟨#[114,114]⟩),.const (.string ⟨#[114,114,114]⟩),.const (.string ⟨#[114,114,114]⟩),.const (.string ⟨#[114,114,114]⟩),.const (.string ⟨#[114,114,114]⟩),.const (.string ⟨#[114,114,114]⟩),.const (.string ⟨#[114,114,114]⟩),.const (.string ⟨#[114,114,114]⟩),.const (.string ⟨#[114,114,114]⟩),.const (.string ⟨#[114,114,114]⟩),.const (.string ⟨#[114,114,114]⟩),.const (.string ⟨#[114,114]⟩),.const (.string ⟨#[114,114]⟩),.const (.string ⟨#[114,114,114]⟩),.const (.string ⟨#[114,114,114]⟩),.const (.string ⟨#[114]⟩),.const (.string ⟨#[116]⟩),.const (.string ⟨#[114,116]⟩),.const (.string ⟨#[102]⟩),.const (.string ⟨#[]⟩),.const (.string ⟨#[102]⟩),.const (.string ⟨#[114]⟩),.const (.string ⟨#[114]⟩),.const (.string ⟨#[]⟩)]⟩,qm 0 1] [0])
 .ret)⟩
theorem X68:compF Tryz.prog 293=some Zv:=by kernel_rfl
def QN:SCode:=
 .seq (.seq (qr [qm 64 15,qm 65 3,qp 66 (.len false) [qt 65],qb 67 .lss 64 66] [67])
 (.cond (qt 67) .skip (.exit 0)))
 (.seq (.block 1 (.seq (qr [qm 70 3,qm 71 15,qp 72 (.ixa 2) [qt 70,qt 71],qL 73 2 72,qe 16 (.new 46 [qv 0,qv 0]) [],qs 2 16 73] [16])
 (.seq (qr [qm 74 11,qL 75 2 16,qa 76 21 [qt 74,qt 75]] [])
 (.seq (.seq (qr [qf 77 0 16,ql 78 77,qc 79 .geq 78 0,qm 80 79,qg 81 80 true (.pur (.fla 0) [qt 16]),qg 82 80 true (.ld none (qt 81)),qg 83 80 true (.pur (.bin .lss) [qt 82,qi 1099511627776]),qp 84 .pick [qt 80,qt 83,.const (.bool false)],qm 85 84,qg 86 85 true (.pur (.fla 1) [qt 16]),qg 87 85 true (.ld none (qt 86)),qg 88 85 true (.pur (.bin .geq) [qt 87,qi 0]),qp 89 .pick [qt 85,qt 88,.const (.bool false)],qm 90 89,qg 91 90 true (.pur (.fla 1) [qt 16]),qg 92 90 true (.ld none (qt 91)),qg 93 90 true (.pur (.bin .lss) [qt 92,qi 1099511627776]),qp 94 .pick [qt 90,qt 93,.const (.bool false)]] [94])
 (.cond (qt 94) (.seq (qr [qf 95 0 16,ql 96 95,qf 97 0 7,ql 98 97,qp 99 (.bin .mul) [qi 3,qt 98],qb 100 .add 96 99,qf 101 0 16,qs 1 101 100] [])
 (qr [qf 102 1 16,ql 103 102,qf 104 0 7,ql 105 104,qp 106 (.bin .mul) [qi 2,qt 105],qb 107 .add 103 106,qf 108 1 16,qs 1 108 107] [])) .skip))
 (qr [qm 109 13,qL 110 2 16,qa 111 21 [qt 109,qt 110]] [])))))
 (qr [qm 68 15,qc 69 .add 68 1,qm 15 69] [15]))
def QO:SCode:=
 .seq (.seq (qr [qm 127 20,qm 128 4,qp 129 (.len false) [qt 128],qb 130 .lss 127 129] [130])
 (.cond (qt 130) .skip (.exit 2)))
 (.seq (.block 3 (.seq (qr [qm 133 11,qm 134 4,qm 135 20,qp 136 (.ixa 2) [qt 134,qt 135],qL 137 2 136,qa 138 21 [qt 133,qt 137],qp 139 .not [qt 138]] [139])
 (.cond (qt 139) (.seq (qr [qp 10 .mov [.const (.bool false)]] [10])
 .ret) .skip)))
 (qr [qm 131 20,qc 132 .add 131 1,qm 20 132] [20]))
def QP:SCode:=
 .seq (.seq (qr [qm 142 22,qm 143 19,qp 144 (.len false) [qt 143],qb 145 .lss 142 144,qm 146 145,qg 147 146 true (.pur .mov [qt 22]),qg 148 146 true (.pur .mov [qt 21]),qg 149 146 true (.pur (.len false) [qt 148]),qg 150 146 true (.pur (.bin .lss) [qt 147,qt 149]),qp 151 .pick [qt 146,qt 150,.const (.bool false)]] [151])
 (.cond (qt 151) .skip (.exit 4)))
 (.seq (.block 5 (.seq (qr [qm 154 19,qm 155 22,qp 156 (.ixa 4) [qt 154,qt 155],qL 157 4 156,qm 158 21,qm 159 22,qp 160 (.ixa 4) [qt 158,qt 159],qL 161 4 160,qp 162 (.eqs true [.int .i64,.int .i64,.int .i64,.int .i64]) [qt 157,qt 161]] [162])
 (.cond (qt 162) (.seq (qr [qp 10 .mov [.const (.bool false)]] [10])
 .ret) .skip)))
 (qr [qm 152 22,qc 153 .add 152 1,qm 22 153] [22]))
def Q00:Fun:=⟨181,[10,0,2,24,5,1,7,3,4,34,12,14,60,15,67,11,16,94,13,17,121,124,20,130,139,22,19,21,151,162,18],[.tmp 10],
 .seq (qr [qe 5 (.box 33) [qt 0],qe 7 (.box 36) [qt 2],qp 10 .mov [.const (.bool false)]] [5,7,10])
 (.seq (.seq (qr [qa 23 17 [],qp 24 .not [qt 23]] [24])
 (.cond (qt 24) (.seq (qr [qp 10 .mov [.const (.bool false)]] [10])
 .ret) .skip))
 (.seq (.seq (qr [qL 25 2 5,qm 26 1,qL 27 7 7,qm 28 3,qa 29 18 [qt 25,qt 26,qt 27,qt 28],qm 30 29,qg 31 30 false (.pur .mov [qt 4]),qg 32 30 false (.pur (.len false) [qt 31]),qg 33 30 false (.pur (.bin .gtr) [qt 32,qi 1000]),qp 34 .pick [qt 30,.const (.bool true),qt 33]] [34])
 (.cond (qt 34) (.seq (qr [qp 10 .mov [.const (.bool true)]] [10])
 .ret) .skip))
 (.seq (.reg (.run (qL 36 2 5) (.run (qm 39 1) (.run (qL 41 7 7) (.both (.eff (qa 37 20 [qt 36]) [qL 41 7 7] (.eff (qe 38 (.bsl 3 1) []) [qL 41 7 7] (.eff (qe 40 (.app 3 1 8 [qv 0]) [qt 38,qt 39]) [qL 41 7 7] (.eff (qa 42 19 [qt 37,qt 40,qt 41]) [] (.run (qm 35 42) (.run (qx 43 0 35) (.run (qx 44 1 35) (.run (qm 11 43) (.run (qm 12 44) .done))))))))) (.eff (qe 38 (.bsl 3 1) []) [] (.eff (qa 37 20 [qt 36]) [qL 41 7 7] (.eff (qe 40 (.app 3 1 8 [qv 0]) [qt 38,qt 39]) [qL 41 7 7] (.eff (qa 42 19 [qt 37,qt 40,qt 41]) [] (.run (qm 35 42) (.run (qx 43 0 35) (.run (qx 44 1 35) (.run (qm 11 43) (.run (qm 12 44) .done))))))))))))) [11,12])
 (.seq (.reg (.run (qL 46 2 5) (.run (qm 49 1) (.run (qL 51 7 7) (.both (.eff (qa 47 20 [qt 46]) [qL 51 7 7] (.eff (qe 48 (.bsl 3 1) []) [qL 51 7 7] (.eff (qe 50 (.app 3 1 8 [qv 0]) [qt 48,qt 49]) [qL 51 7 7] (.eff (qa 52 19 [qt 47,qt 50,qt 51]) [] (.run (qm 45 52) (.run (qx 53 0 45) (.run (qx 54 1 45) (.run (qm 13 53) (.run (qm 14 54) .done))))))))) (.eff (qe 48 (.bsl 3 1) []) [] (.eff (qa 47 20 [qt 46]) [qL 51 7 7] (.eff (qe 50 (.app 3 1 8 [qv 0]) [qt 48,qt 49]) [qL 51 7 7] (.eff (qa 52 19 [qt 47,qt 50,qt 51]) [] (.run (qm 45 52) (.run (qx 53 0 45) (.run (qx 54 1 45) (.run (qm 13 53) (.run (qm 14 54) .done))))))))))))) [13,14])
 (.seq (.seq (qr [qm 55 12,qc 56 .neq 55 0,qm 57 56,qg 58 57 false (.pur .mov [qt 14]),qg 59 57 false (.pur (.bin .neq) [qt 58,qi 0]),qp 60 .pick [qt 57,.const (.bool true),qt 59]] [60])
 (.cond (qt 60) (.seq (qr [qm 61 12,qm 62 14,qb 63 .eql 61 62,qm 10 63] [10])
 .ret) .skip))
 (.seq (.seq (qr [qp 15 .mov [qi 0]] [15])
 (.block 0 (.loop QN)))
 (.seq (qr [qm 112 11,qa 113 25 [qt 112],qm 114 11,qa 115 23 [qt 114],qp 116 (.len false) [qt 115],qe 17 (.new 54 [qv 0,qv 0,.slice none 0 0,.slice none 0 0,qv 0,qv 0,qv 0,qv 0,qv 0,qv 0,qv 0]) [],qs 11 17 113,qm 18 116] [17,18])
 (.seq (.seq (.reg (.run (qL 117 11 17) (.run (qm 118 13) (.eff (qa 119 25 [qt 118]) [qL 117 11 17] (.eff (qa 120 29 [qt 117,qt 119]) [] (.run (qp 121 .not [qt 120]) .done))))) [121])
 (.cond (qt 121) (.seq (qr [qp 10 .mov [.const (.bool false)]] [10])
 .ret) .skip))
 (.seq (.seq (qr [qm 122 11,qa 123 27 [qt 122],qp 124 .not [qt 123]] [124])
 (.cond (qt 124) (.seq (qr [qp 10 .mov [.const (.bool true)]] [10])
 .ret) .skip))
 (.seq (qr [qm 125 11,qa 126 28 [qt 125],qm 19 126] [19])
 (.seq (.seq (qr [qp 20 .mov [qi 0]] [20])
 (.block 2 (.loop QO)))
 (.seq (qr [qm 140 11,qa 141 28 [qt 140],qm 21 141] [21])
 (.seq (.seq (qr [qp 22 .mov [qi 0]] [22])
 (.block 4 (.loop QP)))
 (.seq (.reg (.run (qL 163 11 17) (.run (qm 164 11) (.eff (qa 165 25 [qt 164]) [qL 163 11 17] (.eff (qa 166 29 [qt 163,qt 165]) [] (.run (qm 167 166) (.run (qg 168 167 true (.pur .mov [qt 11])) (.run (qg 171 167 true (.pur .mov [qt 18])) (.eff (qg 169 167 true (.eff (.call 23) [qt 168])) [] (.run (qg 170 167 true (.pur (.len false) [qt 169])) (.run (qg 172 167 true (.pur (.bin .eql) [qt 170,qt 171])) (.run (qp 173 .pick [qt 167,qt 172,.const (.bool false)]) (.run (qm 174 173) (.run (qg 175 174 true (.pur .mov [qt 19])) (.run (qg 176 174 true (.pur (.len false) [qt 175])) (.run (qg 177 174 true (.pur .mov [qt 21])) (.run (qg 178 174 true (.pur (.len false) [qt 177])) (.run (qg 179 174 true (.pur (.bin .eql) [qt 176,qt 178])) (.run (qp 180 .pick [qt 174,qt 179,.const (.bool false)]) (.run (qm 10 180) .done))))))))))))))))))) [10])
 .ret))))))))))))))⟩
theorem ZF:(compF Tryz.prog 6).map Fun.slim=some Q00:=by kernel_rfl
end Go.Proofs.YtelibaobkcokdaaGreat
