/- CSer CR01 CR08 CRef29 CRun CR04 -/
import Derived.Test.YtncdnegdlkmicaaGreatQLd
import Derived.Test.YtncdnegdlkmicaaGreatProg
import Derived.KernelRfl
namespace Go.Proofs.YtncdnegdlkmicaaGreat
open Go Go.Kx Go.Proofs
set_option linter.unusedVariables false
set_option maxRecDepth 100000
def Xo:Fun:=⟨25,[6,7,0,3,1,2,9,18,8],[.cell 6 (some 7),.tmp 7],
 .seq (qr [qe 3 (.box 24) [qt 0],qe 6 (.new 29 [qv 0,qv 0,.slice none 0 0,.slice none 0 0,qv 0,qv 0,qv 0]) [],qp 7 .mov [qi 0]] [3,6,7])
 (.seq (qr [qL 11 2 3,qm 12 1,qm 13 2,qa 14 21 [qt 11,qt 12,qt 13],qm 10 14,qx 15 0 10,qx 16 1 10,qm 8 15,qm 9 16] [8,9])
 (.seq (.seq (qr [qm 17 9,qc 18 .neq 17 0] [18])
 (.cond (qt 18) (.seq (qr [qp 19 (.bld [qv 0,qv 0,.slice none 0 0,.slice none 0 0,qv 0,qv 0,qv 0] []) [],qm 20 9,qs 7 6 19,qm 7 20] [7])
 .ret) .skip))
 (.seq (qr [qm 21 8,qn 22 21,qf 23 6 22,qL 24 7 23,qs 7 6 24,qp 7 .mov [qi 0]] [7])
 .ret)))⟩
theorem Yc:compF Tryz.prog 12=some Xo:=by kernel_rfl
def Z77:Fun:=⟨22,[6,0,3,1,2,8,17,7],[.tmp 6],
 .seq (qr [qe 3 (.box 24) [qt 0],qp 6 .mov [.const (.slice none 0 0)]] [3,6])
 (.seq (qr [qL 10 2 3,qm 11 1,qm 12 2,qa 13 21 [qt 10,qt 11,qt 12],qm 9 13,qx 14 0 9,qx 15 1 9,qm 7 14,qm 8 15] [7,8])
 (.seq (.seq (qr [qm 16 8,qc 17 .neq 16 0] [17])
 (.cond (qt 17) (.seq (qr [qp 6 .mov [.const (.slice none 0 0)]] [6])
 .ret) .skip))
 (.seq (qr [qm 18 7,qn 19 18,qf 20 4 19,ql 21 20,qm 6 21] [6])
 .ret)))⟩
theorem X73:compF Tryz.prog 14=some Z77:=by kernel_rfl
def Z32:SCode:=
 .seq (qr [qb 20 .lss 19 18] [20])
 (.seq (.cond (qt 20) .skip (.exit 0))
 (.seq (.block 1 (.seq (qr [qp 21 (.ixa 1) [qt 17,qt 19],ql 22 21,qm 5 22] [5])
 (.seq (qr [qm 23 5,qf 24 1 1,ql 25 24,qp 26 (.len false) [qt 25],qa 27 56 [qt 23,qt 26],qm 6 27] [6])
 (.seq (qr [qm 28 6,qc 29 .neq 28 0] [29])
 (.cond (qt 29) (.seq (qr [qm 30 6,qm 2 30] [2])
 .ret) .skip)))))
 (qr [qc 31 .add 19 1,qm 19 31] [19])))
def X07:Fun:=⟨32,[2,0,1,3,14,19,18,20,17,5,6,29],[.tmp 2],
 .seq (qr [qe 1 (.box 24) [qt 0],qp 2 .mov [qi 0]] [1,2])
 (.seq (.seq (qr [qf 7 0 1,ql 8 7,qf 9 1 1,ql 10 9,qp 11 (.len false) [qt 10],qa 12 55 [qt 8,qt 11],qm 3 12] [3])
 (.seq (qr [qm 13 3,qc 14 .neq 13 0] [14])
 (.cond (qt 14) (.seq (qr [qm 15 3,qm 2 15] [2])
 .ret) .skip)))
 (.seq (.seq (qr [qf 16 1 1,ql 17 16,qp 18 (.len false) [qt 17],qp 19 .mov [qi 0]] [17,18,19])
 (.block 0 (.loop Z32)))
 (.seq (qr [qp 2 .mov [qi 0]] [2])
 .ret)))⟩
theorem K_prog_Check:compF Tryz.prog 33=some X07:=by kernel_rfl
def X45:Fun:=⟨9,[2,0],[.tmp 2],
 .seq (qr [qp 2 .mov [.const (.pointer none)]] [2])
 (.seq (qr [qm 3 0,qp 4 (.minmax true) [qt 3,qi 0],qp 5 (.minmax false) [qt 4,qi 1048576],qe 6 (.mks 3 1 8 [qv 0]) [qt 5,qt 5],qp 7 (.bld [.slice none 0 0,.nilFunc] [(0,1)]) [qt 6],qe 8 (.box 147) [qt 7],qm 2 8] [2])
 .ret)⟩
theorem K_store_New:compF Tryz.prog 34=some X45:=by kernel_rfl
def Q88:Fun:=⟨16,[6,0,1,7,12,2],[.tmp 6],
 .seq (qr [qp 6 .mov [.const (.bool false)]] [6])
 (.seq (qr [qm 8 0,qm 9 1,qa 10 57 [qt 8,qt 9,.const (.bool true)],qm 7 10] [7])
 (.seq (.seq (qr [qm 11 7,qp 12 (.eqn false 0) [qt 11]] [12])
 (.cond (qt 12) (.seq (qr [qp 6 .mov [.const (.bool false)]] [6])
 .ret) .skip))
 (.seq (qr [qm 13 7,qm 14 2,qn 15 13,qs 1 15 14] [])
 (.seq (qr [qp 6 .mov [.const (.bool true)]] [6])
 .ret))))⟩
theorem Z91:compF Tryz.prog 35=some Q88:=by kernel_rfl
def Q20:Fun:=⟨38,[1,0,3],[],
 .seq (qr [qe 3 (.box 112) [qt 1]] [3])
 (.seq (.reg (.run (qm 4 0) (.run (qm 5 0) (.run (qn 6 5) (.run (qf 7 2 6) (.run (ql 8 7) (.run (qL 9 15 3) (.eff (qe 10 (.bsl 112 15) [qt 9]) [ql 8 7] (.eff (qe 11 (.app 112 15 120 [qv 0,qv 0,qv 0,qv 0,qv 0,qv 0,qv 0,qv 0,qv 0,qv 0,qv 0,.bool false,qv 0,qv 0,qv 0]) [qt 8,qt 10]) [] (.run (qn 12 4) (.run (qf 13 2 12) (.eff (qs 1 13 11) [] .done))))))))))) [])
 (.seq (qr [qm 14 0,qn 15 14,qf 16 6 15,qf 17 5 16,ql 18 17,qc 19 .add 18 1,qn 20 14,qf 21 6 20,qf 22 5 21,qs 1 22 19] [])
 (.reg (.run (qm 23 0) (.run (qm 24 0) (.run (qn 25 24) (.run (qf 26 6 25) (.run (qf 27 6 26) (.run (ql 28 27) (.run (qm 29 0) (.run (qn 30 29) (.run (qf 31 2 30) (.run (ql 32 31) (.run (qp 33 (.len false) [qt 32]) (.run (qp 34 (.minmax true) [qt 28,qt 33]) (.run (qn 35 23) (.run (qf 36 6 35) (.run (qf 37 6 36) (.eff (qs 1 37 34) [] .done)))))))))))))))) [])))⟩
theorem Zd:compF Tryz.prog 36=some Q20:=by kernel_rfl
def Ze:Fun:=⟨16,[0,1,2],[],
 qr [qm 6 0,qm 7 0,qm 8 1,qm 9 2,qn 10 6,qf 11 6 10,qf 12 0 11,qs 1 12 8,qn 13 7,qf 14 6 13,qf 15 1 14,qs 1 15 9] []⟩
theorem Xp:compF Tryz.prog 38=some Ze:=by kernel_rfl
def ZG:Fun:=⟨10,[2,0,4],[.tmp 2],
 .seq (qr [qp 2 .mov [.const (.slice none 0 0)]] [2])
 (.seq (.seq (qr [qm 3 0,qp 4 (.eqn false 0) [qt 3]] [4])
 (.cond (qt 4) (.seq (qr [qp 2 .mov [.const (.slice none 0 0)]] [2])
 .ret) .skip))
 (.seq (qr [qm 5 0,qn 6 5,qf 7 0 6,ql 8 7,qa 9 68 [qt 8],qm 2 9] [2])
 .ret))⟩
theorem XS:compF Tryz.prog 39=some ZG:=by kernel_rfl
def X08:Fun:=⟨13,[4,0,10,1],[.tmp 4],
 .seq (qr [qp 4 .mov [qi 0]] [4])
 (.seq (.seq (qr [qm 5 0,qc 6 .lss 5 0,qm 7 6,qg 8 7 false (.pur .mov [qt 0]),qg 9 7 false (.pur (.bin .gtr) [qt 8,qi 256]),qp 10 .pick [qt 7,.const (.bool true),qt 9]] [10])
 (.cond (qt 10) (.seq (qr [qp 4 .mov [qi 3]] [4])
 .ret) .skip))
 (.seq (qr [qm 11 1,qa 12 80 [qt 11,qi 16],qm 4 12] [4])
 .ret))⟩
theorem K_prog_sizes:compF Tryz.prog 55=some X08:=by kernel_rfl
def Zf:SCode:=
 .seq (qr [qb 18 .lss 17 16] [18])
 (.seq (.cond (qt 18) .skip (.exit 0))
 (.seq (.block 1 (.seq (qr [qp 19 (.ixa 4) [qt 15,qt 17],qL 20 4 19,qe 7 (.new 56 [qv 0,qv 0,qv 0,qv 0]) [],qs 4 7 20] [7])
 (.seq (.seq (qr [qL 21 4 7,qa 22 81 [qt 21],qm 8 22] [8])
 (.seq (qr [qm 23 8,qc 24 .neq 23 0] [24])
 (.cond (qt 24) (.seq (qr [qm 25 8,qm 4 25] [4])
 .ret) .skip)))
 (.seq (qr [qL 26 4 7,qm 27 0,qp 28 (.len false) [qt 27],qm 29 1,qa 30 82 [qt 26,qt 28,qt 29],qp 31 .not [qt 30]] [31])
 (.cond (qt 31) (.seq (qr [qp 4 .mov [qi 11]] [4])
 .ret) .skip)))))
 (qr [qc 32 .add 17 1,qm 17 32] [17])))
def Z33:Fun:=⟨44,[4,0,5,13,17,16,18,15,7,8,24,1,31,39,40],[.tmp 4],
 .seq (qr [qp 4 .mov [qi 0]] [4])
 (.seq (.seq (qr [qm 9 0,qp 10 (.len false) [qt 9],qa 11 80 [qt 10,qi 200],qm 5 11] [5])
 (.seq (qr [qm 12 5,qc 13 .neq 12 0] [13])
 (.cond (qt 13) (.seq (qr [qm 14 5,qm 4 14] [4])
 .ret) .skip)))
 (.seq (.seq (qr [qm 15 0,qp 16 (.len false) [qt 15],qp 17 .mov [qi 0]] [15,16,17])
 (.block 0 (.loop Zf)))
 (.seq (.seq (qr [qm 33 0,qm 34 0,qp 35 (.len false) [qt 34],qc 36 .sub 35 1,qp 37 (.ixa 4) [qt 33,qt 36],qf 38 0 37,ql 39 38] [39])
 (.block 2 (.seq (.seq (qr [qc 41 .eql 39 0,qm 40 41] [40])
 (.cond (qt 40) .skip (.seq (qr [qc 42 .eql 39 18,qm 40 42] [40])
 (.cond (qt 40) .skip (qr [qc 43 .eql 39 25,qm 40 43] [40])))))
 (.cond (qt 40) (.seq (qr [qp 4 .mov [qi 0]] [4])
 .ret) .skip))))
 (.seq (qr [qp 4 .mov [qi 12]] [4])
 .ret))))⟩
theorem X46:compF Tryz.prog 56=some Z33:=by kernel_rfl
def Zg:Fun:=⟨33,[6,1,0,14,19,2],[.tmp 6],
 .seq (qr [qp 6 .mov [.const (.pointer none)]] [6])
 (.seq (.seq (qr [qm 7 1,qc 8 .lss 7 0,qm 9 8,qg 10 9 false (.pur .mov [qt 1]),qg 11 9 false (.pur .mov [qt 0]),qg 12 9 false (.eff (.call 83) [qt 11]),qg 13 9 false (.pur (.bin .geq) [qt 10,qt 12]),qp 14 .pick [qt 9,.const (.bool true),qt 13]] [14])
 (.cond (qt 14) (.seq (qr [qp 6 .mov [.const (.pointer none)]] [6])
 .ret) .skip))
 (.seq (.seq (qr [qm 15 0,qn 16 15,qf 17 1 16,ql 18 17,qp 19 (.eqn true 2) [qt 18]] [19])
 (.cond (qt 19) (qr [qm 20 0,qn 21 20,qf 22 1 21,ql 23 22,qm 24 1,qm 25 2,qe 26 .callv [qt 23,qt 24,qt 25]] []) .skip))
 (.seq (qr [qm 27 0,qn 28 27,qf 29 0 28,ql 30 29,qm 31 1,qp 32 (.ixa 1) [qt 30,qt 31],qm 6 32] [6])
 .ret)))⟩
theorem Xq:compF Tryz.prog 57=some Zg:=by kernel_rfl
def ZH:Fun:=⟨14,[2,0],[.tmp 2],
 .seq (qr [qp 2 .mov [.const (.pointer none)]] [2])
 (.seq (qr [qm 3 0,qn 4 3,qf 5 2 4,ql 6 5,qm 7 0,qn 8 7,qf 9 2 8,ql 10 9,qp 11 (.len false) [qt 10],qc 12 .sub 11 1,qp 13 (.ixa 15) [qt 6,qt 12],qm 2 13] [2])
 .ret)⟩
theorem XT:compF Tryz.prog 58=some ZH:=by kernel_rfl
def S_step_Do:Fun:=⟨92,[6,7,8,9,0,2,5,1,3,17,10,27,39,13,58,12,68,74,11],[.tmp 6,.cell 7 (some 8),.cell 8 (some 5),.tmp 9],
 .seq (qr [qe 3 (.box 56) [qt 0],qe 5 (.box 90) [qt 2],qp 6 .mov [qi 0],qe 7 (.new 90 [qv 0,qv 0,qv 0,qv 0,qv 0,qv 0,qv 0,qv 0]) [],qe 8 (.new 152 [qv 0,qv 0,qv 0,qv 0,qv 0]) [],qp 9 .mov [qi 0]] [3,5,6,7,8,9])
 (.seq (qr [qL 14 8 5,qm 15 1,qc 16 .add 15 1,qe 10 (.new 170 [qv 0,qv 0,qv 0,qv 0,qv 0,qv 0,qv 0,qv 0]) [],qs 8 10 14,qm 11 16] [10,11])
 (.seq (.block 0 (.seq (qr [qf 18 0 3,ql 19 18,qc 20 .eql 19 1,qm 17 20] [17])
 (.cond (qt 17) (.reg (.run (qf 21 1 3) (.run (ql 22 21) (.run (qf 24 2 3) (.run (ql 25 24) (.eff (qa 23 84 [qt 22]) [ql 25 24] (.run (qp 26 (.ixaA 8 1) [qt 10,qt 23]) (.eff (qs 1 26 25) [] .done))))))) []) (.seq (qr [qf 28 0 3,ql 29 28,qc 30 .eql 29 2,qm 27 30] [27])
 (.cond (qt 27) (.reg (.run (qf 31 1 3) (.run (ql 32 31) (.run (qL 34 8 10) (.run (qf 35 2 3) (.run (ql 36 35) (.eff (qa 33 84 [qt 32]) [ql 36 35,qL 34 8 10] (.eff (qa 37 85 [qt 34,qt 36]) [] (.run (qp 38 (.ixaA 8 1) [qt 10,qt 33]) (.eff (qs 1 38 37) [] .done))))))))) []) (.seq (qr [qf 40 0 3,ql 41 40,qa 42 86 [qt 41],qm 39 42] [39])
 (.cond (qt 39) (.seq (.reg (.run (qf 44 0 3) (.run (ql 45 44) (.run (qL 46 8 10) (.run (qf 47 2 3) (.run (ql 48 47) (.run (qL 50 8 10) (.run (qf 51 3 3) (.run (ql 52 51) (.eff (qa 49 85 [qt 46,qt 48]) [ql 52 51,qL 50 8 10,ql 45 44] (.eff (qa 53 85 [qt 50,qt 52]) [ql 45 44] (.eff (qa 54 87 [qt 45,qt 49,qt 53]) [] (.run (qm 43 54) (.run (qx 55 0 43) (.run (qx 56 1 43) (.run (qm 12 55) (.run (qm 13 56) .done)))))))))))))))) [12,13])
 (.seq (.seq (qr [qm 57 13,qc 58 .neq 57 0] [58])
 (.cond (qt 58) (.seq (.reg (.run (qm 59 1) (.run (qL 60 8 5) (.run (qp 61 (.bld [qv 0,qv 0,qv 0,qv 0,qv 0] []) []) (.run (qm 62 13) (.run (qm 6 59) (.eff (qs 8 7 60) [] (.eff (qs 5 8 61) [] (.run (qm 9 62) .done)))))))) [6,9])
 .ret) .skip))
 (qr [qf 63 1 3,ql 64 63,qa 65 84 [qt 64],qm 66 12,qp 67 (.ixaA 8 1) [qt 10,qt 65],qs 1 67 66] []))) (.seq (qr [qf 69 0 3,ql 70 69,qc 71 .eql 70 18,qm 68 71] [68])
 (.cond (qt 68) (qr [qf 72 1 3,ql 73 72,qm 11 73] [11]) (.seq (qr [qf 75 0 3,ql 76 75,qc 77 .eql 76 19,qm 78 77,qg 79 78 true (.ld (some 8) (qt 10)),qg 80 78 true (.pur (.fla 1) [qt 3]),qg 81 78 true (.ld none (qt 80)),qg 82 78 true (.eff (.call 85) [qt 79,qt 81]),qg 83 78 true (.pur (.bin .eql) [qt 82,qi 0]),qp 84 .pick [qt 78,qt 83,.const (.bool false)],qm 74 84] [74])
 (.cond (qt 74) (qr [qf 85 2 3,ql 86 85,qm 11 86] [11]) .skip)))))))))))
 (.seq (.reg (.run (qm 87 11) (.run (qL 88 8 10) (.run (qL 89 4 3) (.run (qL 90 8 5) (.eff (qa 91 88 [qt 89,qt 90]) [qL 88 8 10] (.run (qm 6 87) (.eff (qs 8 7 88) [] (.eff (qs 5 8 91) [] (.run (qp 9 .mov [qi 0]) .done))))))))) [6,9])
 .ret)))⟩
theorem K_step_Do:compF Tryz.prog 59=some S_step_Do:=by kernel_rfl
def X47:Fun:=⟨11,[2,0,1],[.tmp 2],
 .seq (qr [qe 1 (.box 152) [qt 0],qp 2 .mov [.const (.bool false)]] [1,2])
 (.seq (qr [qf 3 0 1,ql 4 3,qc 5 .geq 4 7,qm 6 5,qg 7 6 true (.pur (.fla 0) [qt 1]),qg 8 6 true (.ld none (qt 7)),qg 9 6 true (.pur (.bin .leq) [qt 8,qi 12]),qp 10 .pick [qt 6,qt 9,.const (.bool false)],qm 2 10] [2])
 .ret)⟩
theorem K_step_Ends:compF Tryz.prog 60=some X47:=by kernel_rfl
def Zh:Fun:=⟨18,[0,1,2],[],
 qr [qm 6 0,qm 7 0,qn 8 7,qf 9 4 8,ql 10 9,qm 11 1,qm 12 2,qp 13 (.bld [qv 0,qv 0,qv 0] [(0,1),(1,1)]) [qt 11,qt 12],qe 14 (.bsl 125 3) [qt 13],qe 15 (.app 125 3 24 [qv 0,qv 0,qv 0]) [qt 10,qt 14],qn 16 6,qf 17 4 16,qs 1 17 15] []⟩
theorem Xr:compF Tryz.prog 61=some Zh:=by kernel_rfl
def X48:Fun:=⟨11,[2,0,1],[.tmp 2],
 .seq (qr [qe 1 (.box 152) [qt 0],qp 2 .mov [.const (.bool false)]] [1,2])
 (.seq (qr [qf 3 0 1,ql 4 3,qc 5 .geq 4 1,qm 6 5,qg 7 6 true (.pur (.fla 0) [qt 1]),qg 8 6 true (.ld none (qt 7)),qg 9 6 true (.pur (.bin .leq) [qt 8,qi 4]),qp 10 .pick [qt 6,qt 9,.const (.bool false)],qm 2 10] [2])
 .ret)⟩
theorem K_step_Asks:compF Tryz.prog 62=some X48:=by kernel_rfl
def ZI:Fun:=⟨88,[3,4,9,14,15,0,27,38,52,11,69,12,1,2,8,10],[],
 .seq (qr [qe 8 (.box 90) [qt 3],qe 9 (.box 152) [qt 4]] [8,9])
 (.seq (qr [qp 10 .mov [qi 0]] [10])
 (.seq (qr [qp 11 .mov [.const (.bool false)]] [11])
 (.seq (qr [qp 12 .mov [qi 2]] [12])
 (.seq (.seq (qr [qf 13 0 9,ql 14 13] [14])
 (.block 0 (.seq (qr [qc 16 .eql 14 1,qm 15 16] [15])
 (.cond (qt 15) (.seq (.reg (.run (qm 18 0) (.run (qn 19 18) (.run (qf 20 3 19) (.run (ql 21 20) (.run (qf 22 1 9) (.run (ql 23 22) (.eff (qa 24 89 [qt 21,qt 23]) [] (.run (qm 17 24) (.run (qx 25 0 17) (.run (qx 26 1 17) (.run (qm 10 25) (.run (qm 11 26) .done)))))))))))) [10,11])
 (qr [qp 12 .mov [qi 1]] [12])) (.seq (qr [qc 28 .eql 14 2,qm 27 28] [27])
 (.cond (qt 27) (.reg (.run (qm 29 0) (.run (qn 30 29) (.run (qf 31 3 30) (.run (ql 32 31) (.run (qf 33 1 9) (.run (ql 34 33) (.run (qf 35 2 9) (.run (ql 36 35) (.eff (qa 37 35 [qt 32,qt 34,qt 36]) [] (.run (qm 11 37) .done)))))))))) [11]) (.seq (qr [qc 39 .eql 14 3,qm 38 39] [38])
 (.cond (qt 38) (.reg (.run (qm 41 0) (.run (qn 42 41) (.run (qf 43 3 42) (.run (ql 44 43) (.run (qf 45 1 9) (.run (ql 46 45) (.run (qf 47 2 9) (.run (ql 48 47) (.eff (qa 49 90 [qt 44,qt 46,qt 48]) [] (.run (qm 40 49) (.run (qx 50 0 40) (.run (qx 51 1 40) (.run (qm 10 50) (.run (qm 11 51) .done)))))))))))))) [10,11]) (.seq (qr [qc 53 .eql 14 4,qm 52 53] [52])
 (.cond (qt 52) (.reg (.run (qm 55 0) (.run (qn 56 55) (.run (qf 57 3 56) (.run (ql 58 57) (.run (qf 59 1 9) (.run (ql 60 59) (.run (qf 61 2 9) (.run (ql 62 61) (.run (qf 63 3 9) (.run (ql 64 63) (.eff (qa 65 91 [qt 58,qt 60,qt 62,qt 64]) [] (.run (qm 54 65) (.run (qx 66 0 54) (.run (qx 67 1 54) (.run (qm 10 66) (.run (qm 11 67) .done)))))))))))))))) [10,11]) .skip))))))))))
 (.seq (.seq (qr [qm 68 11,qp 69 .not [qt 68]] [69])
 (.cond (qt 69) (.seq (qr [qm 70 0,qa 71 38 [qt 70,qi 4,qi 2]] [])
 .ret) .skip))
 (.seq (qr [qm 72 0,qm 73 12,qf 74 1 9,ql 75 74,qa 76 61 [qt 72,qt 73,qt 75]] [])
 (qr [qm 77 1,qm 78 1,qm 79 2,qL 80 8 8,qL 81 5 9,qm 82 10,qa 83 92 [qt 80,qt 81,qt 82],qn 84 77,qf 85 2 84,qs 1 85 79,qn 86 78,qf 87 3 86,qs 8 87 83] [])))))))⟩
theorem XU:compF Tryz.prog 63=some ZI:=by kernel_rfl
def Zi:Fun:=⟨53,[3,1,7,16,0,8,24,2,44],[],
 .seq (qr [qe 7 (.box 152) [qt 3]] [7])
 (.seq (.reg (.run (qm 9 1) (.run (qn 10 9) (.run (qf 11 13 10) (.run (ql 12 11) (.run (qf 13 2 7) (.run (ql 14 13) (.eff (qa 15 93 [qt 12,qt 14]) [] (.run (qm 8 15) .done)))))))) [8])
 (.seq (.block 0 (.seq (qr [qm 17 1,qn 18 17,qf 19 0 18,ql 20 19,qc 21 .neq 20 2,qm 16 21] [16])
 (.cond (qt 16) (.seq (qr [qm 22 0,qa 23 38 [qt 22,qi 4,qi 4]] [])
 .ret) (.seq (qr [qm 25 8,qc 26 .neq 25 0,qm 24 26] [24])
 (.cond (qt 24) (.seq (qr [qm 27 0,qm 28 8,qa 29 38 [qt 27,qi 4,qt 28]] [])
 .ret) .skip)))))
 (.seq (qr [qm 30 0,qm 31 1,qa 32 94 [qt 30,qt 31]] [])
 (.seq (.reg (.run (qm 33 1) (.run (qm 34 1) (.run (qm 35 2) (.run (qf 36 2 7) (.run (ql 37 36) (.run (qn 38 33) (.run (qf 39 2 38) (.eff (qs 1 39 35) [ql 37 36] (.run (qn 40 34) (.run (qf 41 13 40) (.eff (qs 1 41 37) [] .done))))))))))) [])
 (.seq (qr [qf 42 0 7,ql 43 42,qc 44 .eql 43 9] [44])
 (.cond (qt 44) (qr [qm 45 0,qf 46 2 7,ql 47 46,qa 48 61 [qt 45,qi 11,qt 47]] []) (qr [qm 49 0,qf 50 2 7,ql 51 50,qa 52 61 [qt 49,qi 12,qt 51]] [])))))))⟩
theorem Xs:compF Tryz.prog 64=some Zi:=by kernel_rfl
def Q89:Fun:=⟨44,[1,5,0,13,4],[],
 .seq (.block 0 (.seq (qr [qm 6 1,qn 7 6,qf 8 0 7,ql 9 8,qc 10 .neq 9 2,qm 5 10] [5])
 (.cond (qt 5) (.seq (qr [qm 11 0,qa 12 38 [qt 11,qi 4,qi 4]] [])
 .ret) (.seq (qr [qm 14 1,qn 15 14,qf 16 13 15,ql 17 16,qc 18 .neq 17 0,qm 13 18] [13])
 (.cond (qt 13) (.seq (qr [qm 19 0,qa 20 38 [qt 19,qi 4,qi 5]] [])
 .ret) .skip)))))
 (.seq (qr [qm 21 0,qm 22 1,qa 23 94 [qt 21,qt 22]] [])
 (.seq (qr [qm 24 0,qm 25 1,qn 26 25,qf 27 12 26,ql 28 27,qa 29 61 [qt 24,qi 10,qt 28]] [])
 (.seq (qr [qm 30 0,qa 31 95 [qt 30]] [])
 (.seq (qr [qm 32 0,qa 33 95 [qt 32],qe 4 (.new 112 [qv 0,qv 0,qv 0,qv 0,qv 0,qv 0,qv 0,qv 0,qv 0,qv 0,qv 0,.bool false,qv 0,qv 0,qv 0]) [],qs 15 4 33] [4])
 (.seq (qr [qm 34 0,qf 35 14 4,ql 36 35,qa 37 61 [qt 34,qi 8,qt 36]] [])
 (.reg (.run (qm 38 0) (.run (qf 40 3 4) (.run (qL 41 8 40) (.eff (qa 39 58 [qt 38]) [qL 41 8 40] (.run (qn 42 39) (.run (qf 43 3 42) (.eff (qs 8 43 41) [] .done))))))) []))))))⟩
theorem Z92:compF Tryz.prog 65=some Q89:=by kernel_rfl
def Zj:Fun:=⟨36,[1,8,0,27],[],
 .block 0 (.seq (qr [qm 9 1,qn 10 9,qf 11 0 10,ql 12 11,qc 13 .eql 12 2,qm 8 13] [8])
 (.cond (qt 8) (.seq (qr [qm 14 0,qm 15 1,qa 16 94 [qt 14,qt 15]] [])
 (.seq (qr [qm 17 0,qm 18 1,qn 19 18,qf 20 12 19,ql 21 20,qa 22 61 [qt 17,qi 10,qt 21]] [])
 (.seq (qr [qm 23 0,qa 24 95 [qt 23]] [])
 (qr [qm 25 0,qa 26 96 [qt 25]] [])))) (.seq (qr [qm 28 0,qn 29 28,qf 30 2 29,ql 31 30,qp 32 (.len false) [qt 31],qc 33 .eql 32 1,qm 27 33] [27])
 (.cond (qt 27) (qr [qm 34 0,qa 35 38 [qt 34,qi 1,qi 0]] []) (.seq (qr [qm 4 0,qa 5 61 [qt 4,qi 5,qi 0]] [])
 (qr [qm 6 0,qa 7 95 [qt 6]] []))))))⟩
theorem Xt:compF Tryz.prog 66=some Zj:=by kernel_rfl
def Q63:Fun:=⟨73,[2,5,7,8,0,27,1,43],[],
 .seq (qr [qe 5 (.box 152) [qt 2]] [5])
 (.seq (qr [qf 6 0 5,ql 7 6] [7])
 (.block 0 (.seq (qr [qc 9 .eql 7 5,qm 8 9] [8])
 (.cond (qt 8) (.seq (.reg (.run (qm 10 0) (.run (qm 11 0) (.run (qn 12 11) (.run (qf 13 6 12) (.run (qf 14 2 13) (.run (ql 15 14) (.run (qf 16 2 5) (.run (ql 17 16) (.eff (qe 18 (.bsl 3 1) [qt 17]) [ql 15 14] (.eff (qe 19 (.app 3 1 8 [qv 0]) [qt 15,qt 18]) [] (.run (qn 20 10) (.run (qf 21 6 20) (.run (qf 22 2 21) (.eff (qs 1 22 19) [] .done)))))))))))))) [])
 (qr [qm 23 0,qf 24 2 5,ql 25 24,qa 26 61 [qt 23,qi 3,qt 25]] [])) (.seq (qr [qc 28 .eql 7 6,qm 27 28] [27])
 (.cond (qt 27) (.seq (qr [qm 29 1,qn 30 29,qf 31 11 30,qE (.st 1) [qt 31,.const (.bool true)]] [])
 (.seq (qr [qm 32 0,qa 33 61 [qt 32,qi 4,qi 0]] [])
 (.reg (.run (qm 34 0) (.run (qf 35 2 5) (.run (ql 36 35) (.run (qm 37 1) (.run (qn 38 37) (.run (qf 39 3 38) (.run (qL 40 8 39) (.run (qp 41 (.bld [qv 0,qv 0,qv 0,qv 0,qv 0,qv 0,qv 0,qv 0,qv 0,qv 0,qv 0,.bool false,qv 0,qv 0,qv 0] [(0,1),(1,1),(3,8)]) [qi 1,qt 36,qt 40]) (.eff (qa 42 36 [qt 34,qt 41]) [] .done))))))))) []))) (.seq (qr [qc 44 .eql 7 8,qm 43 44] [43])
 (.cond (qt 43) (.seq (qr [qm 45 0,qn 46 45,qf 47 5 46,ql 48 47,qc 49 .add 48 1,qn 50 45,qf 51 5 50,qs 1 51 49] [])
 (.seq (qr [qm 52 0,qm 53 0,qn 54 53,qf 55 5 54,ql 56 55,qa 57 61 [qt 52,qi 7,qt 56]] [])
 (.seq (.reg (.run (qm 58 0) (.run (qf 59 2 5) (.run (ql 60 59) (.run (qm 61 1) (.run (qn 62 61) (.run (qf 63 3 62) (.run (qL 64 8 63) (.run (qm 65 0) (.run (qn 66 65) (.run (qf 67 5 66) (.run (ql 68 67) (.run (qp 69 (.bld [qv 0,qv 0,qv 0,qv 0,qv 0,qv 0,qv 0,qv 0,qv 0,qv 0,qv 0,.bool false,qv 0,qv 0,qv 0] [(0,1),(1,1),(3,8),(14,1)]) [qi 3,qt 60,qt 64,qt 68]) (.eff (qa 70 36 [qt 58,qt 69]) [] .done))))))))))))) [])
 (qr [qm 71 0,qa 72 96 [qt 71]] [])))) .skip))))))))⟩
theorem Z62:compF Tryz.prog 67=some Q63:=by kernel_rfl
def Q42:Fun:=⟨8,[2,0,4],[.tmp 2],
 .seq (qr [qp 2 .mov [.const (.slice none 0 0)]] [2])
 (.seq (.seq (qr [qm 3 0,qp 4 (.eqn false 1) [qt 3]] [4])
 (.cond (qt 4) (.seq (qr [qp 2 .mov [.const (.slice none 0 0)]] [2])
 .ret) .skip))
 (.seq (qr [qe 5 (.bsl 3 1) [],qm 6 0,qe 7 (.app 3 1 8 [qv 0]) [qt 5,qt 6],qm 2 7] [2])
 .ret))⟩
theorem Z26:compF Tryz.prog 68=some Q42:=by kernel_rfl
def X49:Fun:=⟨12,[4,0,5,1,8],[.tmp 4],
 .seq (qr [qp 4 .mov [qi 0]] [4])
 (.seq (.block 0 (.seq (qr [qm 6 0,qc 7 .eql 6 0,qm 5 7] [5])
 (.cond (qt 5) (.seq (qr [qp 4 .mov [qi 7]] [4])
 .ret) (.seq (qr [qm 9 0,qm 10 1,qb 11 .gtr 9 10,qm 8 11] [8])
 (.cond (qt 8) (.seq (qr [qp 4 .mov [qi 9]] [4])
 .ret) .skip)))))
 (.seq (qr [qp 4 .mov [qi 0]] [4])
 .ret))⟩
theorem K_prog_many:compF Tryz.prog 80=some X49:=by kernel_rfl
def Z78:SCode:=
 .seq (qr [qb 24 .lss 23 22] [24])
 (.seq (.cond (qt 24) .skip (.exit 0))
 (.seq (.block 1 (.seq (qr [qm 25 23,qm 5 25] [5])
 (.seq (.reg (.run (qm 26 3) (.run (qm 27 5) (.run (qp 28 .ixs [qt 26,qt 27]) (.run (qm 29 5) (.run (qp 30 (.ixaA 3 1) [qt 4,qt 29]) (.run (ql 31 30) (.eff (qa 32 107 [qt 28,qt 31]) [] (.run (qp 33 .not [qt 32]) .done)))))))) [33])
 (.cond (qt 33) (.seq (qr [qp 2 .mov [qi 3]] [2])
 .ret) .skip))))
 (qr [qc 34 .add 23 1,qm 23 34] [23])))
def Z79:SCode:=
 .seq (qr [qb 40 .lss 39 38] [40])
 (.seq (.cond (qt 40) .skip (.exit 2))
 (.seq (.block 3 (.seq (qr [qp 41 (.ixa 1) [qt 37,qt 39],ql 42 41,qm 7 42] [7])
 (.seq (qr [qm 43 7,qc 44 .neq 43 0] [44])
 (.cond (qt 44) (.seq (qr [qp 2 .mov [qi 4]] [2])
 .ret) .skip))))
 (qr [qc 45 .add 39 1,qm 39 45] [39])))
def X50:Fun:=⟨46,[2,0,1,15,3,23,22,24,5,4,33,39,38,40,37,7,44],[.tmp 2],
 .seq (qr [qe 1 (.box 56) [qt 0],qp 2 .mov [qi 0]] [1,2])
 (.seq (.seq (qr [qf 8 0 1,ql 9 8,qc 10 .lss 9 0,qm 11 10,qg 12 11 false (.pur (.fla 0) [qt 1]),qg 13 11 false (.ld none (qt 12)),qg 14 11 false (.pur (.bin .geq) [qt 13,qi 26]),qp 15 .pick [qt 11,.const (.bool true),qt 14]] [15])
 (.cond (qt 15) (.seq (qr [qp 2 .mov [qi 5]] [2])
 .ret) .skip))
 (.seq (.reg (.run (qf 16 0 1) (.run (ql 17 16) (.run (qL 19 4 1) (.both (.eff (qa 18 105 [qt 17]) [qL 19 4 1] (.both (.eff (qa 20 106 [qt 19]) [] (.eff (qe 4 (.new 190 [qv 0,qv 0,qv 0]) []) [] (.run (qm 3 18) (.eff (qs 3 4 20) [] .done)))) (.eff (qe 4 (.new 190 [qv 0,qv 0,qv 0]) []) [qL 19 4 1] (.eff (qa 20 106 [qt 19]) [] (.run (qm 3 18) (.eff (qs 3 4 20) [] .done)))))) (.eff (qe 4 (.new 190 [qv 0,qv 0,qv 0]) []) [qL 19 4 1,ql 17 16] (.eff (qa 18 105 [qt 17]) [qL 19 4 1] (.eff (qa 20 106 [qt 19]) [] (.run (qm 3 18) (.eff (qs 3 4 20) [] .done))))))))) [4,3])
 (.seq (.seq (qr [qm 21 3,qp 22 (.len true) [qt 21],qp 23 .mov [qi 0]] [22,23])
 (.block 0 (.loop Z78)))
 (.seq (.seq (qr [qm 35 3,qp 36 (.len true) [qt 35],qp 37 (.slcA 3 1 true false) [qt 4,qt 36],qp 38 (.len false) [qt 37],qp 39 .mov [qi 0]] [37,38,39])
 (.block 2 (.loop Z79)))
 (.seq (qr [qp 2 .mov [qi 0]] [2])
 .ret)))))⟩
theorem K_ins_Check:compF Tryz.prog 81=some X50:=by kernel_rfl
def X09:Fun:=⟨28,[6,0,3,8,9,1,15,21,2],[.tmp 6],
 .seq (qr [qe 3 (.box 56) [qt 0],qp 6 .mov [.const (.bool false)]] [3,6])
 (.seq (.seq (qr [qf 7 0 3,ql 8 7] [8])
 (.block 0 (.seq (qr [qc 10 .eql 8 18,qm 9 10] [9])
 (.cond (qt 9) (.seq (qr [qf 11 1 3,ql 12 11,qm 13 1,qb 14 .lss 12 13,qm 6 14] [6])
 .ret) (.seq (qr [qc 16 .eql 8 19,qm 15 16] [15])
 (.cond (qt 15) (.seq (qr [qf 17 2 3,ql 18 17,qm 19 1,qb 20 .lss 18 19,qm 6 20] [6])
 .ret) (.seq (.seq (qr [qc 22 .eql 8 20,qm 21 22] [21])
 (.cond (qt 21) .skip (qr [qc 23 .eql 8 22,qm 21 23] [21])))
 (.cond (qt 21) (.seq (qr [qf 24 1 3,ql 25 24,qm 26 2,qb 27 .lss 25 26,qm 6 27] [6])
 .ret) .skip))))))))
 (.seq (qr [qp 6 .mov [.const (.bool true)]] [6])
 .ret))⟩
theorem K_prog_leads:compF Tryz.prog 82=some X09:=by kernel_rfl
def Zk:Fun:=⟨10,[2,0,4],[.tmp 2],
 .seq (qr [qp 2 .mov [qi 0]] [2])
 (.seq (.seq (qr [qm 3 0,qp 4 (.eqn false 0) [qt 3]] [4])
 (.cond (qt 4) (.seq (qr [qp 2 .mov [qi 0]] [2])
 .ret) .skip))
 (.seq (qr [qm 5 0,qn 6 5,qf 7 0 6,ql 8 7,qp 9 (.len false) [qt 8],qm 2 9] [2])
 .ret))⟩
theorem Xu:compF Tryz.prog 83=some Zk:=by kernel_rfl
def X51:Fun:=⟨6,[2,0],[.tmp 2],
 .seq (qr [qp 2 .mov [qi 0]] [2])
 (.seq (qr [qm 3 0,qp 4 (.minmax true) [qt 3,qi 0],qp 5 (.minmax false) [qt 4,qi 7],qm 2 5] [2])
 .ret)⟩
theorem K_step_held:compF Tryz.prog 84=some X51:=by kernel_rfl
def Z80:Fun:=⟨9,[4,0,1,2],[.tmp 4],
 .seq (qr [qe 2 (.box 170) [qt 0],qp 4 .mov [qi 0]] [2,4])
 (.seq (qr [qm 5 1,qa 6 84 [qt 5],qp 7 (.ixaA 8 1) [qt 2,qt 6],ql 8 7,qm 4 8] [4])
 .ret)⟩
theorem X74:compF Tryz.prog 85=some Z80:=by kernel_rfl
def X10:Fun:=⟨9,[2,0],[.tmp 2],
 .seq (qr [qp 2 .mov [.const (.bool false)]] [2])
 (.seq (qr [qm 3 0,qc 4 .geq 3 3,qm 5 4,qg 6 5 true (.pur .mov [qt 0]),qg 7 5 true (.pur (.bin .leq) [qt 6,qi 12]),qp 8 .pick [qt 5,qt 7,.const (.bool false)],qm 2 8] [2])
 .ret)⟩
theorem K_wrap_Known:compF Tryz.prog 86=some X10:=by kernel_rfl
def S_wrap_Do:Fun:=⟨61,[6,7,0,8,9,1,2,14,19,24,33,39,45,50,55],[.tmp 6,.tmp 7],
 .seq (qr [qp 6 .mov [qi 0],qp 7 .mov [qi 0]] [6,7])
 (.seq (.seq (qr [qm 8 0] [8])
 (.block 0 (.seq (qr [qc 10 .eql 8 3,qm 9 10] [9])
 (.cond (qt 9) (qr [qm 11 1,qm 12 2,qb 13 .add 11 12,qm 1 13] [1]) (.seq (qr [qc 15 .eql 8 4,qm 14 15] [14])
 (.cond (qt 14) (qr [qm 16 1,qm 17 2,qb 18 .sub 16 17,qm 1 18] [1]) (.seq (qr [qc 20 .eql 8 5,qm 19 20] [19])
 (.cond (qt 19) (qr [qm 21 1,qm 22 2,qb 23 .mul 21 22,qm 1 23] [1]) (.seq (.seq (qr [qc 25 .eql 8 6,qm 24 25] [24])
 (.cond (qt 24) .skip (qr [qc 26 .eql 8 7,qm 24 26] [24])))
 (.cond (qt 24) (.seq (qr [qm 27 0,qm 28 1,qm 29 2,qa 30 108 [qt 27,qt 28,qt 29],qx 31 0 30,qx 32 1 30,qm 6 31,qm 7 32] [6,7])
 .ret) (.seq (qr [qc 34 .eql 8 8,qm 33 34] [33])
 (.cond (qt 33) (qr [qm 35 1,qm 36 2,qb 37 .lss 35 36,qa 38 109 [qt 37],qm 1 38] [1]) (.seq (qr [qc 40 .eql 8 9,qm 39 40] [39])
 (.cond (qt 39) (qr [qm 41 1,qm 42 2,qb 43 .eql 41 42,qa 44 109 [qt 43],qm 1 44] [1]) (.seq (qr [qc 46 .eql 8 10,qm 45 46] [45])
 (.cond (qt 45) (qr [qm 47 1,qm 48 2,qb 49 .and 47 48,qm 1 49] [1]) (.seq (qr [qc 51 .eql 8 11,qm 50 51] [50])
 (.cond (qt 50) (qr [qm 52 1,qm 53 2,qb 54 .or 52 53,qm 1 54] [1]) (.seq (qr [qc 56 .eql 8 12,qm 55 56] [55])
 (.cond (qt 55) (qr [qm 57 1,qm 58 2,qb 59 .xor 57 58,qm 1 59] [1]) (qr [qp 1 .mov [qi 0]] [1])))))))))))))))))))))
 (.seq (qr [qm 60 1,qm 6 60,qp 7 .mov [qi 0]] [6,7])
 .ret))⟩
theorem K_wrap_Do:compF Tryz.prog 87=some S_wrap_Do:=by kernel_rfl
def S_step_of:Fun:=⟨83,[4,0,1,3,2,21,22,6,29,5,34,7,42,51,55,60,63,68,72,76,79],[.cell 4 (some 5)],
 .seq (qr [qe 2 (.box 56) [qt 0],qe 3 (.box 170) [qt 1],qe 4 (.new 152 [qv 0,qv 0,qv 0,qv 0,qv 0]) []] [2,3,4])
 (.seq (.reg (.run (qL 8 8 3) (.run (qf 9 1 2) (.run (ql 10 9) (.run (qL 12 8 3) (.run (qf 13 2 2) (.run (ql 14 13) (.run (qL 16 8 3) (.run (qf 17 3 2) (.run (ql 18 17) (.eff (qa 11 85 [qt 8,qt 10]) [ql 18 17,qL 16 8 3,ql 14 13,qL 12 8 3] (.eff (qa 15 85 [qt 12,qt 14]) [ql 18 17,qL 16 8 3] (.eff (qa 19 85 [qt 16,qt 18]) [] (.run (qm 5 11) (.run (qm 6 15) (.run (qm 7 19) .done))))))))))))))) [5,6,7])
 (.seq (.seq (qr [qf 20 0 2,ql 21 20] [21])
 (.block 0 (.seq (qr [qc 23 .eql 21 13,qm 22 23] [22])
 (.cond (qt 22) (.seq (qr [qm 24 6,qf 25 1 2,ql 26 25,qa 27 84 [qt 26],qp 28 (.bld [qv 0,qv 0,qv 0,qv 0,qv 0] [(0,1),(1,1),(4,1)]) [qi 1,qt 24,qt 27],qs 5 4 28] [])
 .ret) (.seq (qr [qc 30 .eql 21 14,qm 29 30] [29])
 (.cond (qt 29) (.seq (qr [qm 31 5,qm 32 6,qp 33 (.bld [qv 0,qv 0,qv 0,qv 0,qv 0] [(0,1),(1,1),(2,1)]) [qi 2,qt 31,qt 32],qs 5 4 33] [])
 .ret) (.seq (qr [qc 35 .eql 21 15,qm 34 35] [34])
 (.cond (qt 34) (.seq (qr [qm 36 6,qm 37 7,qf 38 1 2,ql 39 38,qa 40 84 [qt 39],qp 41 (.bld [qv 0,qv 0,qv 0,qv 0,qv 0] [(0,1),(1,1),(2,1),(4,1)]) [qi 3,qt 36,qt 37,qt 40],qs 5 4 41] [])
 .ret) (.seq (qr [qc 43 .eql 21 16,qm 42 43] [42])
 (.cond (qt 42) (.seq (qr [qm 44 6,qm 45 5,qm 46 7,qf 47 1 2,ql 48 47,qa 49 84 [qt 48],qp 50 (.bld [qv 0,qv 0,qv 0,qv 0,qv 0] [(0,1),(1,1),(2,1),(3,1),(4,1)]) [qi 4,qt 44,qt 45,qt 46,qt 49],qs 5 4 50] [])
 .ret) (.seq (qr [qc 52 .eql 21 17,qm 51 52] [51])
 (.cond (qt 51) (.seq (qr [qm 53 5,qp 54 (.bld [qv 0,qv 0,qv 0,qv 0,qv 0] [(0,1),(2,1)]) [qi 5,qt 53],qs 5 4 54] [])
 .ret) (.seq (qr [qc 56 .eql 21 20,qm 55 56] [55])
 (.cond (qt 55) (.seq (qr [qf 57 1 2,ql 58 57,qp 59 (.bld [qv 0,qv 0,qv 0,qv 0,qv 0] [(0,1),(2,1)]) [qi 6,qt 58],qs 5 4 59] [])
 .ret) (.seq (qr [qc 61 .eql 21 21,qm 60 61] [60])
 (.cond (qt 60) (.seq (qr [qp 62 (.bld [qv 0,qv 0,qv 0,qv 0,qv 0] [(0,1)]) [qi 7],qs 5 4 62] [])
 .ret) (.seq (qr [qc 64 .eql 21 22,qm 63 64] [63])
 (.cond (qt 63) (.seq (qr [qf 65 1 2,ql 66 65,qp 67 (.bld [qv 0,qv 0,qv 0,qv 0,qv 0] [(0,1),(2,1)]) [qi 8,qt 66],qs 5 4 67] [])
 .ret) (.seq (qr [qc 69 .eql 21 23,qm 68 69] [68])
 (.cond (qt 68) (.seq (qr [qm 70 5,qp 71 (.bld [qv 0,qv 0,qv 0,qv 0,qv 0] [(0,1),(2,1)]) [qi 9,qt 70],qs 5 4 71] [])
 .ret) (.seq (qr [qc 73 .eql 21 24,qm 72 73] [72])
 (.cond (qt 72) (.seq (qr [qm 74 5,qp 75 (.bld [qv 0,qv 0,qv 0,qv 0,qv 0] [(0,1),(2,1)]) [qi 10,qt 74],qs 5 4 75] [])
 .ret) (.seq (qr [qc 77 .eql 21 25,qm 76 77] [76])
 (.cond (qt 76) (.seq (qr [qp 78 (.bld [qv 0,qv 0,qv 0,qv 0,qv 0] [(0,1)]) [qi 11],qs 5 4 78] [])
 .ret) (.seq (qr [qc 80 .eql 21 0,qm 79 80] [79])
 (.cond (qt 79) (.seq (qr [qp 81 (.bld [qv 0,qv 0,qv 0,qv 0,qv 0] [(0,1)]) [qi 12],qs 5 4 81] [])
 .ret) .skip))))))))))))))))))))))))))
 (.seq (qr [qp 82 (.bld [qv 0,qv 0,qv 0,qv 0,qv 0] []) [],qs 5 4 82] [])
 .ret)))⟩
theorem K_step_of:compF Tryz.prog 88=some S_step_of:=by kernel_rfl
def Zl:Fun:=⟨15,[4,5,0,1,6,11],[.tmp 4,.tmp 5],
 .seq (qr [qp 4 .mov [qi 0],qp 5 .mov [.const (.bool false)]] [4,5])
 (.seq (qr [qm 7 0,qm 8 1,qa 9 57 [qt 7,qt 8,.const (.bool false)],qm 6 9] [6])
 (.seq (.seq (qr [qm 10 6,qp 11 (.eqn false 0) [qt 10]] [11])
 (.cond (qt 11) (.seq (qr [qp 4 .mov [qi 0],qp 5 .mov [.const (.bool false)]] [4,5])
 .ret) .skip))
 (.seq (qr [qm 12 6,qn 13 12,ql 14 13,qm 4 14,qp 5 .mov [.const (.bool true)]] [4,5])
 .ret)))⟩
theorem Xv:compF Tryz.prog 89=some Zl:=by kernel_rfl
def ZJ:Fun:=⟨25,[6,7,0,1,8,14,2,9],[.tmp 6,.tmp 7],
 .seq (qr [qp 6 .mov [qi 0],qp 7 .mov [.const (.bool false)]] [6,7])
 (.seq (qr [qm 10 0,qm 11 1,qa 12 57 [qt 10,qt 11,.const (.bool true)],qm 8 12] [8])
 (.seq (.seq (qr [qm 13 8,qp 14 (.eqn false 0) [qt 13]] [14])
 (.cond (qt 14) (.seq (qr [qp 6 .mov [qi 0],qp 7 .mov [.const (.bool false)]] [6,7])
 .ret) .skip))
 (.seq (qr [qm 15 8,qn 16 15,ql 17 16,qm 9 17] [9])
 (.seq (qr [qm 18 8,qn 19 18,ql 20 19,qm 21 2,qb 22 .add 20 21,qn 23 18,qs 1 23 22] [])
 (.seq (qr [qm 24 9,qm 6 24,qp 7 .mov [.const (.bool true)]] [6,7])
 .ret)))))⟩
theorem XV:compF Tryz.prog 90=some ZJ:=by kernel_rfl
def Zm:Fun:=⟨27,[8,9,0,1,10,16,11,2,22,3],[.tmp 8,.tmp 9],
 .seq (qr [qp 8 .mov [qi 0],qp 9 .mov [.const (.bool false)]] [8,9])
 (.seq (qr [qm 12 0,qm 13 1,qa 14 57 [qt 12,qt 13,.const (.bool true)],qm 10 14] [10])
 (.seq (.seq (qr [qm 15 10,qp 16 (.eqn false 0) [qt 15]] [16])
 (.cond (qt 16) (.seq (qr [qp 8 .mov [qi 0],qp 9 .mov [.const (.bool false)]] [8,9])
 .ret) .skip))
 (.seq (qr [qm 17 10,qn 18 17,ql 19 18,qm 11 19] [11])
 (.seq (.seq (qr [qm 20 11,qm 21 2,qb 22 .eql 20 21] [22])
 (.cond (qt 22) (qr [qm 23 10,qm 24 3,qn 25 23,qs 1 25 24] []) .skip))
 (.seq (qr [qm 26 11,qm 8 26,qp 9 .mov [.const (.bool true)]] [8,9])
 .ret)))))⟩
theorem Xw:compF Tryz.prog 91=some Zm:=by kernel_rfl
def X52:Fun:=⟨24,[6,0,1,4,8,9,11,2,17,3],[.cell 6 (some 8)],
 .seq (qr [qe 3 (.box 90) [qt 0],qe 4 (.box 152) [qt 1],qe 6 (.new 90 [qv 0,qv 0,qv 0,qv 0,qv 0,qv 0,qv 0,qv 0]) []] [3,4,6])
 (.seq (.seq (qr [qf 7 0 4,ql 8 7] [8])
 (.block 0 (.seq (.block 2 (.seq (.block 1 (.seq (.seq (.seq (qr [qc 10 .eql 8 4,qm 9 10] [9])
 (.cond (qt 9) (.exit 1) .skip))
 (.seq (.seq (qr [qc 12 .eql 8 1,qm 11 12] [11])
 (.cond (qt 11) .skip (qr [qc 13 .eql 8 3,qm 11 13] [11])))
 (.cond (qt 11) (.exit 2) .skip)))
 (.exit 0)))
 (.seq (qr [qm 14 2,qf 15 2 4,ql 16 15,qb 17 .eql 14 16] [17])
 (.cond (qt 17) (qr [qp 2 .mov [qi 1]] [2]) (qr [qp 2 .mov [qi 0]] [2])))))
 (.seq (qr [qf 18 4 4,ql 19 18,qa 20 84 [qt 19],qm 21 2,qp 22 (.ixaA 8 1) [qt 3,qt 20],qs 1 22 21] [])
 (.exit 0)))))
 (.seq (qr [qL 23 8 3,qs 8 6 23] [])
 .ret))⟩
theorem K_step_Took:compF Tryz.prog 92=some X52:=by kernel_rfl
def X86:Fun:=⟨12,[4,1,0,11],[.tmp 4],
 .seq (qr [qp 4 .mov [qi 0]] [4])
 (.seq (.seq (qr [qm 5 1,qm 6 0,qb 7 .leq 5 6,qm 8 7,qg 9 8 false (.pur .mov [qt 1]),qg 10 8 false (.pur (.bin .gtr) [qt 9,qi 1048575]),qp 11 .pick [qt 8,.const (.bool true),qt 10]] [11])
 (.cond (qt 11) (.seq (qr [qp 4 .mov [qi 3]] [4])
 .ret) .skip))
 (.seq (qr [qp 4 .mov [qi 0]] [4])
 .ret))⟩
theorem K_stage_Go:compF Tryz.prog 93=some X86:=by kernel_rfl
def Zn:Fun:=⟨17,[1,8,0],[],
 .seq (qr [qm 4 1,qn 5 4,qf 6 13 5,ql 7 6,qc 8 .eql 7 0] [8])
 (.cond (qt 8) (.reg (.run (qm 9 0) (.run (qm 11 1) (.run (qn 12 11) (.run (qf 13 3 12) (.run (qL 14 8 13) (.eff (qa 10 110 [qt 9]) [qL 14 8 13] (.run (qn 15 10) (.run (qf 16 3 15) (.eff (qs 8 16 14) [] .done))))))))) []) .skip)⟩
theorem Xx:compF Tryz.prog 94=some Zn:=by kernel_rfl
def ZK:Fun:=⟨31,[2,0,3],[.cell 2 (some 15)],
 .seq (qr [qe 2 (.new 112 [qv 0,qv 0,qv 0,qv 0,qv 0,qv 0,qv 0,qv 0,qv 0,qv 0,qv 0,.bool false,qv 0,qv 0,qv 0]) []] [2])
 (.seq (.reg (.run (qm 4 0) (.run (qn 5 4) (.run (qf 6 2 5) (.run (ql 7 6) (.run (qm 8 0) (.run (qn 9 8) (.run (qf 10 2 9) (.run (ql 11 10) (.run (qp 12 (.len false) [qt 11]) (.run (qc 13 .sub 12 1) (.run (qp 14 (.ixa 15) [qt 7,qt 13]) (.run (qL 15 15 14) (.eff (qe 3 (.new 112 [qv 0,qv 0,qv 0,qv 0,qv 0,qv 0,qv 0,qv 0,qv 0,qv 0,qv 0,.bool false,qv 0,qv 0,qv 0]) []) [qL 15 15 14,ql 11 10,ql 7 6] (.eff (qs 15 3 15) [] .done)))))))))))))) [3])
 (.seq (.reg (.run (qm 16 0) (.run (qm 17 0) (.run (qn 18 17) (.run (qf 19 2 18) (.run (ql 20 19) (.run (qm 21 0) (.run (qn 22 21) (.run (qf 23 2 22) (.run (ql 24 23) (.run (qp 25 (.len false) [qt 24]) (.run (qc 26 .sub 25 1) (.run (qp 27 (.slc 15 false true) [qt 20,qt 26]) (.run (qn 28 16) (.run (qf 29 2 28) (.eff (qs 1 29 27) [] .done))))))))))))))) [])
 (.seq (qr [qL 30 15 3,qs 15 2 30] [])
 .ret)))⟩
theorem XW:compF Tryz.prog 95=some ZK:=by kernel_rfl
def Q55:Fun:=⟨32,[0,2,3],[],
 .seq (qr [qm 4 0,qa 5 58 [qt 4],qm 2 5] [2])
 (.seq (qr [qm 6 2,qn 7 6,qf 8 12 7,ql 9 8,qm 3 9] [3])
 (.seq (qr [qm 10 2,qn 11 10,qf 12 12 11,ql 13 12,qc 14 .add 13 1,qn 15 10,qf 16 12 15,qs 1 16 14] [])
 (.seq (qr [qm 17 0,qm 18 3,qa 19 61 [qt 17,qi 9,qt 18]] [])
 (.reg (.run (qm 20 0) (.run (qm 21 2) (.run (qn 22 21) (.run (qf 23 1 22) (.run (ql 24 23) (.run (qm 25 2) (.run (qn 26 25) (.run (qf 27 3 26) (.run (qL 28 8 27) (.run (qm 29 3) (.run (qp 30 (.bld [qv 0,qv 0,qv 0,qv 0,qv 0,qv 0,qv 0,qv 0,qv 0,qv 0,qv 0,.bool false,qv 0,qv 0,qv 0] [(0,1),(1,1),(3,8),(12,1)]) [qi 2,qt 24,qt 28,qt 29]) (.eff (qa 31 36 [qt 20,qt 30]) [] .done)))))))))))) []))))⟩
theorem Z34:compF Tryz.prog 96=some Q55:=by kernel_rfl
def X87:Fun:=⟨48,[2,0,4,15,22,29,32,35,38,3],[.tmp 2],
 .seq (qr [qp 2 .mov [.const (.string ⟨#[]⟩)]] [2])
 (.seq (qr [qp 3 .mov [.const (.string ⟨#[]⟩)]] [3])
 (.seq (.block 0 (.seq (.block 7 (.seq (.block 6 (.seq (.block 5 (.seq (.block 4 (.seq (.block 3 (.seq (.block 2 (.seq (.block 1 (.seq (.seq (.seq (.seq (qr [qm 5 0,qc 6 .geq 5 3,qm 7 6,qg 8 7 true (.pur .mov [qt 0]),qg 9 7 true (.pur (.bin .leq) [qt 8,qi 12]),qp 10 .pick [qt 7,qt 9,.const (.bool false)],qm 4 10] [4])
 (.cond (qt 4) .skip (.seq (qr [qm 11 0,qc 12 .eql 11 15,qm 4 12] [4])
 (.cond (qt 4) .skip (qr [qm 13 0,qc 14 .eql 13 16,qm 4 14] [4])))))
 (.cond (qt 4) (.exit 1) .skip))
 (.seq (.seq (.seq (qr [qm 16 0,qc 17 .eql 16 2,qm 15 17] [15])
 (.cond (qt 15) .skip (.seq (qr [qm 18 0,qc 19 .eql 18 13,qm 15 19] [15])
 (.cond (qt 15) .skip (qr [qm 20 0,qc 21 .eql 20 14,qm 15 21] [15])))))
 (.cond (qt 15) (.exit 2) .skip))
 (.seq (.seq (.seq (qr [qm 23 0,qc 24 .eql 23 17,qm 22 24] [22])
 (.cond (qt 22) .skip (.seq (qr [qm 25 0,qc 26 .eql 25 23,qm 22 26] [22])
 (.cond (qt 22) .skip (qr [qm 27 0,qc 28 .eql 27 24,qm 22 28] [22])))))
 (.cond (qt 22) (.exit 3) .skip))
 (.seq (.seq (qr [qm 30 0,qc 31 .eql 30 1,qm 29 31] [29])
 (.cond (qt 29) (.exit 4) .skip))
 (.seq (.seq (qr [qm 33 0,qc 34 .eql 33 19,qm 32 34] [32])
 (.cond (qt 32) (.exit 5) .skip))
 (.seq (.seq (qr [qm 36 0,qc 37 .eql 36 18,qm 35 37] [35])
 (.cond (qt 35) (.exit 6) .skip))
 (.seq (.seq (qr [qm 39 0,qc 40 .eql 39 20,qm 38 40] [38])
 (.cond (qt 38) .skip (qr [qm 41 0,qc 42 .eql 41 22,qm 38 42] [38])))
 (.cond (qt 38) (.exit 7) .skip))))))))
 (.exit 0)))
 (qr [qp 3 .mov [.const (.string ⟨#[114]⟩)]] [3])))
 (qr [qm 43 3,qp 44 (.bin .add) [qt 43,.const (.string ⟨#[114]⟩)],qm 3 44] [3])))
 (.seq (qr [qm 45 3,qp 46 (.bin .add) [qt 45,.const (.string ⟨#[114]⟩)],qm 3 46] [3])
 (.exit 0))))
 (.seq (qr [qp 3 .mov [.const (.string ⟨#[114,110]⟩)]] [3])
 (.exit 0))))
 (.seq (qr [qp 3 .mov [.const (.string ⟨#[114,116]⟩)]] [3])
 (.exit 0))))
 (.seq (qr [qp 3 .mov [.const (.string ⟨#[116]⟩)]] [3])
 (.exit 0))))
 (.seq (qr [qp 3 .mov [.const (.string ⟨#[102]⟩)]] [3])
 (.exit 0))))
 (.seq (qr [qm 47 3,qm 2 47] [2])
 .ret)))⟩
theorem K_ins_Form:compF Tryz.prog 105=some X87:=by kernel_rfl
def X11:Fun:=⟨10,[2,0,1],[.cell 2 (some 3)],
 .seq (qr [qe 1 (.box 56) [qt 0],qe 2 (.new 190 [qv 0,qv 0,qv 0]) []] [1,2])
 (.seq (qr [qf 3 1 1,ql 4 3,qf 5 2 1,ql 6 5,qf 7 3 1,ql 8 7,qp 9 (.bld [qv 0,qv 0,qv 0] [(0,1),(1,1),(2,1)]) [qt 4,qt 6,qt 8],qs 3 2 9] [])
 .ret)⟩
theorem K_ins_fields:compF Tryz.prog 106=some X11:=by kernel_rfl
def X88:Fun:=⟨36,[4,0,5,6,1,14,22],[.tmp 4],
 .seq (qr [qp 4 .mov [.const (.bool false)]] [4])
 (.seq (.seq (qr [qm 5 0] [5])
 (.block 0 (.seq (qr [qp 7 (.bin .eql) [qt 5,.const (.int .u8 114)],qm 6 7] [6])
 (.cond (qt 6) (.seq (qr [qm 8 1,qc 9 .geq 8 0,qm 10 9,qg 11 10 true (.pur .mov [qt 1]),qg 12 10 true (.pur (.bin .leq) [qt 11,qi 7]),qp 13 .pick [qt 10,qt 12,.const (.bool false)],qm 4 13] [4])
 .ret) (.seq (qr [qp 15 (.bin .eql) [qt 5,.const (.int .u8 102)],qm 14 15] [14])
 (.cond (qt 14) (.seq (qr [qm 16 1,qc 17 .geq 16 0,qm 18 17,qg 19 18 true (.pur .mov [qt 1]),qg 20 18 true (.pur (.bin .leq) [qt 19,qi 15]),qp 21 .pick [qt 18,qt 20,.const (.bool false)],qm 4 21] [4])
 .ret) (.seq (qr [qp 23 (.bin .eql) [qt 5,.const (.int .u8 116)],qm 22 23] [22])
 (.cond (qt 22) (.seq (qr [qm 24 1,qc 25 .geq 24 0,qm 26 25,qg 27 26 true (.pur .mov [qt 1]),qg 28 26 true (.pur (.bin .leq) [qt 27,qi 199]),qp 29 .pick [qt 26,qt 28,.const (.bool false)],qm 4 29] [4])
 .ret) .skip))))))))
 (.seq (qr [qm 30 1,qc 31 .geq 30 (-32768),qm 32 31,qg 33 32 true (.pur .mov [qt 1]),qg 34 32 true (.pur (.bin .leq) [qt 33,qi 32767]),qp 35 .pick [qt 32,qt 34,.const (.bool false)],qm 4 35] [4])
 .ret))⟩
theorem K_ins_fits:compF Tryz.prog 107=some X88:=by kernel_rfl
def Xy:Fun:=⟨20,[6,7,2,8,0,11,1],[.tmp 6,.tmp 7],
 .seq (qr [qp 6 .mov [qi 0],qp 7 .mov [qi 0]] [6,7])
 (.seq (.block 0 (.seq (qr [qm 9 2,qc 10 .eql 9 0,qm 8 10] [8])
 (.cond (qt 8) (.seq (qr [qp 6 .mov [qi 0],qp 7 .mov [qi 1]] [6,7])
 .ret) (.seq (qr [qm 12 0,qc 13 .eql 12 6,qm 11 13] [11])
 (.cond (qt 11) (.seq (qr [qm 14 1,qm 15 2,qb 16 .quo 14 15,qm 6 16,qp 7 .mov [qi 0]] [6,7])
 .ret) .skip)))))
 (.seq (qr [qm 17 1,qm 18 2,qb 19 .rem 17 18,qm 6 19,qp 7 .mov [qi 0]] [6,7])
 .ret))⟩
theorem Yd:compF Tryz.prog 108=some Xy:=by kernel_rfl
def X89:Fun:=⟨4,[2,0,3],[.tmp 2],
 .seq (qr [qp 2 .mov [qi 0]] [2])
 (.seq (.seq (qr [qm 3 0] [3])
 (.cond (qt 3) (.seq (qr [qp 2 .mov [qi 1]] [2])
 .ret) .skip))
 (.seq (qr [qp 2 .mov [qi 0]] [2])
 .ret))⟩
theorem K_wrap_yes:compF Tryz.prog 109=some X89:=by kernel_rfl
def Q65:Fun:=⟨14,[2,0],[.tmp 2],
 .seq (qr [qp 2 .mov [.const (.pointer none)]] [2])
 (.seq (qr [qm 3 0,qn 4 3,qf 5 2 4,ql 6 5,qm 7 0,qn 8 7,qf 9 2 8,ql 10 9,qp 11 (.len false) [qt 10],qc 12 .sub 11 2,qp 13 (.ixa 15) [qt 6,qt 12],qm 2 13] [2])
 .ret)⟩
theorem Z63:compF Tryz.prog 110=some Q65:=by kernel_rfl
def Q66:SCode:=
 .seq (.seq (qr [qm 77 13,qc 78 .lss 77 64] [78])
 (.cond (qt 78) .skip (.exit 1)))
 (.seq (.block 2 (.seq (qr [qm 81 8,qm 82 13,qa 83 104 [qt 81,qt 82],qp 84 (.bin .eql) [qt 83,.const (.int .u64 1)],qm 85 9,qm 86 13,qa 87 104 [qt 85,qt 86],qp 88 (.bin .eql) [qt 87,.const (.int .u64 1)],qm 14 84,qm 15 88] [14,15])
 (.seq (qr [qm 89 0,qc 90 .eql 89 10,qm 91 90,qg 92 91 true (.pur .mov [qt 14]),qp 93 .pick [qt 91,qt 92,.const (.bool false)],qm 94 93,qg 95 94 true (.pur .mov [qt 15]),qp 96 .pick [qt 94,qt 95,.const (.bool false)],qm 97 96,qg 98 97 false (.pur .mov [qt 0]),qg 99 97 false (.pur (.bin .eql) [qt 98,qi 11]),qg 100 97 false (.pur .mov [qt 99]),qg 101 100 true (.pur .mov [qt 14]),qg 102 100 true (.pur .mov [qt 101]),qg 103 102 false (.pur .mov [qt 15]),qg 104 100 true (.pur .pick [qt 102,.const (.bool true),qt 103]),qg 105 97 false (.pur .pick [qt 100,qt 104,.const (.bool false)]),qp 106 .pick [qt 97,.const (.bool true),qt 105],qm 107 106,qg 108 107 false (.pur .mov [qt 0]),qg 109 107 false (.pur (.bin .eql) [qt 108,qi 12]),qg 110 107 false (.pur .mov [qt 109]),qg 111 110 true (.pur .mov [qt 14]),qg 112 110 true (.pur .mov [qt 15]),qg 113 110 true (.pur (.eqb true) [qt 111,qt 112]),qg 114 107 false (.pur .pick [qt 110,qt 113,.const (.bool false)]),qp 115 .pick [qt 107,.const (.bool true),qt 114]] [115])
 (.cond (qt 115) (qr [qm 116 10,qm 117 13,qp 118 (.bin .shl) [.const (.int .u64 1),qt 117],qb 119 .or 116 118,qm 10 119] [10]) .skip))))
 (qr [qm 79 13,qc 80 .add 79 1,qm 13 80] [13]))
def ZM:Fun:=⟨122,[6,7,1,2,0,20,21,8,9,27,35,41,45,55,11,12,67,71,72,76,13,78,14,15,115,10],[.tmp 6,.tmp 7],
 .seq (qr [qp 6 .mov [qi 0],qp 7 .mov [qi 0]] [6,7])
 (.seq (qr [qm 16 1,qp 17 (.toInt .u64) [qt 16],qm 18 2,qp 19 (.toInt .u64) [qt 18],qm 8 17,qm 9 19] [8,9])
 (.seq (qr [qp 10 .mov [.const (.int .u64 0)]] [10])
 (.seq (.seq (qr [qm 20 0] [20])
 (.block 0 (.seq (qr [qc 22 .eql 20 3,qm 21 22] [21])
 (.cond (qt 21) (.seq (qr [qm 23 8,qm 24 9,qa 25 99 [qt 23,qt 24],qp 26 (.toInt .i64) [qt 25],qm 6 26,qp 7 .mov [qi 0]] [6,7])
 .ret) (.seq (qr [qc 28 .eql 20 4,qm 27 28] [27])
 (.cond (qt 27) (.seq (qr [qm 29 8,qm 30 9,qp 31 .cpl [qt 30],qa 32 99 [qt 29,qt 31],qa 33 99 [qt 32,.const (.int .u64 1)],qp 34 (.toInt .i64) [qt 33],qm 6 34,qp 7 .mov [qi 0]] [6,7])
 .ret) (.seq (qr [qc 36 .eql 20 5,qm 35 36] [35])
 (.cond (qt 35) (.seq (qr [qm 37 8,qm 38 9,qa 39 100 [qt 37,qt 38],qp 40 (.toInt .i64) [qt 39],qm 6 40,qp 7 .mov [qi 0]] [6,7])
 .ret) (.seq (.seq (qr [qc 42 .eql 20 6,qm 41 42] [41])
 (.cond (qt 41) .skip (qr [qc 43 .eql 20 7,qm 41 43] [41])))
 (.cond (qt 41) (.seq (.seq (qr [qm 44 2,qc 45 .eql 44 0] [45])
 (.cond (qt 45) (.seq (qr [qp 6 .mov [qi 0],qp 7 .mov [qi 1]] [6,7])
 .ret) .skip))
 (.seq (qr [qm 47 1,qa 48 102 [qt 47],qm 49 2,qa 50 102 [qt 49],qa 51 101 [qt 48,qt 50],qm 46 51,qx 52 0 46,qx 53 1 46,qm 11 52,qm 12 53] [11,12])
 (.seq (.seq (qr [qm 54 0,qc 55 .eql 54 6] [55])
 (.cond (qt 55) (.seq (qr [qm 56 11,qm 57 1,qc 58 .lss 57 0,qm 59 2,qc 60 .lss 59 0,qp 61 (.eqb true) [qt 58,qt 60],qa 62 103 [qt 56,qt 61],qm 6 62,qp 7 .mov [qi 0]] [6,7])
 .ret) .skip))
 (.seq (qr [qm 63 12,qm 64 1,qc 65 .lss 64 0,qa 66 103 [qt 63,qt 65],qm 6 66,qp 7 .mov [qi 0]] [6,7])
 .ret)))) (.seq (qr [qc 68 .eql 20 8,qm 67 68] [67])
 (.cond (qt 67) (.seq (.seq (qr [qm 69 1,qm 70 2,qb 71 .lss 69 70] [71])
 (.cond (qt 71) (.seq (qr [qp 6 .mov [qi 1],qp 7 .mov [qi 0]] [6,7])
 .ret) .skip))
 (.seq (qr [qp 6 .mov [qi 0],qp 7 .mov [qi 0]] [6,7])
 .ret)) (.seq (qr [qc 73 .eql 20 9,qm 72 73] [72])
 (.cond (qt 72) (.seq (.seq (qr [qm 74 1,qm 75 2,qb 76 .eql 74 75] [76])
 (.cond (qt 76) (.seq (qr [qp 6 .mov [qi 1],qp 7 .mov [qi 0]] [6,7])
 .ret) .skip))
 (.seq (qr [qp 6 .mov [qi 0],qp 7 .mov [qi 0]] [6,7])
 .ret)) .skip))))))))))))))
 (.seq (.seq (qr [qp 13 .mov [qi 0]] [13])
 (.block 1 (.loop Q66)))
 (.seq (qr [qm 120 10,qp 121 (.toInt .i64) [qt 120],qm 6 121,qp 7 .mov [qi 0]] [6,7])
 .ret)))))⟩
theorem XX:compF Tryz.prog 78=some ZM:=by kernel_rfl
def Q56:SCode:=
 .seq (.seq (qr [qm 9 7,qc 10 .lss 9 64] [10])
 (.cond (qt 10) .skip (.exit 0)))
 (.seq (.block 1 (.seq (qr [qm 13 0,qm 14 7,qa 15 104 [qt 13,qt 14],qm 16 1,qm 17 7,qa 18 104 [qt 16,qt 17],qb 19 .add 15 18,qm 20 6,qb 21 .add 19 20,qm 8 21] [8])
 (.seq (qr [qm 22 5,qm 23 8,qp 24 (.bin .and) [qt 23,.const (.int .u64 1)],qm 25 7,qb 26 .shl 24 25,qb 27 .or 22 26,qm 5 27] [5])
 (qr [qm 28 8,qp 29 (.bin .shr) [qt 28,.const (.int .u64 1)],qm 6 29] [6]))))
 (qr [qm 11 7,qc 12 .add 11 1,qm 7 12] [7]))
def Zp:Fun:=⟨31,[4,7,10,0,1,6,5,8],[.tmp 4],
 .seq (qr [qp 4 .mov [.const (.int .u64 0)]] [4])
 (.seq (qr [qp 5 .mov [.const (.int .u64 0)],qp 6 .mov [.const (.int .u64 0)]] [5,6])
 (.seq (.seq (qr [qp 7 .mov [qi 0]] [7])
 (.block 0 (.loop Q56)))
 (.seq (qr [qm 30 5,qm 4 30] [4])
 .ret)))⟩
theorem Xz:compF Tryz.prog 99=some Zp:=by kernel_rfl
def Q22:SCode:=
 .seq (.seq (qr [qm 7 6,qc 8 .lss 7 64] [8])
 (.cond (qt 8) .skip (.exit 0)))
 (.seq (.block 1 (.seq (qr [qm 11 1,qm 12 6,qa 13 104 [qt 11,qt 12],qp 14 (.bin .eql) [qt 13,.const (.int .u64 1)]] [14])
 (.cond (qt 14) (qr [qm 15 5,qm 16 0,qm 17 6,qb 18 .shl 16 17,qa 19 99 [qt 15,qt 18],qm 5 19] [5]) .skip)))
 (qr [qm 9 6,qc 10 .add 9 1,qm 6 10] [6]))
def Q67:Fun:=⟨21,[4,6,8,1,14,5,0],[.tmp 4],
 .seq (qr [qp 4 .mov [.const (.int .u64 0)]] [4])
 (.seq (qr [qp 5 .mov [.const (.int .u64 0)]] [5])
 (.seq (.seq (qr [qp 6 .mov [qi 0]] [6])
 (.block 0 (.loop Q22)))
 (.seq (qr [qm 20 5,qm 4 20] [4])
 .ret)))⟩
theorem Z64:compF Tryz.prog 100=some Q67:=by kernel_rfl
def Q43:SCode:=
 .seq (.seq (qr [qm 10 8,qc 11 .geq 10 0] [11])
 (.cond (qt 11) .skip (.exit 0)))
 (.seq (.block 1 (.seq (qr [qm 14 7,qp 15 (.bin .shr) [qt 14,.const (.int .u64 63)],qm 9 15] [9])
 (.seq (qr [qm 16 7,qp 17 (.bin .shl) [qt 16,.const (.int .u64 1)],qm 18 0,qm 19 8,qa 20 104 [qt 18,qt 19],qb 21 .or 17 20,qm 7 21] [7])
 (.seq (qr [qm 22 9,qp 23 (.bin .eql) [qt 22,.const (.int .u64 1)],qm 24 23,qg 25 24 false (.pur .mov [qt 7]),qg 26 24 false (.pur .mov [qt 1]),qg 27 24 false (.pur (.bin .geq) [qt 25,qt 26]),qp 28 .pick [qt 24,.const (.bool true),qt 27]] [28])
 (.cond (qt 28) (.seq (qr [qm 29 7,qm 30 1,qb 31 .sub 29 30,qm 7 31] [7])
 (qr [qm 32 6,qm 33 8,qp 34 (.bin .shl) [.const (.int .u64 1),qt 33],qb 35 .or 32 34,qm 6 35] [6])) .skip)))))
 (qr [qm 12 8,qc 13 .sub 12 1,qm 8 13] [8]))
def Q90:Fun:=⟨38,[4,5,8,11,7,0,9,1,28,6],[.tmp 4,.tmp 5],
 .seq (qr [qp 4 .mov [.const (.int .u64 0)],qp 5 .mov [.const (.int .u64 0)]] [4,5])
 (.seq (qr [qp 6 .mov [.const (.int .u64 0)],qp 7 .mov [.const (.int .u64 0)]] [6,7])
 (.seq (.seq (qr [qp 8 .mov [qi 63]] [8])
 (.block 0 (.loop Q43)))
 (.seq (qr [qm 36 6,qm 37 7,qm 4 36,qm 5 37] [4,5])
 .ret)))⟩
theorem Z94:compF Tryz.prog 101=some Q90:=by kernel_rfl
def Q91:Fun:=⟨11,[2,0,4],[.tmp 2],
 .seq (qr [qp 2 .mov [.const (.int .u64 0)]] [2])
 (.seq (.seq (qr [qm 3 0,qc 4 .lss 3 0] [4])
 (.cond (qt 4) (.seq (qr [qm 5 0,qp 6 (.toInt .u64) [qt 5],qp 7 .cpl [qt 6],qa 8 99 [qt 7,.const (.int .u64 1)],qm 2 8] [2])
 .ret) .skip))
 (.seq (qr [qm 9 0,qp 10 (.toInt .u64) [qt 9],qm 2 10] [2])
 .ret))⟩
theorem Z95:compF Tryz.prog 102=some Q91:=by kernel_rfl
def Q57:Fun:=⟨12,[4,1,5,0],[.tmp 4],
 .seq (qr [qp 4 .mov [qi 0]] [4])
 (.seq (.seq (qr [qm 5 1] [5])
 (.cond (qt 5) (.seq (qr [qm 6 0,qp 7 .cpl [qt 6],qa 8 99 [qt 7,.const (.int .u64 1)],qp 9 (.toInt .i64) [qt 8],qm 4 9] [4])
 .ret) .skip))
 (.seq (qr [qm 10 0,qp 11 (.toInt .i64) [qt 10],qm 4 11] [4])
 .ret))⟩
theorem Z37:compF Tryz.prog 103=some Q57:=by kernel_rfl
def Zq:Fun:=⟨9,[4,0,1],[.tmp 4],
 .seq (qr [qp 4 .mov [.const (.int .u64 0)]] [4])
 (.seq (qr [qm 5 0,qm 6 1,qb 7 .shr 5 6,qp 8 (.bin .and) [qt 7,.const (.int .u64 1)],qm 4 8] [4])
 .ret)⟩
theorem XA:compF Tryz.prog 104=some Zq:=by kernel_rfl
def ZN:Fun:=⟨223,[6,7,8,9,0,2,3,5,29,30,1,13,36,10,14,46,11,57,12,16,81,15,93,103,115,128,144,153,159,164,173,181,187,195,204,213],[.tmp 6,.cell 7 (some 8),.cell 8 (some 5),.tmp 9],
 .seq (qr [qe 3 (.box 56) [qt 0],qe 5 (.box 90) [qt 2],qp 6 .mov [qi 0],qe 7 (.new 90 [qv 0,qv 0,qv 0,qv 0,qv 0,qv 0,qv 0,qv 0]) [],qe 8 (.new 132 [qv 0,qv 0,qv 0,qv 0,qv 0]) [],qp 9 .mov [qi 0]] [3,5,6,7,8,9])
 (.seq (.reg (.run (qf 17 1 3) (.run (ql 18 17) (.run (qf 20 2 3) (.run (ql 21 20) (.run (qf 23 3 3) (.run (ql 24 23) (.eff (qa 19 77 [qt 18]) [ql 24 23,ql 21 20] (.eff (qa 22 77 [qt 21]) [ql 24 23] (.eff (qa 25 77 [qt 24]) [] (.run (qm 10 19) (.run (qm 11 22) (.run (qm 12 25) .done)))))))))))) [10,11,12])
 (.seq (qr [qL 26 8 5,qe 13 (.new 90 [qv 0,qv 0,qv 0,qv 0,qv 0,qv 0,qv 0,qv 0]) [],qs 8 13 26] [13])
 (.seq (qr [qp 27 (.bld [qv 0,qv 0,qv 0,qv 0,qv 0] []) [],qe 14 (.new 132 [qv 0,qv 0,qv 0,qv 0,qv 0]) [],qs 5 14 27] [14])
 (.seq (.seq (qr [qf 28 0 3,ql 29 28] [29])
 (.block 0 (.seq (qr [qc 31 .eql 29 0,qm 30 31] [30])
 (.cond (qt 30) (.seq (.reg (.run (qm 32 1) (.run (qc 33 .add 32 1) (.run (qL 34 8 13) (.run (qp 35 (.bld [qv 0,qv 0,qv 0,qv 0,qv 0] [(0,1)]) [qi 12]) (.run (qm 6 33) (.eff (qs 8 7 34) [] (.eff (qs 5 8 35) [] (.run (qp 9 .mov [qi 0]) .done)))))))) [6,9])
 .ret) (.seq (qr [qc 37 .eql 29 1,qm 36 37] [36])
 (.cond (qt 36) (.seq (qr [qm 38 10,qf 39 2 3,ql 40 39,qp 41 (.ixaA 8 1) [qt 13,qt 38],qs 1 41 40] [])
 (.seq (.reg (.run (qm 42 1) (.run (qc 43 .add 42 1) (.run (qL 44 8 13) (.run (qL 45 5 14) (.run (qm 6 43) (.eff (qs 8 7 44) [qL 45 5 14] (.eff (qs 5 8 45) [] (.run (qp 9 .mov [qi 0]) .done)))))))) [6,9])
 .ret)) (.seq (qr [qc 47 .eql 29 2,qm 46 47] [46])
 (.cond (qt 46) (.seq (qr [qm 48 10,qm 49 11,qp 50 (.ixaA 8 1) [qt 5,qt 49],ql 51 50,qp 52 (.ixaA 8 1) [qt 13,qt 48],qs 1 52 51] [])
 (.seq (.reg (.run (qm 53 1) (.run (qc 54 .add 53 1) (.run (qL 55 8 13) (.run (qL 56 5 14) (.run (qm 6 54) (.eff (qs 8 7 55) [qL 56 5 14] (.eff (qs 5 8 56) [] (.run (qp 9 .mov [qi 0]) .done)))))))) [6,9])
 .ret)) (.seq (.seq (qr [qc 58 .eql 29 3,qm 57 58] [57])
 (.cond (qt 57) .skip (.seq (qr [qc 59 .eql 29 4,qm 57 59] [57])
 (.cond (qt 57) .skip (.seq (qr [qc 60 .eql 29 5,qm 57 60] [57])
 (.cond (qt 57) .skip (.seq (qr [qc 61 .eql 29 6,qm 57 61] [57])
 (.cond (qt 57) .skip (.seq (qr [qc 62 .eql 29 7,qm 57 62] [57])
 (.cond (qt 57) .skip (.seq (qr [qc 63 .eql 29 8,qm 57 63] [57])
 (.cond (qt 57) .skip (.seq (qr [qc 64 .eql 29 9,qm 57 64] [57])
 (.cond (qt 57) .skip (.seq (qr [qc 65 .eql 29 10,qm 57 65] [57])
 (.cond (qt 57) .skip (.seq (qr [qc 66 .eql 29 11,qm 57 66] [57])
 (.cond (qt 57) .skip (qr [qc 67 .eql 29 12,qm 57 67] [57])))))))))))))))))))
 (.cond (qt 57) (.seq (.reg (.run (qf 69 0 3) (.run (ql 70 69) (.run (qm 71 11) (.run (qp 72 (.ixaA 8 1) [qt 5,qt 71]) (.run (ql 73 72) (.run (qm 74 12) (.run (qp 75 (.ixaA 8 1) [qt 5,qt 74]) (.run (ql 76 75) (.eff (qa 77 78 [qt 70,qt 73,qt 76]) [] (.run (qm 68 77) (.run (qx 78 0 68) (.run (qx 79 1 68) (.run (qm 15 78) (.run (qm 16 79) .done)))))))))))))) [15,16])
 (.seq (.seq (qr [qm 80 16,qc 81 .neq 80 0] [81])
 (.cond (qt 81) (.seq (.reg (.run (qm 82 1) (.run (qL 83 8 5) (.run (qL 84 5 14) (.run (qm 85 16) (.run (qm 6 82) (.eff (qs 8 7 83) [qL 84 5 14] (.eff (qs 5 8 84) [] (.run (qm 9 85) .done)))))))) [6,9])
 .ret) .skip))
 (.seq (qr [qm 86 10,qm 87 15,qp 88 (.ixaA 8 1) [qt 13,qt 86],qs 1 88 87] [])
 (.seq (.reg (.run (qm 89 1) (.run (qc 90 .add 89 1) (.run (qL 91 8 13) (.run (qL 92 5 14) (.run (qm 6 90) (.eff (qs 8 7 91) [qL 92 5 14] (.eff (qs 5 8 92) [] (.run (qp 9 .mov [qi 0]) .done)))))))) [6,9])
 .ret)))) (.seq (qr [qc 94 .eql 29 13,qm 93 94] [93])
 (.cond (qt 93) (.seq (.reg (.run (qm 95 1) (.run (qc 96 .add 95 1) (.run (qL 97 8 13) (.run (qm 98 11) (.run (qp 99 (.ixaA 8 1) [qt 5,qt 98]) (.run (ql 100 99) (.run (qm 101 10) (.run (qp 102 (.bld [qv 0,qv 0,qv 0,qv 0,qv 0] [(0,1),(1,1),(2,1),(3,1),(4,1)]) [qi 1,qt 100,qi 0,qi 0,qt 101]) (.run (qm 6 96) (.eff (qs 8 7 97) [ql 100 99] (.eff (qs 5 8 102) [] (.run (qp 9 .mov [qi 0]) .done)))))))))))) [6,9])
 .ret) (.seq (qr [qc 104 .eql 29 14,qm 103 104] [103])
 (.cond (qt 103) (.seq (.reg (.run (qm 105 1) (.run (qc 106 .add 105 1) (.run (qL 107 8 13) (.run (qm 108 10) (.run (qp 109 (.ixaA 8 1) [qt 5,qt 108]) (.run (ql 110 109) (.run (qm 111 11) (.run (qp 112 (.ixaA 8 1) [qt 5,qt 111]) (.run (ql 113 112) (.run (qp 114 (.bld [qv 0,qv 0,qv 0,qv 0,qv 0] [(0,1),(1,1),(2,1),(3,1),(4,1)]) [qi 2,qt 110,qt 113,qi 0,qi 0]) (.run (qm 6 106) (.eff (qs 8 7 107) [ql 113 112,ql 110 109] (.eff (qs 5 8 114) [] (.run (qp 9 .mov [qi 0]) .done)))))))))))))) [6,9])
 .ret) (.seq (qr [qc 116 .eql 29 15,qm 115 116] [115])
 (.cond (qt 115) (.seq (.reg (.run (qm 117 1) (.run (qc 118 .add 117 1) (.run (qL 119 8 13) (.run (qm 120 11) (.run (qp 121 (.ixaA 8 1) [qt 5,qt 120]) (.run (ql 122 121) (.run (qm 123 12) (.run (qp 124 (.ixaA 8 1) [qt 5,qt 123]) (.run (ql 125 124) (.run (qm 126 10) (.run (qp 127 (.bld [qv 0,qv 0,qv 0,qv 0,qv 0] [(0,1),(1,1),(2,1),(3,1),(4,1)]) [qi 3,qt 122,qt 125,qi 0,qt 126]) (.run (qm 6 118) (.eff (qs 8 7 119) [ql 125 124,ql 122 121] (.eff (qs 5 8 127) [] (.run (qp 9 .mov [qi 0]) .done))))))))))))))) [6,9])
 .ret) (.seq (qr [qc 129 .eql 29 16,qm 128 129] [128])
 (.cond (qt 128) (.seq (.reg (.run (qm 130 1) (.run (qc 131 .add 130 1) (.run (qL 132 8 13) (.run (qm 133 11) (.run (qp 134 (.ixaA 8 1) [qt 5,qt 133]) (.run (ql 135 134) (.run (qm 136 10) (.run (qp 137 (.ixaA 8 1) [qt 5,qt 136]) (.run (ql 138 137) (.run (qm 139 12) (.run (qp 140 (.ixaA 8 1) [qt 5,qt 139]) (.run (ql 141 140) (.run (qm 142 10) (.run (qp 143 (.bld [qv 0,qv 0,qv 0,qv 0,qv 0] [(0,1),(1,1),(2,1),(3,1),(4,1)]) [qi 4,qt 135,qt 138,qt 141,qt 142]) (.run (qm 6 131) (.eff (qs 8 7 132) [ql 141 140,ql 138 137,ql 135 134] (.eff (qs 5 8 143) [] (.run (qp 9 .mov [qi 0]) .done)))))))))))))))))) [6,9])
 .ret) (.seq (qr [qc 145 .eql 29 17,qm 144 145] [144])
 (.cond (qt 144) (.seq (.reg (.run (qm 146 1) (.run (qc 147 .add 146 1) (.run (qL 148 8 13) (.run (qm 149 10) (.run (qp 150 (.ixaA 8 1) [qt 5,qt 149]) (.run (ql 151 150) (.run (qp 152 (.bld [qv 0,qv 0,qv 0,qv 0,qv 0] [(0,1),(2,1)]) [qi 5,qt 151]) (.run (qm 6 147) (.eff (qs 8 7 148) [ql 151 150] (.eff (qs 5 8 152) [] (.run (qp 9 .mov [qi 0]) .done))))))))))) [6,9])
 .ret) (.seq (qr [qc 154 .eql 29 18,qm 153 154] [153])
 (.cond (qt 153) (.seq (.reg (.run (qf 155 1 3) (.run (ql 156 155) (.run (qL 157 8 13) (.run (qL 158 5 14) (.run (qm 6 156) (.eff (qs 8 7 157) [qL 158 5 14] (.eff (qs 5 8 158) [] (.run (qp 9 .mov [qi 0]) .done)))))))) [6,9])
 .ret) (.seq (qr [qc 160 .eql 29 19,qm 159 160] [159])
 (.cond (qt 159) (.seq (.seq (qr [qm 161 10,qp 162 (.ixaA 8 1) [qt 5,qt 161],ql 163 162,qc 164 .eql 163 0] [164])
 (.cond (qt 164) (.seq (.reg (.run (qf 165 2 3) (.run (ql 166 165) (.run (qL 167 8 13) (.run (qL 168 5 14) (.run (qm 6 166) (.eff (qs 8 7 167) [qL 168 5 14] (.eff (qs 5 8 168) [] (.run (qp 9 .mov [qi 0]) .done)))))))) [6,9])
 .ret) .skip))
 (.seq (.reg (.run (qm 169 1) (.run (qc 170 .add 169 1) (.run (qL 171 8 13) (.run (qL 172 5 14) (.run (qm 6 170) (.eff (qs 8 7 171) [qL 172 5 14] (.eff (qs 5 8 172) [] (.run (qp 9 .mov [qi 0]) .done)))))))) [6,9])
 .ret)) (.seq (qr [qc 174 .eql 29 20,qm 173 174] [173])
 (.cond (qt 173) (.seq (.reg (.run (qm 175 1) (.run (qc 176 .add 175 1) (.run (qL 177 8 13) (.run (qf 178 1 3) (.run (ql 179 178) (.run (qp 180 (.bld [qv 0,qv 0,qv 0,qv 0,qv 0] [(0,1),(2,1)]) [qi 6,qt 179]) (.run (qm 6 176) (.eff (qs 8 7 177) [ql 179 178] (.eff (qs 5 8 180) [] (.run (qp 9 .mov [qi 0]) .done)))))))))) [6,9])
 .ret) (.seq (qr [qc 182 .eql 29 21,qm 181 182] [181])
 (.cond (qt 181) (.seq (.reg (.run (qm 183 1) (.run (qc 184 .add 183 1) (.run (qL 185 8 13) (.run (qp 186 (.bld [qv 0,qv 0,qv 0,qv 0,qv 0] [(0,1)]) [qi 7]) (.run (qm 6 184) (.eff (qs 8 7 185) [] (.eff (qs 5 8 186) [] (.run (qp 9 .mov [qi 0]) .done)))))))) [6,9])
 .ret) (.seq (qr [qc 188 .eql 29 22,qm 187 188] [187])
 (.cond (qt 187) (.seq (.reg (.run (qm 189 1) (.run (qc 190 .add 189 1) (.run (qL 191 8 13) (.run (qf 192 1 3) (.run (ql 193 192) (.run (qp 194 (.bld [qv 0,qv 0,qv 0,qv 0,qv 0] [(0,1),(2,1)]) [qi 8,qt 193]) (.run (qm 6 190) (.eff (qs 8 7 191) [ql 193 192] (.eff (qs 5 8 194) [] (.run (qp 9 .mov [qi 0]) .done)))))))))) [6,9])
 .ret) (.seq (qr [qc 196 .eql 29 23,qm 195 196] [195])
 (.cond (qt 195) (.seq (.reg (.run (qm 197 1) (.run (qc 198 .add 197 1) (.run (qL 199 8 13) (.run (qm 200 10) (.run (qp 201 (.ixaA 8 1) [qt 5,qt 200]) (.run (ql 202 201) (.run (qp 203 (.bld [qv 0,qv 0,qv 0,qv 0,qv 0] [(0,1),(2,1)]) [qi 9,qt 202]) (.run (qm 6 198) (.eff (qs 8 7 199) [ql 202 201] (.eff (qs 5 8 203) [] (.run (qp 9 .mov [qi 0]) .done))))))))))) [6,9])
 .ret) (.seq (qr [qc 205 .eql 29 24,qm 204 205] [204])
 (.cond (qt 204) (.seq (.reg (.run (qm 206 1) (.run (qc 207 .add 206 1) (.run (qL 208 8 13) (.run (qm 209 10) (.run (qp 210 (.ixaA 8 1) [qt 5,qt 209]) (.run (ql 211 210) (.run (qp 212 (.bld [qv 0,qv 0,qv 0,qv 0,qv 0] [(0,1),(2,1)]) [qi 10,qt 211]) (.run (qm 6 207) (.eff (qs 8 7 208) [ql 211 210] (.eff (qs 5 8 212) [] (.run (qp 9 .mov [qi 0]) .done))))))))))) [6,9])
 .ret) (.seq (qr [qc 214 .eql 29 25,qm 213 214] [213])
 (.cond (qt 213) (.seq (.reg (.run (qm 215 1) (.run (qc 216 .add 215 1) (.run (qL 217 8 13) (.run (qp 218 (.bld [qv 0,qv 0,qv 0,qv 0,qv 0] [(0,1)]) [qi 11]) (.run (qm 6 216) (.eff (qs 8 7 217) [] (.eff (qs 5 8 218) [] (.run (qp 9 .mov [qi 0]) .done)))))))) [6,9])
 .ret) .skip))))))))))))))))))))))))))))))))))))
 (.seq (.reg (.run (qm 219 1) (.run (qc 220 .add 219 1) (.run (qL 221 8 13) (.run (qL 222 5 14) (.run (qm 6 220) (.eff (qs 8 7 221) [qL 222 5 14] (.eff (qs 5 8 222) [] (.run (qp 9 .mov [qi 0]) .done)))))))) [6,9])
 .ret)))))⟩
theorem XZ:compF Tryz.prog 46=some ZN:=by kernel_rfl
def Q94:Fun:=⟨8,[2,0,4,6],[.tmp 2],
 .seq (qr [qp 2 .mov [qi 0]] [2])
 (.seq (.seq (qr [qm 3 0,qc 4 .lss 3 0] [4])
 (.cond (qt 4) (.seq (qr [qp 2 .mov [qi 0]] [2])
 .ret) .skip))
 (.seq (.seq (qr [qm 5 0,qc 6 .gtr 5 7] [6])
 (.cond (qt 6) (.seq (qr [qp 2 .mov [qi 7]] [2])
 .ret) .skip))
 (.seq (qr [qm 7 0,qm 2 7] [2])
 .ret)))⟩
theorem Z98:compF Tryz.prog 77=some Q94:=by kernel_rfl
def Q95:Fun:=⟨36,[6,0,1,4,14,2,3,22,30],[.cell 6 (some 8)],
 .seq (qr [qe 3 (.box 90) [qt 0],qe 4 (.box 132) [qt 1],qe 6 (.new 90 [qv 0,qv 0,qv 0,qv 0,qv 0,qv 0,qv 0,qv 0]) []] [3,4,6])
 (.seq (.seq (qr [qf 7 0 4,ql 8 7,qc 9 .eql 8 1,qm 10 9,qg 11 10 false (.pur (.fla 0) [qt 4]),qg 12 10 false (.ld none (qt 11)),qg 13 10 false (.pur (.bin .eql) [qt 12,qi 3]),qp 14 .pick [qt 10,.const (.bool true),qt 13]] [14])
 (.cond (qt 14) (qr [qf 15 4 4,ql 16 15,qa 17 77 [qt 16],qm 18 2,qp 19 (.ixaA 8 1) [qt 3,qt 17],qs 1 19 18] []) .skip))
 (.seq (.seq (qr [qf 20 0 4,ql 21 20,qc 22 .eql 21 4] [22])
 (.cond (qt 22) (.seq (qr [qf 23 4 4,ql 24 23,qa 25 77 [qt 24],qp 26 (.ixaA 8 1) [qt 3,qt 25],qE (.st 1) [qt 26,qi 0]] [])
 (.seq (qr [qm 27 2,qf 28 2 4,ql 29 28,qb 30 .eql 27 29] [30])
 (.cond (qt 30) (qr [qf 31 4 4,ql 32 31,qa 33 77 [qt 32],qp 34 (.ixaA 8 1) [qt 3,qt 33],qE (.st 1) [qt 34,qi 1]] []) .skip))) .skip))
 (.seq (qr [qL 35 8 3,qs 8 6 35] [])
 .ret)))⟩
theorem Z99:compF Tryz.prog 79=some Q95:=by kernel_rfl
def QE:Fun:=⟨19,[0,10,1,2],[],
 .seq (qr [qm 6 0,qn 7 6,qf 8 10 7,ql 9 8,qc 10 .eql 9 0] [10])
 (.cond (qt 10) (.seq (qr [qm 11 0,qm 12 1,qn 13 11,qf 14 10 13,qs 1 14 12] [])
 (qr [qm 15 0,qm 16 2,qn 17 15,qf 18 11 17,qs 1 18 16] [])) .skip)⟩
theorem Q08:compF Tryz.prog 25=some QE:=by kernel_rfl
def Q09:Fun:=⟨18,[0,1,2],[],
 qr [qm 6 0,qm 7 0,qn 8 7,qf 9 4 8,ql 10 9,qm 11 1,qm 12 2,qp 13 (.bld [qv 0,qv 0,qv 0] [(0,1),(1,1),(2,1)]) [qt 11,qt 12,qi 0],qe 14 (.bsl 138 3) [qt 13],qe 15 (.app 138 3 24 [qv 0,qv 0,qv 0]) [qt 10,qt 14],qn 16 6,qf 17 4 16,qs 1 17 15] []⟩
theorem ZO:compF Tryz.prog 47=some Q09:=by kernel_rfl
def QW:Fun:=⟨94,[3,4,9,0,24,36,37,39,50,10,63,68,11,1,2,8],[],
 .seq (qr [qe 8 (.box 90) [qt 3],qe 9 (.box 132) [qt 4]] [8,9])
 (.seq (.seq (qr [qf 12 1 9,ql 13 12,qc 14 .lss 13 0,qm 15 14,qg 16 15 false (.pur (.fla 1) [qt 9]),qg 17 15 false (.ld none (qt 16)),qg 18 15 false (.pur .mov [qt 0]),qg 19 15 false (.pur .nilc [qt 18]),qg 20 15 false (.pur (.fla 2) [qt 19]),qg 21 15 false (.ld none (qt 20)),qg 22 15 false (.pur (.len false) [qt 21]),qg 23 15 false (.pur (.bin .geq) [qt 17,qt 22]),qp 24 .pick [qt 15,.const (.bool true),qt 23]] [24])
 (.cond (qt 24) (.seq (qr [qm 25 0,qa 26 25 [qt 25,qi 4,qi 2]] [])
 .ret) .skip))
 (.seq (qr [qm 27 0,qn 28 27,qf 29 2 28,ql 30 29,qf 31 1 9,ql 32 31,qp 33 (.ixa 1) [qt 30,qt 32],ql 34 33,qm 10 34] [10])
 (.seq (qr [qp 11 .mov [qi 2]] [11])
 (.seq (.seq (qr [qf 35 0 9,ql 36 35] [36])
 (.block 0 (.seq (qr [qc 38 .eql 36 1,qm 37 38] [37])
 (.cond (qt 37) (qr [qp 11 .mov [qi 1]] [11]) (.seq (qr [qc 40 .eql 36 2,qm 39 40] [39])
 (.cond (qt 39) (.reg (.run (qm 41 0) (.run (qn 42 41) (.run (qf 43 2 42) (.run (ql 44 43) (.run (qf 45 1 9) (.run (ql 46 45) (.run (qf 47 2 9) (.run (ql 48 47) (.run (qp 49 (.ixa 1) [qt 44,qt 46]) (.eff (qs 1 49 48) [] .done)))))))))) []) (.seq (qr [qc 51 .eql 36 3,qm 50 51] [50])
 (.cond (qt 50) (.reg (.run (qm 52 0) (.run (qn 53 52) (.run (qf 54 2 53) (.run (ql 55 54) (.run (qf 56 1 9) (.run (ql 57 56) (.run (qm 58 10) (.run (qf 59 2 9) (.run (ql 60 59) (.run (qb 61 .add 58 60) (.run (qp 62 (.ixa 1) [qt 55,qt 57]) (.eff (qs 1 62 61) [] .done)))))))))))) []) (.seq (qr [qc 64 .eql 36 4,qm 63 64] [63])
 (.cond (qt 63) (.seq (qr [qm 65 10,qf 66 2 9,ql 67 66,qb 68 .eql 65 67] [68])
 (.cond (qt 68) (.reg (.run (qm 69 0) (.run (qn 70 69) (.run (qf 71 2 70) (.run (ql 72 71) (.run (qf 73 1 9) (.run (ql 74 73) (.run (qf 75 3 9) (.run (ql 76 75) (.run (qp 77 (.ixa 1) [qt 72,qt 74]) (.eff (qs 1 77 76) [] .done)))))))))) []) .skip)) .skip))))))))))
 (.seq (qr [qm 78 0,qm 79 11,qf 80 1 9,ql 81 80,qa 82 47 [qt 78,qt 79,qt 81]] [])
 (.seq (qr [qm 83 1,qm 84 2,qn 85 83,qf 86 1 85,qs 1 86 84] [])
 (qr [qm 87 1,qL 88 8 8,qL 89 5 9,qm 90 10,qa 91 79 [qt 88,qt 89,qt 90],qn 92 87,qf 93 4 92,qs 8 93 91] [])))))))⟩
theorem Zb:compF Tryz.prog 48=some QW:=by kernel_rfl
def QO:SCode:=
 .seq (.seq (qr [qm 46 0,qn 47 46,qf 48 10 47,ql 49 48,qc 50 .eql 49 0] [50])
 (.cond (qt 50) .skip (.exit 0)))
 (.seq (.block 1 (.seq (qr [qm 53 0,qm 54 10,qa 55 47 [qt 53,qi 9,qt 54]] [])
 (.seq (qr [qm 56 2,qL 57 8 9,qm 58 10,qL 59 8 9,qp 60 (.bld [qv 0,qv 0,qv 0,qv 0,qv 0,qv 0,qv 0,qv 0,qv 0,qv 0,qv 0,qv 0,.bool false,.bool false,qv 0,qv 0,qv 0,qv 0,qv 0,qv 0,qv 0,qv 0,.bool false] [(0,1),(4,8),(13,1),(3,1),(14,8)]) [qt 56,qt 57,.const (.bool true),qt 58,qt 59],qe 61 (.box 92) [qt 60],qm 11 61] [11])
 (.seq (qr [qm 62 0,qm 63 11,qm 64 3,qc 65 .add 64 1,qa 66 24 [qt 62,qt 63,qt 65]] [])
 (.seq (qr [qm 67 11,qn 68 67,qf 69 14 68,qL 70 8 69,qs 8 9 70] [])
 (.seq (qr [qm 71 11,qn 72 71,qf 73 22 72,ql 74 73] [74])
 (.cond (qt 74) (.seq (qr [qm 75 0,qm 76 8,qa 77 47 [qt 75,qi 8,qt 76]] [])
 (.seq (qr [qm 78 1,qL 79 8 9,qn 80 78,qf 81 4 80,qs 8 81 79] [])
 .ret)) .skip)))))))
 (qr [qm 51 10,qc 52 .add 51 1,qm 10 52] [10]))
def Q10:Fun:=⟨82,[0,8,3,1,50,10,2,9,11,74],[],
 .seq (qr [qm 12 0,qn 13 12,qf 14 5 13,ql 15 14,qc 16 .add 15 1,qn 17 12,qf 18 5 17,qs 1 18 16] [])
 (.seq (qr [qm 19 0,qn 20 19,qf 21 5 20,ql 22 21,qm 8 22] [8])
 (.seq (qr [qm 23 0,qm 24 8,qa 25 47 [qt 23,qi 7,qt 24]] [])
 (.seq (qr [qm 26 0,qn 27 26,qf 28 8 27,ql 29 28,qc 30 .add 29 1,qn 31 26,qf 32 8 31,qs 1 32 30] [])
 (.seq (qr [qm 33 0,qm 34 0,qn 35 34,qf 36 9 35,ql 37 36,qm 38 3,qp 39 (.minmax true) [qt 37,qt 38],qn 40 33,qf 41 9 40,qs 1 41 39] [])
 (.seq (qr [qm 42 1,qn 43 42,qf 44 4 43,qL 45 8 44,qe 9 (.new 90 [qv 0,qv 0,qv 0,qv 0,qv 0,qv 0,qv 0,qv 0]) [],qs 8 9 45] [9])
 (.seq (qr [qp 10 .mov [qi 0]] [10])
 (.block 0 (.loop QO))))))))⟩
theorem ZP:compF Tryz.prog 49=some Q10:=by kernel_rfl
def Q11:Fun:=⟨108,[8,3,1,19,7,28,29,48,0,56,2,71,82,90,101],[.tmp 8],
 .seq (qr [qe 7 (.box 132) [qt 3],qp 8 .mov [.const (.bool false)]] [7,8])
 (.seq (.seq (qr [qm 9 1,qn 10 9,qf 11 13 10,ql 12 11,qm 13 12,qg 14 13 true (.pur .mov [qt 1]),qg 15 13 true (.pur .nilc [qt 14]),qg 16 13 true (.pur (.fla 2) [qt 15]),qg 17 13 true (.ld none (qt 16)),qg 18 13 true (.pur (.bin .eql) [qt 17,qi 0]),qp 19 .pick [qt 13,qt 18,.const (.bool false)]] [19])
 (.cond (qt 19) (qr [qm 20 1,qm 21 1,qn 22 21,qf 23 4 22,qL 24 8 23,qn 25 20,qf 26 14 25,qs 8 26 24] []) .skip))
 (.seq (.seq (qr [qf 27 0 7,ql 28 27] [28])
 (.block 0 (.seq (.seq (qr [qc 30 .eql 28 9,qm 29 30] [29])
 (.cond (qt 29) .skip (qr [qc 31 .eql 28 10,qm 29 31] [29])))
 (.cond (qt 29) (.seq (.block 1 (.seq (qr [qm 49 1,qn 50 49,qf 51 13 50,ql 52 51,qp 53 .not [qt 52],qm 48 53] [48])
 (.cond (qt 48) (qr [qm 54 0,qa 55 25 [qt 54,qi 4,qi 4]] []) (.seq (qr [qf 57 2 7,ql 58 57,qm 59 1,qn 60 59,qf 61 2 60,ql 62 61,qb 63 .leq 58 62,qm 64 63,qg 65 64 false (.pur (.fla 2) [qt 7]),qg 66 64 false (.ld none (qt 65)),qg 67 64 false (.pur (.bin .gtr) [qt 66,qi 1048575]),qp 68 .pick [qt 64,.const (.bool true),qt 67],qm 56 68] [56])
 (.cond (qt 56) (qr [qm 69 0,qa 70 25 [qt 69,qi 4,qi 3]] []) (.seq (qr [qm 32 1,qm 33 2,qn 34 32,qf 35 1 34,qs 1 35 33] [])
 (.seq (qr [qm 36 1,qf 37 2 7,ql 38 37,qn 39 36,qf 40 2 39,qs 1 40 38] [])
 (qr [qm 41 0,qf 42 0 7,ql 43 42,qc 44 .add 43 2,qf 45 2 7,ql 46 45,qa 47 47 [qt 41,qt 44,qt 46]] []))))))))
 (.seq (qr [qp 8 .mov [.const (.bool false)]] [8])
 .ret)) (.seq (qr [qc 72 .eql 28 11,qm 71 72] [71])
 (.cond (qt 71) (.seq (.block 2 (.seq (qr [qm 83 1,qn 84 83,qf 85 13 84,ql 86 85,qp 87 .not [qt 86],qm 82 87] [82])
 (.cond (qt 82) (qr [qm 88 0,qa 89 25 [qt 88,qi 4,qi 4]] []) (.seq (qr [qm 91 1,qn 92 91,qf 93 2 92,ql 94 93,qc 95 .neq 94 0,qm 90 95] [90])
 (.cond (qt 90) (qr [qm 96 0,qa 97 25 [qt 96,qi 4,qi 5]] []) (.seq (qr [qm 73 1,qn 74 73,qf 75 22 74,qE (.st 1) [qt 75,.const (.bool true)]] [])
 (qr [qm 76 0,qm 77 1,qn 78 77,qf 79 3 78,ql 80 79,qa 81 47 [qt 76,qi 10,qt 80]] [])))))))
 (.seq (qr [qp 8 .mov [.const (.bool true)]] [8])
 .ret)) .skip))))))
 (.seq (.seq (qr [qm 98 1,qn 99 98,qf 100 13 99,ql 101 100] [101])
 (.cond (qt 101) (qr [qm 102 0,qm 103 1,qn 104 103,qf 105 3 104,ql 106 105,qa 107 47 [qt 102,qi 10,qt 106]] []) .skip))
 (.seq (qr [qp 8 .mov [.const (.bool true)]] [8])
 .ret))))⟩
theorem ZQ:compF Tryz.prog 50=some Q11:=by kernel_rfl
def Q9:SCode:=
 .seq (.seq (qr [qm 26 0,qn 27 26,qf 28 10 27,ql 29 28,qc 30 .eql 29 0] [30])
 (.cond (qt 30) .skip (.exit 0)))
 (.block 1 (.seq (.seq (qr [qm 31 0,qn 32 31,qf 33 7 32,ql 34 33,qm 35 0,qn 36 35,qf 37 6 36,ql 38 37,qb 39 .eql 34 38] [39])
 (.cond (qt 39) (.seq (qr [qm 40 0,qa 41 25 [qt 40,qi 6,qi 0]] [])
 .ret) .skip))
 (.seq (qr [qm 42 0,qn 43 42,qf 44 7 43,ql 45 44,qc 46 .add 45 1,qn 47 42,qf 48 7 47,qs 1 48 46] [])
 (.seq (.reg (.run (qm 50 0) (.run (qn 51 50) (.run (qf 52 0 51) (.run (qf 53 1 52) (.run (ql 54 53) (.run (qm 55 1) (.run (qn 56 55) (.run (qf 57 0 56) (.run (ql 58 57) (.run (qp 59 (.ixa 1) [qt 54,qt 58]) (.run (ql 60 59) (.run (qm 61 1) (.run (qn 62 61) (.run (qf 63 1 62) (.run (ql 64 63) (.run (qp 65 (.ixa 4) [qt 60,qt 64]) (.run (qL 66 4 65) (.run (qm 67 1) (.run (qn 68 67) (.run (qf 69 1 68) (.run (ql 70 69) (.run (qm 71 1) (.run (qn 72 71) (.run (qf 73 4 72) (.run (qL 74 8 73) (.both (.eff (qa 75 46 [qt 66,qt 70,qt 74]) [] (.run (qm 49 75) (.run (qx 76 0 49) (.run (qx 77 1 49) (.run (qx 78 2 49) (.run (qx 79 3 49) (.both (.eff (qe 7 (.new 90 [qv 0,qv 0,qv 0,qv 0,qv 0,qv 0,qv 0,qv 0]) []) [] (.eff (qe 8 (.new 132 [qv 0,qv 0,qv 0,qv 0,qv 0]) []) [] (.run (qm 6 76) (.eff (qs 8 7 77) [] (.eff (qs 5 8 78) [] (.run (qm 9 79) .done)))))) (.eff (qe 8 (.new 132 [qv 0,qv 0,qv 0,qv 0,qv 0]) []) [] (.eff (qe 7 (.new 90 [qv 0,qv 0,qv 0,qv 0,qv 0,qv 0,qv 0,qv 0]) []) [] (.run (qm 6 76) (.eff (qs 8 7 77) [] (.eff (qs 5 8 78) [] (.run (qm 9 79) .done))))))))))))) (.both (.eff (qe 7 (.new 90 [qv 0,qv 0,qv 0,qv 0,qv 0,qv 0,qv 0,qv 0]) []) [] (.both (.eff (qa 75 46 [qt 66,qt 70,qt 74]) [] (.run (qm 49 75) (.run (qx 76 0 49) (.run (qx 77 1 49) (.run (qx 78 2 49) (.run (qx 79 3 49) (.eff (qe 8 (.new 132 [qv 0,qv 0,qv 0,qv 0,qv 0]) []) [] (.run (qm 6 76) (.eff (qs 8 7 77) [] (.eff (qs 5 8 78) [] (.run (qm 9 79) .done))))))))))) (.eff (qe 8 (.new 132 [qv 0,qv 0,qv 0,qv 0,qv 0]) []) [] (.eff (qa 75 46 [qt 66,qt 70,qt 74]) [] (.run (qm 49 75) (.run (qx 76 0 49) (.run (qx 77 1 49) (.run (qx 78 2 49) (.run (qx 79 3 49) (.run (qm 6 76) (.eff (qs 8 7 77) [] (.eff (qs 5 8 78) [] (.run (qm 9 79) .done))))))))))))) (.eff (qe 8 (.new 132 [qv 0,qv 0,qv 0,qv 0,qv 0]) []) [] (.both (.eff (qa 75 46 [qt 66,qt 70,qt 74]) [] (.run (qm 49 75) (.run (qx 76 0 49) (.run (qx 77 1 49) (.run (qx 78 2 49) (.run (qx 79 3 49) (.eff (qe 7 (.new 90 [qv 0,qv 0,qv 0,qv 0,qv 0,qv 0,qv 0,qv 0]) []) [] (.run (qm 6 76) (.eff (qs 8 7 77) [] (.eff (qs 5 8 78) [] (.run (qm 9 79) .done))))))))))) (.eff (qe 7 (.new 90 [qv 0,qv 0,qv 0,qv 0,qv 0,qv 0,qv 0,qv 0]) []) [] (.eff (qa 75 46 [qt 66,qt 70,qt 74]) [] (.run (qm 49 75) (.run (qx 76 0 49) (.run (qx 77 1 49) (.run (qx 78 2 49) (.run (qx 79 3 49) (.run (qm 6 76) (.eff (qs 8 7 77) [] (.eff (qs 5 8 78) [] (.run (qm 9 79) .done)))))))))))))))))))))))))))))))))))))))) [7,8,6,9])
 (.seq (.seq (qr [qf 80 0 8,ql 81 80,qc 82 .geq 81 7,qm 83 82,qg 84 83 true (.pur .mov [qt 1]),qg 85 83 true (.pur .nilc [qt 84]),qg 86 83 true (.pur (.fla 12) [qt 85]),qg 87 83 true (.ld none (qt 86)),qp 88 .pick [qt 83,qt 87,.const (.bool false)]] [88])
 (.cond (qt 88) (.seq (qr [qm 89 1,qn 90 89,qf 91 12 90,qE (.st 1) [qt 91,.const (.bool false)]] [])
 (qr [qm 92 0,qa 93 47 [qt 92,qi 6,qi 0]] [])) .skip))
 (.seq (.seq (qr [qm 94 9,qc 95 .neq 94 0] [95])
 (.cond (qt 95) (.seq (qr [qm 96 0,qm 97 9,qa 98 25 [qt 96,qi 4,qt 97]] [])
 .ret) .skip))
 (.block 2 (.seq (qr [qf 105 0 8,ql 106 105,qc 107 .eql 106 0,qm 108 107,qg 109 108 false (.pur (.fla 0) [qt 8]),qg 110 108 false (.ld none (qt 109)),qg 111 108 false (.pur (.bin .eql) [qt 110,qi 7]),qp 112 .pick [qt 108,.const (.bool true),qt 111],qm 104 112] [104])
 (.cond (qt 104) (.seq (qr [qm 113 1,qm 114 6,qn 115 113,qf 116 1 115,qs 1 116 114] [])
 (qr [qm 117 1,qL 118 8 7,qn 119 117,qf 120 4 119,qs 8 120 118] [])) (.seq (qr [qf 122 0 8,ql 123 122,qc 124 .leq 123 4,qm 121 124] [121])
 (.cond (qt 121) (qr [qm 125 0,qm 126 1,qm 127 6,qL 128 8 7,qL 129 5 8,qa 130 48 [qt 125,qt 126,qt 127,qt 128,qt 129]] []) (.seq (qr [qf 132 0 8,ql 133 132,qc 134 .eql 133 5,qm 131 134] [131])
 (.cond (qt 131) (.seq (.reg (.run (qm 135 0) (.run (qm 136 0) (.run (qn 137 136) (.run (qf 138 3 137) (.run (ql 139 138) (.run (qf 140 2 8) (.run (ql 141 140) (.eff (qe 142 (.bsl 3 1) [qt 141]) [] (.eff (qe 143 (.app 3 1 8 [qv 0]) [qt 139,qt 142]) [] (.run (qn 144 135) (.run (qf 145 3 144) (.eff (qs 1 145 143) [] .done)))))))))))) [])
 (.seq (qr [qm 146 0,qf 147 2 8,ql 148 147,qa 149 47 [qt 146,qi 3,qt 148]] [])
 (qr [qm 150 1,qm 151 6,qn 152 150,qf 153 1 152,qs 1 153 151] []))) (.seq (qr [qf 155 0 8,ql 156 155,qc 157 .eql 156 6,qm 154 157] [154])
 (.cond (qt 154) (.seq (qr [qm 158 1,qm 159 6,qn 160 158,qf 161 1 160,qs 1 161 159] [])
 (.seq (qr [qm 162 1,qn 163 162,qf 164 12 163,qE (.st 1) [qt 164,.const (.bool true)]] [])
 (.seq (qr [qm 165 0,qa 166 47 [qt 165,qi 4,qi 0]] [])
 (.seq (.reg (.run (qm 167 0) (.run (qf 168 2 8) (.run (ql 169 168) (.run (qm 170 1) (.run (qn 171 170) (.run (qf 172 4 171) (.run (qL 173 8 172) (.run (qp 174 (.bld [qv 0,qv 0,qv 0,qv 0,qv 0,qv 0,qv 0,qv 0,qv 0,qv 0,qv 0,qv 0,.bool false,.bool false,qv 0,qv 0,qv 0,qv 0,qv 0,qv 0,qv 0,qv 0,.bool false] [(0,1),(4,8)]) [qt 169,qt 173]) (.run (qm 176 2) (.run (qc 177 .add 176 1) (.eff (qe 175 (.box 92) [qt 174]) [] (.eff (qa 178 24 [qt 167,qt 175,qt 177]) [] .done)))))))))))) [])
 (.seq (qr [qm 179 0,qn 180 179,qf 181 10 180,ql 182 181,qc 183 .eql 182 0] [183])
 (.cond (qt 183) (qr [qm 184 0,qa 185 47 [qt 184,qi 5,qi 0]] []) .skip)))))) (.seq (qr [qf 187 0 8,ql 188 187,qc 189 .eql 188 8,qm 186 189] [186])
 (.cond (qt 186) (.seq (qr [qm 190 1,qm 191 6,qn 192 190,qf 193 1 192,qs 1 193 191] [])
 (qr [qm 194 0,qm 195 1,qf 196 2 8,ql 197 196,qm 198 2,qc 199 .add 198 1,qa 200 49 [qt 194,qt 195,qt 197,qt 199]] [])) (.seq (qr [qm 99 0,qm 100 1,qm 101 6,qL 102 5 8,qa 103 50 [qt 99,qt 100,qt 101,qt 102]] [103])
 (.cond (qt 103) .ret .skip)))))))))))))))))))
def Q12:Fun:=⟨201,[0,2,30,39,1,8,88,9,95,104,6,7,121,131,154,183,186,103],[],
 .seq (qr [qm 10 0,qn 11 10,qf 12 8 11,ql 13 12,qc 14 .add 13 1,qn 15 10,qf 16 8 15,qs 1 16 14] [])
 (.seq (qr [qm 17 0,qm 18 0,qn 19 18,qf 20 9 19,ql 21 20,qm 22 2,qp 23 (.minmax true) [qt 21,qt 22],qn 24 17,qf 25 9 24,qs 1 25 23] [])
 (.block 0 (.loop Q9)))⟩
theorem ZR:(compF Tryz.prog 24).map Fun.slim=some Q12:=by kernel_rfl
def Q05:Fun:=⟨46,[6,7,0,3,8,13,1,21,2,9],[.tmp 6,.tmp 7],
 .seq (qr [qe 3 (.box 24) [qt 0],qp 6 .mov [.const (.pointer none)],qp 7 .mov [qi 0]] [3,6,7])
 (.seq (qr [qL 10 2 3,qa 11 23 [qt 10],qm 8 11] [8])
 (.seq (.seq (qr [qm 12 8,qc 13 .neq 12 0] [13])
 (.cond (qt 13) (.seq (qr [qp 14 (.bld [qv 0,.slice none 0 0,.slice none 0 0,.slice none 0 0,.slice none 0 0,qv 0,qv 0,qv 0,qv 0,qv 0,qv 0,qv 0] []) [],qe 15 (.box 38) [qt 14],qm 16 8,qm 6 15,qm 7 16] [6,7])
 .ret) .skip))
 (.seq (.seq (qr [qm 17 1,qp 18 (.len false) [qt 17],qf 19 0 3,ql 20 19,qb 21 .gtr 18 20] [21])
 (.cond (qt 21) (.seq (qr [qp 22 (.bld [qv 0,.slice none 0 0,.slice none 0 0,.slice none 0 0,.slice none 0 0,qv 0,qv 0,qv 0,qv 0,qv 0,qv 0,qv 0] []) [],qe 23 (.box 38) [qt 22],qm 6 23,qp 7 .mov [qi 9]] [6,7])
 .ret) .skip))
 (.seq (.reg (.run (qL 24 2 3) (.run (qf 25 0 3) (.run (ql 26 25) (.run (qm 28 2) (.run (qp 29 (.minmax true) [qt 28,qi 0]) (.run (qp 30 (.minmax false) [qt 29,qi 100000]) (.eff (qe 27 (.mks 3 1 8 [qv 0]) [qt 26,qt 26]) [qL 24 2 3] (.run (qp 31 (.bld [qv 0,.slice none 0 0,.slice none 0 0,.slice none 0 0,.slice none 0 0,qv 0,qv 0,qv 0,qv 0,qv 0,qv 0,qv 0] [(0,2),(2,1),(6,1)]) [qt 24,qt 27,qt 30]) (.eff (qe 32 (.box 38) [qt 31]) [] (.run (qm 9 32) .done)))))))))) [9])
 (.seq (qr [qm 33 9,qn 34 33,qf 35 2 34,ql 36 35,qm 37 1,qe 38 (.cpy 1) [qt 36,qt 37]] [])
 (.seq (qr [qm 39 9,qp 40 (.bld [qv 0,qv 0,qv 0,qv 0,qv 0,qv 0,qv 0,qv 0,qv 0,qv 0,qv 0,qv 0,.bool false,.bool false,qv 0,qv 0,qv 0,qv 0,qv 0,qv 0,qv 0,qv 0,.bool false] []) [],qe 41 (.box 92) [qt 40],qa 42 24 [qt 39,qt 41,qi 1]] [])
 (.seq (qr [qm 43 9,qa 44 25 [qt 43,qi 1,qi 0]] [])
 (.seq (qr [qm 45 9,qm 6 45,qp 7 .mov [qi 0]] [6,7])
 .ret))))))))⟩
theorem Q97:(compF Tryz.prog 15).map Fun.slim=some Q05:=by kernel_rfl
def Q13:Fun:=⟨50,[2,0,13,3,42],[.cell 2 (some 3)],
 .seq (qr [qe 2 (.new 138 [qv 0,qv 0,qv 0]) []] [2])
 (.seq (.seq (qr [qm 4 0,qn 5 4,qf 6 1 5,ql 7 6,qm 8 0,qn 9 8,qf 10 0 9,ql 11 10,qp 12 (.len false) [qt 11],qb 13 .eql 7 12] [13])
 (.cond (qt 13) (.seq (qr [qm 14 0,qn 15 14,qf 16 5 15,qE (.st 1) [qt 16,.const (.bool true)]] [])
 (.seq (qr [qp 17 (.bld [qv 0,qv 0,qv 0] []) [],qs 3 2 17] [])
 .ret)) .skip))
 (.seq (.reg (.run (qm 18 0) (.run (qn 19 18) (.run (qf 20 0 19) (.run (ql 21 20) (.run (qm 22 0) (.run (qn 23 22) (.run (qf 24 1 23) (.run (ql 25 24) (.run (qp 26 (.ixa 3) [qt 21,qt 25]) (.run (qL 27 3 26) (.eff (qe 3 (.new 138 [qv 0,qv 0,qv 0]) []) [] (.eff (qs 3 3 27) [] .done)))))))))))) [3])
 (.seq (qr [qm 28 0,qn 29 28,qf 30 1 29,ql 31 30,qc 32 .add 31 1,qn 33 28,qf 34 1 33,qs 1 34 32] [])
 (.seq (.seq (qr [qf 35 0 3,ql 36 35,qc 37 .lss 36 1,qm 38 37,qg 39 38 false (.pur (.fla 0) [qt 3]),qg 40 38 false (.ld none (qt 39)),qg 41 38 false (.pur (.bin .gtr) [qt 40,qi 12]),qp 42 .pick [qt 38,.const (.bool true),qt 41]] [42])
 (.cond (qt 42) (.seq (qr [qm 43 0,qn 44 43,qf 45 6 44,qE (.st 1) [qt 45,qi 5]] [])
 (qr [qm 46 0,qn 47 46,qf 48 5 47,qE (.st 1) [qt 48,.const (.bool true)]] [])) .skip))
 (.seq (qr [qL 49 3 3,qs 3 2 49] [])
 .ret)))))⟩
theorem ZS:(compF Tryz.prog 51).map Fun.slim=some Q13:=by kernel_rfl
def Q26:SCode:=
 .seq (.seq (qr [qm 43 7,qm 44 5,qp 45 (.len false) [qt 44],qb 46 .lss 43 45] [46])
 (.cond (qt 46) .skip (.exit 2)))
 (.seq (.block 3 (.seq (qr [qm 49 5,qm 50 7,qp 51 (.ixa 4) [qt 49,qt 50],qL 52 4 51,qa 53 45 [qt 52],qm 8 53] [8])
 (.seq (.seq (qr [qm 54 8,qc 55 .neq 54 0] [55])
 (.cond (qt 55) (.seq (qr [qm 56 8,qm 2 56] [2])
 .ret) .skip))
 (.seq (qr [qm 57 5,qm 58 7,qp 59 (.ixa 4) [qt 57,qt 58],qf 60 0 59,ql 61 60,qc 62 .eql 61 18,qm 63 62,qg 64 63 true (.pur .mov [qt 5]),qg 65 63 true (.pur .mov [qt 7]),qg 66 63 true (.pur (.ixa 4) [qt 64,qt 65]),qg 67 63 true (.pur (.fla 1) [qt 66]),qg 68 63 true (.ld none (qt 67)),qg 69 63 true (.pur .mov [qt 5]),qg 70 63 true (.pur (.len false) [qt 69]),qg 71 63 true (.pur (.bin .geq) [qt 68,qt 70]),qp 72 .pick [qt 63,qt 71,.const (.bool false)],qm 73 72,qg 74 73 false (.pur .mov [qt 5]),qg 75 73 false (.pur .mov [qt 7]),qg 76 73 false (.pur (.ixa 4) [qt 74,qt 75]),qg 77 73 false (.pur (.fla 0) [qt 76]),qg 78 73 false (.ld none (qt 77)),qg 79 73 false (.pur (.bin .eql) [qt 78,qi 19]),qg 80 73 false (.pur .mov [qt 79]),qg 81 80 true (.pur .mov [qt 5]),qg 82 80 true (.pur .mov [qt 7]),qg 83 80 true (.pur (.ixa 4) [qt 81,qt 82]),qg 84 80 true (.pur (.fla 2) [qt 83]),qg 85 80 true (.ld none (qt 84)),qg 86 80 true (.pur .mov [qt 5]),qg 87 80 true (.pur (.len false) [qt 86]),qg 88 80 true (.pur (.bin .geq) [qt 85,qt 87]),qg 89 73 false (.pur .pick [qt 80,qt 88,.const (.bool false)]),qp 90 .pick [qt 73,.const (.bool true),qt 89],qm 91 90,qg 92 91 false (.pur .mov [qt 5]),qg 93 91 false (.pur .mov [qt 7]),qg 94 91 false (.pur (.ixa 4) [qt 92,qt 93]),qg 95 91 false (.pur (.fla 0) [qt 94]),qg 96 91 false (.ld none (qt 95)),qg 97 91 false (.pur (.bin .eql) [qt 96,qi 20]),qg 98 91 false (.pur .mov [qt 97]),qg 99 98 false (.pur .mov [qt 5]),qg 100 98 false (.pur .mov [qt 7]),qg 101 98 false (.pur (.ixa 4) [qt 99,qt 100]),qg 102 98 false (.pur (.fla 0) [qt 101]),qg 103 98 false (.ld none (qt 102)),qg 104 98 false (.pur (.bin .eql) [qt 103,qi 22]),qg 105 91 false (.pur .pick [qt 98,.const (.bool true),qt 104]),qg 106 91 false (.pur .mov [qt 105]),qg 107 106 true (.pur .mov [qt 5]),qg 108 106 true (.pur .mov [qt 7]),qg 109 106 true (.pur (.ixa 4) [qt 107,qt 108]),qg 110 106 true (.pur (.fla 1) [qt 109]),qg 111 106 true (.ld none (qt 110)),qg 112 106 true (.pur (.fla 1) [qt 1]),qg 113 106 true (.ld none (qt 112)),qg 114 106 true (.pur (.len false) [qt 113]),qg 115 106 true (.pur (.bin .geq) [qt 111,qt 114]),qg 116 91 false (.pur .pick [qt 106,qt 115,.const (.bool false)]),qp 117 .pick [qt 91,.const (.bool true),qt 116]] [117])
 (.cond (qt 117) (.seq (qr [qp 2 .mov [qi 11]] [2])
 .ret) .skip)))))
 (qr [qm 47 7,qc 48 .add 47 1,qm 7 48] [7]))
def Q27:SCode:=
 .seq (.seq (qr [qm 25 4,qf 26 1 1,ql 27 26,qp 28 (.len false) [qt 27],qb 29 .lss 25 28] [29])
 (.cond (qt 29) .skip (.exit 0)))
 (.seq (.block 1 (.seq (qr [qf 32 1 1,ql 33 32,qm 34 4,qp 35 (.ixa 1) [qt 33,qt 34],ql 36 35,qm 5 36] [5])
 (.seq (qr [qm 37 5,qp 38 (.len false) [qt 37],qa 39 44 [qt 38,qi 200],qm 6 39] [6])
 (.seq (.seq (qr [qm 40 6,qc 41 .neq 40 0] [41])
 (.cond (qt 41) (.seq (qr [qm 42 6,qm 2 42] [2])
 .ret) .skip))
 (.seq (.seq (qr [qp 7 .mov [qi 0]] [7])
 (.block 2 (.loop Q26)))
 (.seq (qr [qm 118 5,qm 119 5,qp 120 (.len false) [qt 119],qc 121 .sub 120 1,qp 122 (.ixa 4) [qt 118,qt 121],qf 123 0 122,ql 124 123,qm 9 124] [9])
 (.seq (qr [qm 125 9,qc 126 .neq 125 0,qm 127 126,qg 128 127 true (.pur .mov [qt 9]),qg 129 127 true (.pur (.bin .neq) [qt 128,qi 18]),qp 130 .pick [qt 127,qt 129,.const (.bool false)],qm 131 130,qg 132 131 true (.pur .mov [qt 9]),qg 133 131 true (.pur (.bin .neq) [qt 132,qi 25]),qp 134 .pick [qt 131,qt 133,.const (.bool false)]] [134])
 (.cond (qt 134) (.seq (qr [qp 2 .mov [qi 12]] [2])
 .ret) .skip))))))))
 (qr [qm 30 4,qc 31 .add 30 1,qm 4 31] [4]))
def Q68:Fun:=⟨135,[2,0,1,17,3,23,4,29,5,6,41,7,46,8,55,117,9,134],[.tmp 2],
 .seq (qr [qe 1 (.box 24) [qt 0],qp 2 .mov [qi 0]] [1,2])
 (.seq (.seq (qr [qf 10 0 1,ql 11 10,qc 12 .lss 11 0,qm 13 12,qg 14 13 false (.pur (.fla 0) [qt 1]),qg 15 13 false (.ld none (qt 14)),qg 16 13 false (.pur (.bin .gtr) [qt 15,qi 256]),qp 17 .pick [qt 13,.const (.bool true),qt 16]] [17])
 (.cond (qt 17) (.seq (qr [qp 2 .mov [qi 3]] [2])
 .ret) .skip))
 (.seq (qr [qf 18 1 1,ql 19 18,qp 20 (.len false) [qt 19],qa 21 44 [qt 20,qi 16],qm 3 21] [3])
 (.seq (.seq (qr [qm 22 3,qc 23 .neq 22 0] [23])
 (.cond (qt 23) (.seq (qr [qm 24 3,qm 2 24] [2])
 .ret) .skip))
 (.seq (.seq (qr [qp 4 .mov [qi 0]] [4])
 (.block 0 (.loop Q27)))
 (.seq (qr [qp 2 .mov [qi 0]] [2])
 .ret)))))⟩
theorem Z65:compF Tryz.prog 23=some Q68:=by kernel_rfl
def Q98:Fun:=⟨10,[4,0,6,1,9],[.tmp 4],
 .seq (qr [qp 4 .mov [qi 0]] [4])
 (.seq (.seq (qr [qm 5 0,qc 6 .eql 5 0] [6])
 (.cond (qt 6) (.seq (qr [qp 4 .mov [qi 7]] [4])
 .ret) .skip))
 (.seq (.seq (qr [qm 7 0,qm 8 1,qb 9 .gtr 7 8] [9])
 (.cond (qt 9) (.seq (qr [qp 4 .mov [qi 9]] [4])
 .ret) .skip))
 (.seq (qr [qp 4 .mov [qi 0]] [4])
 .ret)))⟩
theorem X4:compF Tryz.prog 44=some Q98:=by kernel_rfl
def Q28:SCode:=
 .seq (.seq (qr [qm 27 5,qm 28 3,qp 29 (.len true) [qt 28],qb 30 .lss 27 29] [30])
 (.cond (qt 30) .skip (.exit 0)))
 (.seq (.block 1 (.seq (qr [qm 34 3,qm 35 5,qm 36 5,qc 37 .add 36 1,qp 38 (.sls true true) [qt 34,qt 35,qt 37],qa 39 76 [qt 38],qm 33 39,qx 40 0 33,qx 41 1 33,qm 6 40,qm 7 41] [6,7])
 (.seq (qr [qm 42 4,qm 43 5,qp 44 (.ixa 1) [qt 42,qt 43],ql 45 44,qm 46 6,qb 47 .lss 45 46,qm 48 47,qg 49 48 false (.pur .mov [qt 4]),qg 50 48 false (.pur .mov [qt 5]),qg 51 48 false (.pur (.ixa 1) [qt 49,qt 50]),qg 52 48 false (.ld none (qt 51)),qg 53 48 false (.pur .mov [qt 7]),qg 54 48 false (.pur (.bin .gtr) [qt 52,qt 53]),qp 55 .pick [qt 48,.const (.bool true),qt 54]] [55])
 (.cond (qt 55) (.seq (qr [qp 2 .mov [qi 3]] [2])
 .ret) .skip))))
 (qr [qm 31 5,qc 32 .add 31 1,qm 5 32] [5]))
def Q29:SCode:=
 .seq (.seq (qr [qm 58 8,qc 59 .lss 58 3] [59])
 (.cond (qt 59) .skip (.exit 2)))
 (.seq (.block 3 (.seq (qr [qm 62 4,qm 63 8,qp 64 (.ixa 1) [qt 62,qt 63],ql 65 64,qc 66 .neq 65 0] [66])
 (.cond (qt 66) (.seq (qr [qp 2 .mov [qi 4]] [2])
 .ret) .skip)))
 (qr [qm 60 8,qc 61 .add 60 1,qm 8 61] [8]))
def Q69:Fun:=⟨67,[2,0,1,16,5,3,30,4,6,7,55,8,59,66],[.tmp 2],
 .seq (qr [qe 1 (.box 56) [qt 0],qp 2 .mov [qi 0]] [1,2])
 (.seq (.seq (qr [qf 9 0 1,ql 10 9,qc 11 .lss 10 0,qm 12 11,qg 13 12 false (.pur (.fla 0) [qt 1]),qg 14 12 false (.ld none (qt 13)),qg 15 12 false (.pur (.bin .gtr) [qt 14,qi 25]),qp 16 .pick [qt 12,.const (.bool true),qt 15]] [16])
 (.cond (qt 16) (.seq (qr [qp 2 .mov [qi 5]] [2])
 .ret) .skip))
 (.seq (qr [qf 17 0 1,ql 18 17,qa 19 75 [qt 18],qm 3 19] [3])
 (.seq (qr [qf 20 1 1,ql 21 20,qf 22 2 1,ql 23 22,qf 24 3 1,ql 25 24,qe 26 (.bsl 3 1) [qt 21,qt 23,qt 25],qm 4 26] [4])
 (.seq (.seq (qr [qp 5 .mov [qi 0]] [5])
 (.block 0 (.loop Q28)))
 (.seq (.seq (qr [qm 56 3,qp 57 (.len true) [qt 56],qm 8 57] [8])
 (.block 2 (.loop Q29)))
 (.seq (qr [qp 2 .mov [qi 0]] [2])
 .ret))))))⟩
theorem Z66:compF Tryz.prog 45=some Q69:=by kernel_rfl
def Q99:Fun:=⟨13,[2,0,8],[.tmp 2],
 .seq (qr [qp 2 .mov [.const (.string ⟨#[]⟩)]] [2])
 (.seq (.seq (qr [qm 3 0,qc 4 .lss 3 0,qm 5 4,qg 6 5 false (.pur .mov [qt 0]),qg 7 5 false (.pur (.bin .gtr) [qt 6,qi 25]),qp 8 .pick [qt 5,.const (.bool true),qt 7]] [8])
 (.cond (qt 8) (.seq (qr [qp 2 .mov [.const (.string ⟨#[]⟩)]] [2])
 .ret) .skip))
 (.seq (qr [qa 9 98 [],qm 10 0,qp 11 (.ixa 1) [qt 9,qt 10],ql 12 11,qm 2 12] [2])
 .ret))⟩
theorem X5:compF Tryz.prog 75=some Q99:=by kernel_rfl
def Z0:Fun:=⟨11,[2,3,0,4,5,7,9],[.tmp 2,.tmp 3],
 .seq (qr [qp 2 .mov [qi 0],qp 3 .mov [qi 0]] [2,3])
 (.seq (.seq (qr [qm 4 0] [4])
 (.block 0 (.seq (qr [qp 6 (.bin .eql) [qt 4,.const (.string ⟨#[114]⟩)],qm 5 6] [5])
 (.cond (qt 5) (.seq (qr [qp 2 .mov [qi 0],qp 3 .mov [qi 7]] [2,3])
 .ret) (.seq (qr [qp 8 (.bin .eql) [qt 4,.const (.string ⟨#[102]⟩)],qm 7 8] [7])
 (.cond (qt 7) (.seq (qr [qp 2 .mov [qi 0],qp 3 .mov [qi 15]] [2,3])
 .ret) (.seq (qr [qp 10 (.bin .eql) [qt 4,.const (.string ⟨#[116]⟩)],qm 9 10] [9])
 (.cond (qt 9) (.seq (qr [qp 2 .mov [qi 0],qp 3 .mov [qi 199]] [2,3])
 .ret) .skip))))))))
 (.seq (qr [qp 2 .mov [qi (-32768)],qp 3 .mov [qi 32767]] [2,3])
 .ret))⟩
theorem X6:compF Tryz.prog 76=some Z0:=by kernel_rfl
def Q70:Fun:=⟨2,[0],[.tmp 0],
 .seq (qr [qp 0 .mov [.const (.slice none 0 0)]] [0])
 (.seq (qr [⟨some 1,none,.eff (.bsl 9 1) [.const (.string ⟨#[]⟩),.const (.string ⟨#[114,110]⟩),.const (.string ⟨#[114,114]⟩),.const (.string ⟨#[114,114,114]⟩),.const (.string ⟨#[114,114,114]⟩),.const (.string ⟨#[114,114,114]⟩),.const (.string ⟨#[114,114,114]⟩),.const (.string ⟨#[114,114,114]⟩),.const (.string ⟨#[114,114,114]⟩),.const (.string ⟨#[114,114,114]⟩),.const (.string ⟨#[114,114,114]⟩),.const (.string ⟨#[114,114,114]⟩),.const (.string ⟨#[114,114,114]⟩),.const (.string ⟨#[114,114]⟩),.const (.string ⟨#[114,114]⟩),.const (.string ⟨#[114,114,114]⟩),.const (.string ⟨#[114,114,114]⟩),.const (.string ⟨#[114]⟩),.const (.string ⟨#[116]⟩),.const (.string ⟨#[114,116]⟩),.const (.string ⟨#[102]⟩),.const (.string ⟨#[]⟩),.const (.string ⟨#[102]⟩),.const (.string ⟨#[114]⟩),.const (.string ⟨#[114]⟩),.const (.string ⟨#[]⟩)]⟩,qm 0 1] [0])
 .ret)⟩
theorem Z67:compF Tryz.prog 98=some Q70:=by kernel_rfl
end Go.Proofs.YtncdnegdlkmicaaGreat
