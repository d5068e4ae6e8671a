/- CSer CRn CDq CFr -/
import Derived.Test.YtelibaobkcokdaaGreatQU2Lb
import Derived.Test.YtelibaobkcokdaaGreatProg
import Derived.KernelRfl
namespace Go.Proofs.YtelibaobkcokdaaGreat
open Go Go.Kx Go.Proofs
set_option linter.unusedVariables false
set_option maxRecDepth 100000
def Z55:Fun:=⟨10,[2,0,4],[.tmp 2],
 .seq (qr [qp 2 .mov [.const (.slice none 0 0)]] [2])
 (.seq (.seq (qr [qm 3 0,qp 4 (.eqn false 0) [qt 3]] [4])
 (.cond (qt 4) (.seq (qr [qp 2 .mov [.const (.slice none 0 0)]] [2])
 .ret) .skip))
 (.seq (qr [qm 5 0,qn 6 5,qf 7 0 6,ql 8 7,qa 9 89 [qt 8],qm 2 9] [2])
 .ret))⟩
theorem Y09:compF Tryz.prog 62=some Z55:=by kernel_rfl
def Z06:Fun:=⟨15,[4,5,0,1,6,11],[.tmp 4,.tmp 5],
 .seq (qr [qp 4 .mov [qi 0],qp 5 .mov [.const (.bool false)]] [4,5])
 (.seq (qr [qm 7 0,qm 8 1,qa 9 116 [qt 7,qt 8,.const (.bool false)],qm 6 9] [6])
 (.seq (.seq (qr [qm 10 6,qp 11 (.eqn false 0) [qt 10]] [11])
 (.cond (qt 11) (.seq (qr [qp 4 .mov [qi 0],qp 5 .mov [.const (.bool false)]] [4,5])
 .ret) .skip))
 (.seq (qr [qm 12 6,qn 13 12,ql 14 13,qm 4 14,qp 5 .mov [.const (.bool true)]] [4,5])
 .ret)))⟩
theorem Ya:compF Tryz.prog 68=some Z06:=by kernel_rfl
def Ju:Fun:=⟨9,[2,0],[.tmp 2],
 .seq (qr [qp 2 .mov [.const (.pointer none)]] [2])
 (.seq (qr [qm 3 0,qp 4 (.minmax true) [qt 3,qi 0],qp 5 (.minmax false) [qt 4,qi 1048576],qe 6 (.mks 3 1 8 [qv 0]) [qt 5,qt 5],qp 7 (.bld [.slice none 0 0,.nilFunc] [(0,1)]) [qt 6],qe 8 (.box 176) [qt 7],qm 2 8] [2])
 .ret)⟩
theorem K_store_New:compF Tryz.prog 79=some Ju:=by kernel_rfl
def ZJ:Fun:=⟨16,[6,0,1,7,12,2],[.tmp 6],
 .seq (qr [qp 6 .mov [.const (.bool false)]] [6])
 (.seq (qr [qm 8 0,qm 9 1,qa 10 116 [qt 8,qt 9,.const (.bool true)],qm 7 10] [7])
 (.seq (.seq (qr [qm 11 7,qp 12 (.eqn false 0) [qt 11]] [12])
 (.cond (qt 12) (.seq (qr [qp 6 .mov [.const (.bool false)]] [6])
 .ret) .skip))
 (.seq (qr [qm 13 7,qm 14 2,qn 15 13,qs 1 15 14] [])
 (.seq (qr [qp 6 .mov [.const (.bool true)]] [6])
 .ret))))⟩
theorem X82:compF Tryz.prog 85=some ZJ:=by kernel_rfl
def Z07:Fun:=⟨33,[6,1,0,14,19,2],[.tmp 6],
 .seq (qr [qp 6 .mov [.const (.pointer none)]] [6])
 (.seq (.seq (qr [qm 7 1,qc 8 .lss 7 0,qm 9 8,qg 10 9 false (.pur .mov [qt 1]),qg 11 9 false (.pur .mov [qt 0]),qg 12 9 false (.eff (.call 196) [qt 11]),qg 13 9 false (.pur (.bin .geq) [qt 10,qt 12]),qp 14 .pick [qt 9,.const (.bool true),qt 13]] [14])
 (.cond (qt 14) (.seq (qr [qp 6 .mov [.const (.pointer none)]] [6])
 .ret) .skip))
 (.seq (.seq (qr [qm 15 0,qn 16 15,qf 17 1 16,ql 18 17,qp 19 (.eqn true 2) [qt 18]] [19])
 (.cond (qt 19) (qr [qm 20 0,qn 21 20,qf 22 1 21,ql 23 22,qm 24 1,qm 25 2,qe 26 .callv [qt 23,qt 24,qt 25]] []) .skip))
 (.seq (qr [qm 27 0,qn 28 27,qf 29 0 28,ql 30 29,qm 31 1,qp 32 (.ixa 1) [qt 30,qt 31],qm 6 32] [6])
 .ret)))⟩
theorem Yb:compF Tryz.prog 116=some Z07:=by kernel_rfl
def XM:SCode:=
 .seq (qr [qb 20 .lss 19 18] [20])
 (.seq (.cond (qt 20) .skip (.exit 0))
 (.seq (.block 1 (.seq (qr [qp 21 (.ixa 1) [qt 17,qt 19],ql 22 21,qm 5 22] [5])
 (.seq (qr [qm 23 5,qf 24 1 1,ql 25 24,qp 26 (.len false) [qt 25],qa 27 198 [qt 23,qt 26],qm 6 27] [6])
 (.seq (qr [qm 28 6,qc 29 .neq 28 0] [29])
 (.cond (qt 29) (.seq (qr [qm 30 6,qm 2 30] [2])
 .ret) .skip)))))
 (qr [qc 31 .add 19 1,qm 19 31] [19])))
def Y45:Fun:=⟨32,[2,0,1,3,14,19,18,20,17,5,6,29],[.tmp 2],
 .seq (qr [qe 1 (.box 33) [qt 0],qp 2 .mov [qi 0]] [1,2])
 (.seq (.seq (qr [qf 7 0 1,ql 8 7,qf 9 1 1,ql 10 9,qp 11 (.len false) [qt 10],qa 12 197 [qt 8,qt 11],qm 3 12] [3])
 (.seq (qr [qm 13 3,qc 14 .neq 13 0] [14])
 (.cond (qt 14) (.seq (qr [qm 15 3,qm 2 15] [2])
 .ret) .skip)))
 (.seq (.seq (qr [qf 16 1 1,ql 17 16,qp 18 (.len false) [qt 17],qp 19 .mov [qi 0]] [17,18,19])
 (.block 0 (.loop XM)))
 (.seq (qr [qp 2 .mov [qi 0]] [2])
 .ret)))⟩
theorem K_prog_Check:compF Tryz.prog 120=some Y45:=by kernel_rfl
def Q68:SCode:=
 .seq (qr [qb 21 .lss 20 19] [21])
 (.seq (.cond (qt 21) .skip (.exit 0))
 (.seq (.block 1 (.seq (qr [qm 22 20,qm 8 22] [8])
 (.seq (qr [qm 23 1,qc 24 .geq 23 0,qm 25 24,qg 26 25 true (.pur .mov [qt 8]),qg 27 25 true (.pur .mov [qt 1]),qg 28 25 true (.pur (.bin .geq) [qt 26,qt 27]),qp 29 .pick [qt 25,qt 28,.const (.bool false)],qm 30 29,qg 31 30 true (.pur .mov [qt 8]),qg 32 30 true (.pur .mov [qt 1]),qg 33 30 true (.pur (.bin .sub) [qt 31,qt 32]),qg 34 30 true (.pur .mov [qt 2]),qg 35 30 true (.pur (.bin .lss) [qt 33,qt 34]),qp 36 .pick [qt 30,qt 35,.const (.bool false)]] [36])
 (.cond (qt 36) (qr [qm 37 0,qn 38 37,qf 39 0 38,ql 40 39,qm 41 8,qm 42 3,qp 43 (.ixa 1) [qt 40,qt 41],qs 1 43 42] []) .skip))))
 (qr [qc 44 .add 20 1,qm 20 44] [20])))
def Z08:Fun:=⟨45,[1,2,14,0,20,19,21,8,36,3],[],
 .seq (.seq (qr [qm 9 1,qc 10 .lss 9 0,qm 11 10,qg 12 11 true (.pur .mov [qt 2]),qg 13 11 true (.pur (.bin .gtr) [qt 12,qi 0]),qp 14 .pick [qt 11,qt 13,.const (.bool false)]] [14])
 (.cond (qt 14) (qr [qm 15 2,qm 16 1,qb 17 .add 15 16,qp 1 .mov [qi 0],qm 2 17] [1,2]) .skip))
 (.seq (qr [qm 18 0,qa 19 196 [qt 18],qp 20 .mov [qi 0]] [19,20])
 (.block 0 (.loop Q68)))⟩
theorem Yc:compF Tryz.prog 136=some Z08:=by kernel_rfl
def S_step_Do:Fun:=⟨92,[6,7,8,9,0,2,5,1,3,17,10,27,39,13,58,12,68,74,11],[.tmp 6,.cell 7 (some 8),.cell 8 (some 5),.tmp 9],
 .seq (qr [qe 3 (.box 126) [qt 0],qe 5 (.box 156) [qt 2],qp 6 .mov [qi 0],qe 7 (.new 156 [qv 0,qv 0,qv 0,qv 0,qv 0,qv 0,qv 0,qv 0]) [],qe 8 (.new 226 [qv 0,qv 0,qv 0,qv 0,qv 0]) [],qp 9 .mov [qi 0]] [3,5,6,7,8,9])
 (.seq (qr [qL 14 8 5,qm 15 1,qc 16 .add 15 1,qe 10 (.new 264 [qv 0,qv 0,qv 0,qv 0,qv 0,qv 0,qv 0,qv 0]) [],qs 8 10 14,qm 11 16] [10,11])
 (.seq (.block 0 (.seq (qr [qf 18 0 3,ql 19 18,qc 20 .eql 19 1,qm 17 20] [17])
 (.cond (qt 17) (.reg (.run (qf 21 1 3) (.run (ql 22 21) (.run (qf 24 2 3) (.run (ql 25 24) (.eff (qa 23 220 [qt 22]) [ql 25 24] (.run (qp 26 (.ixaA 8 1) [qt 10,qt 23]) (.eff (qs 1 26 25) [] .done))))))) []) (.seq (qr [qf 28 0 3,ql 29 28,qc 30 .eql 29 2,qm 27 30] [27])
 (.cond (qt 27) (.reg (.run (qf 31 1 3) (.run (ql 32 31) (.run (qL 34 8 10) (.run (qf 35 2 3) (.run (ql 36 35) (.eff (qa 33 220 [qt 32]) [ql 36 35,qL 34 8 10] (.eff (qa 37 221 [qt 34,qt 36]) [] (.run (qp 38 (.ixaA 8 1) [qt 10,qt 33]) (.eff (qs 1 38 37) [] .done))))))))) []) (.seq (qr [qf 40 0 3,ql 41 40,qa 42 222 [qt 41],qm 39 42] [39])
 (.cond (qt 39) (.seq (.reg (.run (qf 44 0 3) (.run (ql 45 44) (.run (qL 46 8 10) (.run (qf 47 2 3) (.run (ql 48 47) (.run (qL 50 8 10) (.run (qf 51 3 3) (.run (ql 52 51) (.eff (qa 49 221 [qt 46,qt 48]) [ql 52 51,qL 50 8 10,ql 45 44] (.eff (qa 53 221 [qt 50,qt 52]) [ql 45 44] (.eff (qa 54 223 [qt 45,qt 49,qt 53]) [] (.run (qm 43 54) (.run (qx 55 0 43) (.run (qx 56 1 43) (.run (qm 12 55) (.run (qm 13 56) .done)))))))))))))))) [12,13])
 (.seq (.seq (qr [qm 57 13,qc 58 .neq 57 0] [58])
 (.cond (qt 58) (.seq (.reg (.run (qm 59 1) (.run (qL 60 8 5) (.run (qp 61 (.bld [qv 0,qv 0,qv 0,qv 0,qv 0] []) []) (.run (qm 62 13) (.run (qm 6 59) (.eff (qs 8 7 60) [] (.eff (qs 5 8 61) [] (.run (qm 9 62) .done)))))))) [6,9])
 .ret) .skip))
 (qr [qf 63 1 3,ql 64 63,qa 65 220 [qt 64],qm 66 12,qp 67 (.ixaA 8 1) [qt 10,qt 65],qs 1 67 66] []))) (.seq (qr [qf 69 0 3,ql 70 69,qc 71 .eql 70 18,qm 68 71] [68])
 (.cond (qt 68) (qr [qf 72 1 3,ql 73 72,qm 11 73] [11]) (.seq (qr [qf 75 0 3,ql 76 75,qc 77 .eql 76 19,qm 78 77,qg 79 78 true (.ld (some 8) (qt 10)),qg 80 78 true (.pur (.fla 1) [qt 3]),qg 81 78 true (.ld none (qt 80)),qg 82 78 true (.eff (.call 221) [qt 79,qt 81]),qg 83 78 true (.pur (.bin .eql) [qt 82,qi 0]),qp 84 .pick [qt 78,qt 83,.const (.bool false)],qm 74 84] [74])
 (.cond (qt 74) (qr [qf 85 2 3,ql 86 85,qm 11 86] [11]) .skip)))))))))))
 (.seq (.reg (.run (qm 87 11) (.run (qL 88 8 10) (.run (qL 89 4 3) (.run (qL 90 8 5) (.eff (qa 91 224 [qt 89,qt 90]) [qL 88 8 10] (.run (qm 6 87) (.eff (qs 8 7 88) [] (.eff (qs 5 8 91) [] (.run (qp 9 .mov [qi 0]) .done))))))))) [6,9])
 .ret)))⟩
theorem K_step_Do:compF Tryz.prog 150=some S_step_Do:=by kernel_rfl
def Jv:Fun:=⟨11,[2,0,1],[.tmp 2],
 .seq (qr [qe 1 (.box 226) [qt 0],qp 2 .mov [.const (.bool false)]] [1,2])
 (.seq (qr [qf 3 0 1,ql 4 3,qc 5 .geq 4 7,qm 6 5,qg 7 6 true (.pur (.fla 0) [qt 1]),qg 8 6 true (.ld none (qt 7)),qg 9 6 true (.pur (.bin .leq) [qt 8,qi 12]),qp 10 .pick [qt 6,qt 9,.const (.bool false)],qm 2 10] [2])
 .ret)⟩
theorem K_step_Ends:compF Tryz.prog 152=some Jv:=by kernel_rfl
def Jw:Fun:=⟨11,[2,0,1],[.tmp 2],
 .seq (qr [qe 1 (.box 226) [qt 0],qp 2 .mov [.const (.bool false)]] [1,2])
 (.seq (qr [qf 3 0 1,ql 4 3,qc 5 .geq 4 1,qm 6 5,qg 7 6 true (.pur (.fla 0) [qt 1]),qg 8 6 true (.ld none (qt 7)),qg 9 6 true (.pur (.bin .leq) [qt 8,qi 4]),qp 10 .pick [qt 6,qt 9,.const (.bool false)],qm 2 10] [2])
 .ret)⟩
theorem K_step_Asks:compF Tryz.prog 155=some Jw:=by kernel_rfl
def Jx:Fun:=⟨24,[6,0,1,4,8,9,11,2,17,3],[.cell 6 (some 8)],
 .seq (qr [qe 3 (.box 156) [qt 0],qe 4 (.box 226) [qt 1],qe 6 (.new 156 [qv 0,qv 0,qv 0,qv 0,qv 0,qv 0,qv 0,qv 0]) []] [3,4,6])
 (.seq (.seq (qr [qf 7 0 4,ql 8 7] [8])
 (.block 0 (.seq (.block 2 (.seq (.block 1 (.seq (.seq (.seq (qr [qc 10 .eql 8 4,qm 9 10] [9])
 (.cond (qt 9) (.exit 1) .skip))
 (.seq (.seq (qr [qc 12 .eql 8 1,qm 11 12] [11])
 (.cond (qt 11) .skip (qr [qc 13 .eql 8 3,qm 11 13] [11])))
 (.cond (qt 11) (.exit 2) .skip)))
 (.exit 0)))
 (.seq (qr [qm 14 2,qf 15 2 4,ql 16 15,qb 17 .eql 14 16] [17])
 (.cond (qt 17) (qr [qp 2 .mov [qi 1]] [2]) (qr [qp 2 .mov [qi 0]] [2])))))
 (.seq (qr [qf 18 4 4,ql 19 18,qa 20 220 [qt 19],qm 21 2,qp 22 (.ixaA 8 1) [qt 3,qt 20],qs 1 22 21] [])
 (.exit 0)))))
 (.seq (qr [qL 23 8 3,qs 8 6 23] [])
 .ret))⟩
theorem K_step_Took:compF Tryz.prog 157=some Jx:=by kernel_rfl
def Y46:Fun:=⟨8,[4,0,1],[.tmp 4],
 .seq (qr [qp 4 .mov [.const (.bool false)]] [4])
 (.seq (qr [qm 5 0,qm 6 1,qb 7 .gtr 5 6,qm 4 7] [4])
 .ret)⟩
theorem K_stage_Past:compF Tryz.prog 175=some Y46:=by kernel_rfl
def Z09:Fun:=⟨10,[2,0,4],[.tmp 2],
 .seq (qr [qp 2 .mov [qi 0]] [2])
 (.seq (.seq (qr [qm 3 0,qp 4 (.eqn false 0) [qt 3]] [4])
 (.cond (qt 4) (.seq (qr [qp 2 .mov [qi 0]] [2])
 .ret) .skip))
 (.seq (qr [qm 5 0,qn 6 5,qf 7 0 6,ql 8 7,qp 9 (.len false) [qt 8],qm 2 9] [2])
 .ret))⟩
theorem Yd:compF Tryz.prog 196=some Z09:=by kernel_rfl
def Y47:Fun:=⟨13,[4,0,10,1],[.tmp 4],
 .seq (qr [qp 4 .mov [qi 0]] [4])
 (.seq (.seq (qr [qm 5 0,qc 6 .lss 5 0,qm 7 6,qg 8 7 false (.pur .mov [qt 0]),qg 9 7 false (.pur (.bin .gtr) [qt 8,qi 256]),qp 10 .pick [qt 7,.const (.bool true),qt 9]] [10])
 (.cond (qt 10) (.seq (qr [qp 4 .mov [qi 3]] [4])
 .ret) .skip))
 (.seq (qr [qm 11 1,qa 12 260 [qt 11,qi 16],qm 4 12] [4])
 .ret))⟩
theorem K_prog_sizes:compF Tryz.prog 197=some Y47:=by kernel_rfl
def Z10:SCode:=
 .seq (qr [qb 18 .lss 17 16] [18])
 (.seq (.cond (qt 18) .skip (.exit 0))
 (.seq (.block 1 (.seq (qr [qp 19 (.ixa 4) [qt 15,qt 17],qL 20 4 19,qe 7 (.new 126 [qv 0,qv 0,qv 0,qv 0]) [],qs 4 7 20] [7])
 (.seq (.seq (qr [qL 21 4 7,qa 22 261 [qt 21],qm 8 22] [8])
 (.seq (qr [qm 23 8,qc 24 .neq 23 0] [24])
 (.cond (qt 24) (.seq (qr [qm 25 8,qm 4 25] [4])
 .ret) .skip)))
 (.seq (qr [qL 26 4 7,qm 27 0,qp 28 (.len false) [qt 27],qm 29 1,qa 30 262 [qt 26,qt 28,qt 29],qp 31 .not [qt 30]] [31])
 (.cond (qt 31) (.seq (qr [qp 4 .mov [qi 11]] [4])
 .ret) .skip)))))
 (qr [qc 32 .add 17 1,qm 17 32] [17])))
def XN:Fun:=⟨44,[4,0,5,13,17,16,18,15,7,8,24,1,31,39,40],[.tmp 4],
 .seq (qr [qp 4 .mov [qi 0]] [4])
 (.seq (.seq (qr [qm 9 0,qp 10 (.len false) [qt 9],qa 11 260 [qt 10,qi 200],qm 5 11] [5])
 (.seq (qr [qm 12 5,qc 13 .neq 12 0] [13])
 (.cond (qt 13) (.seq (qr [qm 14 5,qm 4 14] [4])
 .ret) .skip)))
 (.seq (.seq (qr [qm 15 0,qp 16 (.len false) [qt 15],qp 17 .mov [qi 0]] [15,16,17])
 (.block 0 (.loop Z10)))
 (.seq (.seq (qr [qm 33 0,qm 34 0,qp 35 (.len false) [qt 34],qc 36 .sub 35 1,qp 37 (.ixa 4) [qt 33,qt 36],qf 38 0 37,ql 39 38] [39])
 (.block 2 (.seq (.seq (qr [qc 41 .eql 39 0,qm 40 41] [40])
 (.cond (qt 40) .skip (.seq (qr [qc 42 .eql 39 18,qm 40 42] [40])
 (.cond (qt 40) .skip (qr [qc 43 .eql 39 25,qm 40 43] [40])))))
 (.cond (qt 40) (.seq (qr [qp 4 .mov [qi 0]] [4])
 .ret) .skip))))
 (.seq (qr [qp 4 .mov [qi 12]] [4])
 .ret))))⟩
theorem Jy:compF Tryz.prog 198=some XN:=by kernel_rfl
def Jz:Fun:=⟨6,[2,0],[.tmp 2],
 .seq (qr [qp 2 .mov [qi 0]] [2])
 (.seq (qr [qm 3 0,qp 4 (.minmax true) [qt 3,qi 0],qp 5 (.minmax false) [qt 4,qi 7],qm 2 5] [2])
 .ret)⟩
theorem K_step_held:compF Tryz.prog 220=some Jz:=by kernel_rfl
def X69:Fun:=⟨9,[4,0,1,2],[.tmp 4],
 .seq (qr [qe 2 (.box 264) [qt 0],qp 4 .mov [qi 0]] [2,4])
 (.seq (qr [qm 5 1,qa 6 220 [qt 5],qp 7 (.ixaA 8 1) [qt 2,qt 6],ql 8 7,qm 4 8] [4])
 .ret)⟩
theorem J20:compF Tryz.prog 221=some X69:=by kernel_rfl
def Y48:Fun:=⟨9,[2,0],[.tmp 2],
 .seq (qr [qp 2 .mov [.const (.bool false)]] [2])
 (.seq (qr [qm 3 0,qc 4 .geq 3 3,qm 5 4,qg 6 5 true (.pur .mov [qt 0]),qg 7 5 true (.pur (.bin .leq) [qt 6,qi 12]),qp 8 .pick [qt 5,qt 7,.const (.bool false)],qm 2 8] [2])
 .ret)⟩
theorem K_wrap_Known:compF Tryz.prog 222=some Y48:=by kernel_rfl
def S_wrap_Do:Fun:=⟨61,[6,7,0,8,9,1,2,14,19,24,33,39,45,50,55],[.tmp 6,.tmp 7],
 .seq (qr [qp 6 .mov [qi 0],qp 7 .mov [qi 0]] [6,7])
 (.seq (.seq (qr [qm 8 0] [8])
 (.block 0 (.seq (qr [qc 10 .eql 8 3,qm 9 10] [9])
 (.cond (qt 9) (qr [qm 11 1,qm 12 2,qb 13 .add 11 12,qm 1 13] [1]) (.seq (qr [qc 15 .eql 8 4,qm 14 15] [14])
 (.cond (qt 14) (qr [qm 16 1,qm 17 2,qb 18 .sub 16 17,qm 1 18] [1]) (.seq (qr [qc 20 .eql 8 5,qm 19 20] [19])
 (.cond (qt 19) (qr [qm 21 1,qm 22 2,qb 23 .mul 21 22,qm 1 23] [1]) (.seq (.seq (qr [qc 25 .eql 8 6,qm 24 25] [24])
 (.cond (qt 24) .skip (qr [qc 26 .eql 8 7,qm 24 26] [24])))
 (.cond (qt 24) (.seq (qr [qm 27 0,qm 28 1,qm 29 2,qa 30 271 [qt 27,qt 28,qt 29],qx 31 0 30,qx 32 1 30,qm 6 31,qm 7 32] [6,7])
 .ret) (.seq (qr [qc 34 .eql 8 8,qm 33 34] [33])
 (.cond (qt 33) (qr [qm 35 1,qm 36 2,qb 37 .lss 35 36,qa 38 272 [qt 37],qm 1 38] [1]) (.seq (qr [qc 40 .eql 8 9,qm 39 40] [39])
 (.cond (qt 39) (qr [qm 41 1,qm 42 2,qb 43 .eql 41 42,qa 44 272 [qt 43],qm 1 44] [1]) (.seq (qr [qc 46 .eql 8 10,qm 45 46] [45])
 (.cond (qt 45) (qr [qm 47 1,qm 48 2,qb 49 .and 47 48,qm 1 49] [1]) (.seq (qr [qc 51 .eql 8 11,qm 50 51] [50])
 (.cond (qt 50) (qr [qm 52 1,qm 53 2,qb 54 .or 52 53,qm 1 54] [1]) (.seq (qr [qc 56 .eql 8 12,qm 55 56] [55])
 (.cond (qt 55) (qr [qm 57 1,qm 58 2,qb 59 .xor 57 58,qm 1 59] [1]) (qr [qp 1 .mov [qi 0]] [1])))))))))))))))))))))
 (.seq (qr [qm 60 1,qm 6 60,qp 7 .mov [qi 0]] [6,7])
 .ret))⟩
theorem K_wrap_Do:compF Tryz.prog 223=some S_wrap_Do:=by kernel_rfl
def S_step_of:Fun:=⟨83,[4,0,1,3,2,21,22,6,29,5,34,7,42,51,55,60,63,68,72,76,79],[.cell 4 (some 5)],
 .seq (qr [qe 2 (.box 126) [qt 0],qe 3 (.box 264) [qt 1],qe 4 (.new 226 [qv 0,qv 0,qv 0,qv 0,qv 0]) []] [2,3,4])
 (.seq (.reg (.run (qL 8 8 3) (.run (qf 9 1 2) (.run (ql 10 9) (.run (qL 12 8 3) (.run (qf 13 2 2) (.run (ql 14 13) (.run (qL 16 8 3) (.run (qf 17 3 2) (.run (ql 18 17) (.eff (qa 11 221 [qt 8,qt 10]) [ql 18 17,qL 16 8 3,ql 14 13,qL 12 8 3] (.eff (qa 15 221 [qt 12,qt 14]) [ql 18 17,qL 16 8 3] (.eff (qa 19 221 [qt 16,qt 18]) [] (.run (qm 5 11) (.run (qm 6 15) (.run (qm 7 19) .done))))))))))))))) [5,6,7])
 (.seq (.seq (qr [qf 20 0 2,ql 21 20] [21])
 (.block 0 (.seq (qr [qc 23 .eql 21 13,qm 22 23] [22])
 (.cond (qt 22) (.seq (qr [qm 24 6,qf 25 1 2,ql 26 25,qa 27 220 [qt 26],qp 28 (.bld [qv 0,qv 0,qv 0,qv 0,qv 0] [(0,1),(1,1),(4,1)]) [qi 1,qt 24,qt 27],qs 5 4 28] [])
 .ret) (.seq (qr [qc 30 .eql 21 14,qm 29 30] [29])
 (.cond (qt 29) (.seq (qr [qm 31 5,qm 32 6,qp 33 (.bld [qv 0,qv 0,qv 0,qv 0,qv 0] [(0,1),(1,1),(2,1)]) [qi 2,qt 31,qt 32],qs 5 4 33] [])
 .ret) (.seq (qr [qc 35 .eql 21 15,qm 34 35] [34])
 (.cond (qt 34) (.seq (qr [qm 36 6,qm 37 7,qf 38 1 2,ql 39 38,qa 40 220 [qt 39],qp 41 (.bld [qv 0,qv 0,qv 0,qv 0,qv 0] [(0,1),(1,1),(2,1),(4,1)]) [qi 3,qt 36,qt 37,qt 40],qs 5 4 41] [])
 .ret) (.seq (qr [qc 43 .eql 21 16,qm 42 43] [42])
 (.cond (qt 42) (.seq (qr [qm 44 6,qm 45 5,qm 46 7,qf 47 1 2,ql 48 47,qa 49 220 [qt 48],qp 50 (.bld [qv 0,qv 0,qv 0,qv 0,qv 0] [(0,1),(1,1),(2,1),(3,1),(4,1)]) [qi 4,qt 44,qt 45,qt 46,qt 49],qs 5 4 50] [])
 .ret) (.seq (qr [qc 52 .eql 21 17,qm 51 52] [51])
 (.cond (qt 51) (.seq (qr [qm 53 5,qp 54 (.bld [qv 0,qv 0,qv 0,qv 0,qv 0] [(0,1),(2,1)]) [qi 5,qt 53],qs 5 4 54] [])
 .ret) (.seq (qr [qc 56 .eql 21 20,qm 55 56] [55])
 (.cond (qt 55) (.seq (qr [qf 57 1 2,ql 58 57,qp 59 (.bld [qv 0,qv 0,qv 0,qv 0,qv 0] [(0,1),(2,1)]) [qi 6,qt 58],qs 5 4 59] [])
 .ret) (.seq (qr [qc 61 .eql 21 21,qm 60 61] [60])
 (.cond (qt 60) (.seq (qr [qp 62 (.bld [qv 0,qv 0,qv 0,qv 0,qv 0] [(0,1)]) [qi 7],qs 5 4 62] [])
 .ret) (.seq (qr [qc 64 .eql 21 22,qm 63 64] [63])
 (.cond (qt 63) (.seq (qr [qf 65 1 2,ql 66 65,qp 67 (.bld [qv 0,qv 0,qv 0,qv 0,qv 0] [(0,1),(2,1)]) [qi 8,qt 66],qs 5 4 67] [])
 .ret) (.seq (qr [qc 69 .eql 21 23,qm 68 69] [68])
 (.cond (qt 68) (.seq (qr [qm 70 5,qp 71 (.bld [qv 0,qv 0,qv 0,qv 0,qv 0] [(0,1),(2,1)]) [qi 9,qt 70],qs 5 4 71] [])
 .ret) (.seq (qr [qc 73 .eql 21 24,qm 72 73] [72])
 (.cond (qt 72) (.seq (qr [qm 74 5,qp 75 (.bld [qv 0,qv 0,qv 0,qv 0,qv 0] [(0,1),(2,1)]) [qi 10,qt 74],qs 5 4 75] [])
 .ret) (.seq (qr [qc 77 .eql 21 25,qm 76 77] [76])
 (.cond (qt 76) (.seq (qr [qp 78 (.bld [qv 0,qv 0,qv 0,qv 0,qv 0] [(0,1)]) [qi 11],qs 5 4 78] [])
 .ret) (.seq (qr [qc 80 .eql 21 0,qm 79 80] [79])
 (.cond (qt 79) (.seq (qr [qp 81 (.bld [qv 0,qv 0,qv 0,qv 0,qv 0] [(0,1)]) [qi 12],qs 5 4 81] [])
 .ret) .skip))))))))))))))))))))))))))
 (.seq (qr [qp 82 (.bld [qv 0,qv 0,qv 0,qv 0,qv 0] []) [],qs 5 4 82] [])
 .ret)))⟩
theorem K_step_of:compF Tryz.prog 224=some S_step_of:=by kernel_rfl
def Z56:Fun:=⟨25,[6,7,0,1,8,14,2,9],[.tmp 6,.tmp 7],
 .seq (qr [qp 6 .mov [qi 0],qp 7 .mov [.const (.bool false)]] [6,7])
 (.seq (qr [qm 10 0,qm 11 1,qa 12 116 [qt 10,qt 11,.const (.bool true)],qm 8 12] [8])
 (.seq (.seq (qr [qm 13 8,qp 14 (.eqn false 0) [qt 13]] [14])
 (.cond (qt 14) (.seq (qr [qp 6 .mov [qi 0],qp 7 .mov [.const (.bool false)]] [6,7])
 .ret) .skip))
 (.seq (qr [qm 15 8,qn 16 15,ql 17 16,qm 9 17] [9])
 (.seq (qr [qm 18 8,qn 19 18,ql 20 19,qm 21 2,qb 22 .add 20 21,qn 23 18,qs 1 23 22] [])
 (.seq (qr [qm 24 9,qm 6 24,qp 7 .mov [.const (.bool true)]] [6,7])
 .ret)))))⟩
theorem Y10:compF Tryz.prog 225=some Z56:=by kernel_rfl
def Z11:Fun:=⟨27,[8,9,0,1,10,16,11,2,22,3],[.tmp 8,.tmp 9],
 .seq (qr [qp 8 .mov [qi 0],qp 9 .mov [.const (.bool false)]] [8,9])
 (.seq (qr [qm 12 0,qm 13 1,qa 14 116 [qt 12,qt 13,.const (.bool true)],qm 10 14] [10])
 (.seq (.seq (qr [qm 15 10,qp 16 (.eqn false 0) [qt 15]] [16])
 (.cond (qt 16) (.seq (qr [qp 8 .mov [qi 0],qp 9 .mov [.const (.bool false)]] [8,9])
 .ret) .skip))
 (.seq (qr [qm 17 10,qn 18 17,ql 19 18,qm 11 19] [11])
 (.seq (.seq (qr [qm 20 11,qm 21 2,qb 22 .eql 20 21] [22])
 (.cond (qt 22) (qr [qm 23 10,qm 24 3,qn 25 23,qs 1 25 24] []) .skip))
 (.seq (qr [qm 26 11,qm 8 26,qp 9 .mov [.const (.bool true)]] [8,9])
 .ret)))))⟩
theorem Ye:compF Tryz.prog 227=some Z11:=by kernel_rfl
def JA:Fun:=⟨12,[4,0,5,1,8],[.tmp 4],
 .seq (qr [qp 4 .mov [qi 0]] [4])
 (.seq (.block 0 (.seq (qr [qm 6 0,qc 7 .eql 6 0,qm 5 7] [5])
 (.cond (qt 5) (.seq (qr [qp 4 .mov [qi 7]] [4])
 .ret) (.seq (qr [qm 9 0,qm 10 1,qb 11 .gtr 9 10,qm 8 11] [8])
 (.cond (qt 8) (.seq (qr [qp 4 .mov [qi 9]] [4])
 .ret) .skip)))))
 (.seq (qr [qp 4 .mov [qi 0]] [4])
 .ret))⟩
theorem K_prog_many:compF Tryz.prog 260=some JA:=by kernel_rfl
def X70:SCode:=
 .seq (qr [qb 24 .lss 23 22] [24])
 (.seq (.cond (qt 24) .skip (.exit 0))
 (.seq (.block 1 (.seq (qr [qm 25 23,qm 5 25] [5])
 (.seq (.reg (.run (qm 26 3) (.run (qm 27 5) (.run (qp 28 .ixs [qt 26,qt 27]) (.run (qm 29 5) (.run (qp 30 (.ixaA 3 1) [qt 4,qt 29]) (.run (ql 31 30) (.eff (qa 32 296 [qt 28,qt 31]) [] (.run (qp 33 .not [qt 32]) .done)))))))) [33])
 (.cond (qt 33) (.seq (qr [qp 2 .mov [qi 3]] [2])
 .ret) .skip))))
 (qr [qc 34 .add 23 1,qm 23 34] [23])))
def X71:SCode:=
 .seq (qr [qb 40 .lss 39 38] [40])
 (.seq (.cond (qt 40) .skip (.exit 2))
 (.seq (.block 3 (.seq (qr [qp 41 (.ixa 1) [qt 37,qt 39],ql 42 41,qm 7 42] [7])
 (.seq (qr [qm 43 7,qc 44 .neq 43 0] [44])
 (.cond (qt 44) (.seq (qr [qp 2 .mov [qi 4]] [2])
 .ret) .skip))))
 (qr [qc 45 .add 39 1,qm 39 45] [39])))
def JB:Fun:=⟨46,[2,0,1,15,3,23,22,24,5,4,33,39,38,40,37,7,44],[.tmp 2],
 .seq (qr [qe 1 (.box 126) [qt 0],qp 2 .mov [qi 0]] [1,2])
 (.seq (.seq (qr [qf 8 0 1,ql 9 8,qc 10 .lss 9 0,qm 11 10,qg 12 11 false (.pur (.fla 0) [qt 1]),qg 13 11 false (.ld none (qt 12)),qg 14 11 false (.pur (.bin .geq) [qt 13,qi 26]),qp 15 .pick [qt 11,.const (.bool true),qt 14]] [15])
 (.cond (qt 15) (.seq (qr [qp 2 .mov [qi 5]] [2])
 .ret) .skip))
 (.seq (.reg (.run (qf 16 0 1) (.run (ql 17 16) (.run (qL 19 4 1) (.both (.eff (qa 18 294 [qt 17]) [qL 19 4 1] (.both (.eff (qa 20 295 [qt 19]) [] (.eff (qe 4 (.new 303 [qv 0,qv 0,qv 0]) []) [] (.run (qm 3 18) (.eff (qs 3 4 20) [] .done)))) (.eff (qe 4 (.new 303 [qv 0,qv 0,qv 0]) []) [qL 19 4 1] (.eff (qa 20 295 [qt 19]) [] (.run (qm 3 18) (.eff (qs 3 4 20) [] .done)))))) (.eff (qe 4 (.new 303 [qv 0,qv 0,qv 0]) []) [qL 19 4 1,ql 17 16] (.eff (qa 18 294 [qt 17]) [qL 19 4 1] (.eff (qa 20 295 [qt 19]) [] (.run (qm 3 18) (.eff (qs 3 4 20) [] .done))))))))) [4,3])
 (.seq (.seq (qr [qm 21 3,qp 22 (.len true) [qt 21],qp 23 .mov [qi 0]] [22,23])
 (.block 0 (.loop X70)))
 (.seq (.seq (qr [qm 35 3,qp 36 (.len true) [qt 35],qp 37 (.slcA 3 1 true false) [qt 4,qt 36],qp 38 (.len false) [qt 37],qp 39 .mov [qi 0]] [37,38,39])
 (.block 2 (.loop X71)))
 (.seq (qr [qp 2 .mov [qi 0]] [2])
 .ret)))))⟩
theorem K_ins_Check:compF Tryz.prog 261=some JB:=by kernel_rfl
def Y49:Fun:=⟨28,[6,0,3,8,9,1,15,21,2],[.tmp 6],
 .seq (qr [qe 3 (.box 126) [qt 0],qp 6 .mov [.const (.bool false)]] [3,6])
 (.seq (.seq (qr [qf 7 0 3,ql 8 7] [8])
 (.block 0 (.seq (qr [qc 10 .eql 8 18,qm 9 10] [9])
 (.cond (qt 9) (.seq (qr [qf 11 1 3,ql 12 11,qm 13 1,qb 14 .lss 12 13,qm 6 14] [6])
 .ret) (.seq (qr [qc 16 .eql 8 19,qm 15 16] [15])
 (.cond (qt 15) (.seq (qr [qf 17 2 3,ql 18 17,qm 19 1,qb 20 .lss 18 19,qm 6 20] [6])
 .ret) (.seq (.seq (qr [qc 22 .eql 8 20,qm 21 22] [21])
 (.cond (qt 21) .skip (qr [qc 23 .eql 8 22,qm 21 23] [21])))
 (.cond (qt 21) (.seq (qr [qf 24 1 3,ql 25 24,qm 26 2,qb 27 .lss 25 26,qm 6 27] [6])
 .ret) .skip))))))))
 (.seq (qr [qp 6 .mov [.const (.bool true)]] [6])
 .ret))⟩
theorem K_prog_leads:compF Tryz.prog 262=some Y49:=by kernel_rfl
def J47:Fun:=⟨12,[4,1,0,11],[.tmp 4],
 .seq (qr [qp 4 .mov [qi 0]] [4])
 (.seq (.seq (qr [qm 5 1,qm 6 0,qb 7 .leq 5 6,qm 8 7,qg 9 8 false (.pur .mov [qt 1]),qg 10 8 false (.pur (.bin .gtr) [qt 9,qi 1048575]),qp 11 .pick [qt 8,.const (.bool true),qt 10]] [11])
 (.cond (qt 11) (.seq (qr [qp 4 .mov [qi 3]] [4])
 .ret) .skip))
 (.seq (qr [qp 4 .mov [qi 0]] [4])
 .ret))⟩
theorem K_stage_Go:compF Tryz.prog 263=some J47:=by kernel_rfl
def Yf:Fun:=⟨20,[6,7,2,8,0,11,1],[.tmp 6,.tmp 7],
 .seq (qr [qp 6 .mov [qi 0],qp 7 .mov [qi 0]] [6,7])
 (.seq (.block 0 (.seq (qr [qm 9 2,qc 10 .eql 9 0,qm 8 10] [8])
 (.cond (qt 8) (.seq (qr [qp 6 .mov [qi 0],qp 7 .mov [qi 1]] [6,7])
 .ret) (.seq (qr [qm 12 0,qc 13 .eql 12 6,qm 11 13] [11])
 (.cond (qt 11) (.seq (qr [qm 14 1,qm 15 2,qb 16 .quo 14 15,qm 6 16,qp 7 .mov [qi 0]] [6,7])
 .ret) .skip)))))
 (.seq (qr [qm 17 1,qm 18 2,qb 19 .rem 17 18,qm 6 19,qp 7 .mov [qi 0]] [6,7])
 .ret))⟩
theorem J82:compF Tryz.prog 271=some Yf:=by kernel_rfl
def J48:Fun:=⟨4,[2,0,3],[.tmp 2],
 .seq (qr [qp 2 .mov [qi 0]] [2])
 (.seq (.seq (qr [qm 3 0] [3])
 (.cond (qt 3) (.seq (qr [qp 2 .mov [qi 1]] [2])
 .ret) .skip))
 (.seq (qr [qp 2 .mov [qi 0]] [2])
 .ret))⟩
theorem K_wrap_yes:compF Tryz.prog 272=some J48:=by kernel_rfl
def J49:Fun:=⟨48,[2,0,4,15,22,29,32,35,38,3],[.tmp 2],
 .seq (qr [qp 2 .mov [.const (.string ⟨#[]⟩)]] [2])
 (.seq (qr [qp 3 .mov [.const (.string ⟨#[]⟩)]] [3])
 (.seq (.block 0 (.seq (.block 7 (.seq (.block 6 (.seq (.block 5 (.seq (.block 4 (.seq (.block 3 (.seq (.block 2 (.seq (.block 1 (.seq (.seq (.seq (.seq (qr [qm 5 0,qc 6 .geq 5 3,qm 7 6,qg 8 7 true (.pur .mov [qt 0]),qg 9 7 true (.pur (.bin .leq) [qt 8,qi 12]),qp 10 .pick [qt 7,qt 9,.const (.bool false)],qm 4 10] [4])
 (.cond (qt 4) .skip (.seq (qr [qm 11 0,qc 12 .eql 11 15,qm 4 12] [4])
 (.cond (qt 4) .skip (qr [qm 13 0,qc 14 .eql 13 16,qm 4 14] [4])))))
 (.cond (qt 4) (.exit 1) .skip))
 (.seq (.seq (.seq (qr [qm 16 0,qc 17 .eql 16 2,qm 15 17] [15])
 (.cond (qt 15) .skip (.seq (qr [qm 18 0,qc 19 .eql 18 13,qm 15 19] [15])
 (.cond (qt 15) .skip (qr [qm 20 0,qc 21 .eql 20 14,qm 15 21] [15])))))
 (.cond (qt 15) (.exit 2) .skip))
 (.seq (.seq (.seq (qr [qm 23 0,qc 24 .eql 23 17,qm 22 24] [22])
 (.cond (qt 22) .skip (.seq (qr [qm 25 0,qc 26 .eql 25 23,qm 22 26] [22])
 (.cond (qt 22) .skip (qr [qm 27 0,qc 28 .eql 27 24,qm 22 28] [22])))))
 (.cond (qt 22) (.exit 3) .skip))
 (.seq (.seq (qr [qm 30 0,qc 31 .eql 30 1,qm 29 31] [29])
 (.cond (qt 29) (.exit 4) .skip))
 (.seq (.seq (qr [qm 33 0,qc 34 .eql 33 19,qm 32 34] [32])
 (.cond (qt 32) (.exit 5) .skip))
 (.seq (.seq (qr [qm 36 0,qc 37 .eql 36 18,qm 35 37] [35])
 (.cond (qt 35) (.exit 6) .skip))
 (.seq (.seq (qr [qm 39 0,qc 40 .eql 39 20,qm 38 40] [38])
 (.cond (qt 38) .skip (qr [qm 41 0,qc 42 .eql 41 22,qm 38 42] [38])))
 (.cond (qt 38) (.exit 7) .skip))))))))
 (.exit 0)))
 (qr [qp 3 .mov [.const (.string ⟨#[114]⟩)]] [3])))
 (qr [qm 43 3,qp 44 (.bin .add) [qt 43,.const (.string ⟨#[114]⟩)],qm 3 44] [3])))
 (.seq (qr [qm 45 3,qp 46 (.bin .add) [qt 45,.const (.string ⟨#[114]⟩)],qm 3 46] [3])
 (.exit 0))))
 (.seq (qr [qp 3 .mov [.const (.string ⟨#[114,110]⟩)]] [3])
 (.exit 0))))
 (.seq (qr [qp 3 .mov [.const (.string ⟨#[114,116]⟩)]] [3])
 (.exit 0))))
 (.seq (qr [qp 3 .mov [.const (.string ⟨#[116]⟩)]] [3])
 (.exit 0))))
 (.seq (qr [qp 3 .mov [.const (.string ⟨#[102]⟩)]] [3])
 (.exit 0))))
 (.seq (qr [qm 47 3,qm 2 47] [2])
 .ret)))⟩
theorem K_ins_Form:compF Tryz.prog 294=some J49:=by kernel_rfl
def Y50:Fun:=⟨10,[2,0,1],[.cell 2 (some 3)],
 .seq (qr [qe 1 (.box 126) [qt 0],qe 2 (.new 303 [qv 0,qv 0,qv 0]) []] [1,2])
 (.seq (qr [qf 3 1 1,ql 4 3,qf 5 2 1,ql 6 5,qf 7 3 1,ql 8 7,qp 9 (.bld [qv 0,qv 0,qv 0] [(0,1),(1,1),(2,1)]) [qt 4,qt 6,qt 8],qs 3 2 9] [])
 .ret)⟩
theorem K_ins_fields:compF Tryz.prog 295=some Y50:=by kernel_rfl
def J50:Fun:=⟨36,[4,0,5,6,1,14,22],[.tmp 4],
 .seq (qr [qp 4 .mov [.const (.bool false)]] [4])
 (.seq (.seq (qr [qm 5 0] [5])
 (.block 0 (.seq (qr [qp 7 (.bin .eql) [qt 5,.const (.int .u8 114)],qm 6 7] [6])
 (.cond (qt 6) (.seq (qr [qm 8 1,qc 9 .geq 8 0,qm 10 9,qg 11 10 true (.pur .mov [qt 1]),qg 12 10 true (.pur (.bin .leq) [qt 11,qi 7]),qp 13 .pick [qt 10,qt 12,.const (.bool false)],qm 4 13] [4])
 .ret) (.seq (qr [qp 15 (.bin .eql) [qt 5,.const (.int .u8 102)],qm 14 15] [14])
 (.cond (qt 14) (.seq (qr [qm 16 1,qc 17 .geq 16 0,qm 18 17,qg 19 18 true (.pur .mov [qt 1]),qg 20 18 true (.pur (.bin .leq) [qt 19,qi 15]),qp 21 .pick [qt 18,qt 20,.const (.bool false)],qm 4 21] [4])
 .ret) (.seq (qr [qp 23 (.bin .eql) [qt 5,.const (.int .u8 116)],qm 22 23] [22])
 (.cond (qt 22) (.seq (qr [qm 24 1,qc 25 .geq 24 0,qm 26 25,qg 27 26 true (.pur .mov [qt 1]),qg 28 26 true (.pur (.bin .leq) [qt 27,qi 199]),qp 29 .pick [qt 26,qt 28,.const (.bool false)],qm 4 29] [4])
 .ret) .skip))))))))
 (.seq (qr [qm 30 1,qc 31 .geq 30 (-32768),qm 32 31,qg 33 32 true (.pur .mov [qt 1]),qg 34 32 true (.pur (.bin .leq) [qt 33,qi 32767]),qp 35 .pick [qt 32,qt 34,.const (.bool false)],qm 4 35] [4])
 .ret))⟩
theorem K_ins_fits:compF Tryz.prog 296=some J50:=by kernel_rfl
def Z13:Fun:=⟨15,[4,0,2,6,1],[.tmp 4],
 .seq (qr [qe 2 (.box 120) [qt 0],qp 4 .mov [qi 0]] [2,4])
 (.seq (.seq (qr [qL 5 4 2,qa 6 117 [qt 5]] [6])
 (.cond (qt 6) (.seq (qr [qp 4 .mov [qi 0]] [4])
 .ret) .skip))
 (.seq (.reg (.run (qm 7 1) (.run (qf 8 0 2) (.run (ql 9 8) (.run (qc 10 .sub 9 1) (.run (qL 12 4 2) (.eff (qa 11 118 [qt 7,qi 0,qt 10]) [qL 12 4 2] (.eff (qa 13 119 [qt 12]) [] (.run (qb 14 .mul 11 13) (.run (qm 4 14) .done))))))))) [4])
 .ret))⟩
theorem Yj:compF Tryz.prog 69=some Z13:=by kernel_rfl
def Z14:Fun:=⟨19,[6,0,3,8,1,2],[.tmp 6],
 .seq (qr [qe 3 (.box 120) [qt 0],qp 6 .mov [qi 0]] [3,6])
 (.seq (.seq (qr [qL 7 4 3,qa 8 117 [qt 7]] [8])
 (.cond (qt 8) (.seq (qr [qp 6 .mov [qi 0]] [6])
 .ret) .skip))
 (.seq (.reg (.run (qL 9 4 3) (.run (qm 10 1) (.run (qm 13 2) (.run (qp 14 (.minmax true) [qt 13,qi 0]) (.run (qf 15 3 3) (.run (ql 16 15) (.run (qb 17 .rem 14 16) (.eff (qa 11 69 [qt 9,qt 10]) [ql 16 15] (.run (qc 12 .add 11 4) (.run (qb 18 .add 12 17) (.run (qm 6 18) .done))))))))))) [6])
 .ret))⟩
theorem Yk:compF Tryz.prog 70=some Z14:=by kernel_rfl
def Z15:Fun:=⟨16,[2,0,1,4],[.tmp 2],
 .seq (qr [qe 1 (.box 120) [qt 0],qp 2 .mov [qi 0]] [1,2])
 (.seq (.seq (qr [qL 3 4 1,qa 4 117 [qt 3]] [4])
 (.cond (qt 4) (.seq (qr [qp 2 .mov [qi 0]] [2])
 .ret) .skip))
 (.seq (.reg (.run (qf 5 0 1) (.run (ql 6 5) (.run (qL 7 4 1) (.run (qf 10 1 1) (.run (ql 11 10) (.run (qL 12 4 1) (.eff (qa 8 119 [qt 7]) [qL 12 4 1,ql 11 10,ql 6 5] (.run (qb 9 .mul 6 8) (.eff (qa 13 133 [qt 12]) [ql 11 10,ql 6 5] (.run (qb 14 .mul 11 13) (.run (qb 15 .add 9 14) (.run (qm 2 15) .done)))))))))))) [2])
 .ret))⟩
theorem Yl:compF Tryz.prog 81=some Z15:=by kernel_rfl
def Z57:Fun:=⟨6,[2,0,1],[.tmp 2],
 .seq (qr [qe 1 (.box 120) [qt 0],qp 2 .mov [.const (.bool false)]] [1,2])
 (.seq (qr [qL 3 4 1,qa 4 132 [qt 3],qc 5 .neq 4 0,qm 2 5] [2])
 .ret)⟩
theorem Y11:compF Tryz.prog 117=some Z57:=by kernel_rfl
def Xe:Fun:=⟨12,[6,0,1,2],[.tmp 6],
 .seq (qr [qp 6 .mov [qi 0]] [6])
 (.seq (qr [qm 7 0,qm 8 1,qp 9 (.minmax true) [qt 7,qt 8],qm 10 2,qp 11 (.minmax false) [qt 9,qt 10],qm 6 11] [6])
 .ret)⟩
theorem Y78:compF Tryz.prog 118=some Xe:=by kernel_rfl
def Z16:Fun:=⟨6,[2,0,1],[.tmp 2],
 .seq (qr [qe 1 (.box 120) [qt 0],qp 2 .mov [qi 0]] [1,2])
 (.seq (qr [qf 3 3 1,ql 4 3,qp 5 (.bin .add) [qi 4,qt 4],qm 2 5] [2])
 .ret)⟩
theorem Ym:compF Tryz.prog 119=some Z16:=by kernel_rfl
def Q19:Fun:=⟨20,[2,0,1,3,19],[.tmp 2],
 .seq (qr [qe 1 (.box 120) [qt 0],qp 2 .mov [qi 0]] [1,2])
 (.seq (.reg (.run (qf 4 0 1) (.run (ql 5 4) (.run (qf 7 1 1) (.run (ql 8 7) (.run (qf 10 2 1) (.run (ql 11 10) (.run (qf 13 3 1) (.run (ql 14 13) (.both (.eff (qa 6 118 [qt 5,qi 1,qi 64]) [ql 14 13,ql 11 10,ql 8 7] (.both (.eff (qa 9 118 [qt 8,qi 1,qi 256]) [ql 14 13,ql 11 10] (.both (.eff (qa 12 118 [qt 11,qi 1,qi 64]) [ql 14 13] (.both (.eff (qa 15 118 [qt 14,qi 2,qi 256]) [] (.run (qp 16 (.bld [qv 0,qv 0,qv 0,qv 0] [(0,1),(1,1),(2,1),(3,1)]) [qt 6,qt 9,qt 12,qt 15]) (.eff (qe 3 (.new 120 [qv 0,qv 0,qv 0,qv 0]) []) [] (.eff (qs 4 3 16) [] .done)))) (.eff (qe 3 (.new 120 [qv 0,qv 0,qv 0,qv 0]) []) [ql 14 13] (.eff (qa 15 118 [qt 14,qi 2,qi 256]) [] (.run (qp 16 (.bld [qv 0,qv 0,qv 0,qv 0] [(0,1),(1,1),(2,1),(3,1)]) [qt 6,qt 9,qt 12,qt 15]) (.eff (qs 4 3 16) [] .done)))))) (.eff (qe 3 (.new 120 [qv 0,qv 0,qv 0,qv 0]) []) [ql 14 13,ql 11 10] (.eff (qa 12 118 [qt 11,qi 1,qi 64]) [ql 14 13] (.eff (qa 15 118 [qt 14,qi 2,qi 256]) [] (.run (qp 16 (.bld [qv 0,qv 0,qv 0,qv 0] [(0,1),(1,1),(2,1),(3,1)]) [qt 6,qt 9,qt 12,qt 15]) (.eff (qs 4 3 16) [] .done))))))) (.eff (qe 3 (.new 120 [qv 0,qv 0,qv 0,qv 0]) []) [ql 14 13,ql 11 10,ql 8 7] (.eff (qa 9 118 [qt 8,qi 1,qi 256]) [ql 14 13,ql 11 10] (.eff (qa 12 118 [qt 11,qi 1,qi 64]) [ql 14 13] (.eff (qa 15 118 [qt 14,qi 2,qi 256]) [] (.run (qp 16 (.bld [qv 0,qv 0,qv 0,qv 0] [(0,1),(1,1),(2,1),(3,1)]) [qt 6,qt 9,qt 12,qt 15]) (.eff (qs 4 3 16) [] .done)))))))) (.eff (qe 3 (.new 120 [qv 0,qv 0,qv 0,qv 0]) []) [ql 14 13,ql 11 10,ql 8 7,ql 5 4] (.eff (qa 6 118 [qt 5,qi 1,qi 64]) [ql 14 13,ql 11 10,ql 8 7] (.eff (qa 9 118 [qt 8,qi 1,qi 256]) [ql 14 13,ql 11 10] (.eff (qa 12 118 [qt 11,qi 1,qi 64]) [ql 14 13] (.eff (qa 15 118 [qt 14,qi 2,qi 256]) [] (.run (qp 16 (.bld [qv 0,qv 0,qv 0,qv 0] [(0,1),(1,1),(2,1),(3,1)]) [qt 6,qt 9,qt 12,qt 15]) (.eff (qs 4 3 16) [] .done)))))))))))))))) [3])
 (.seq (.seq (qr [qL 17 4 1,qL 18 4 3,qp 19 (.eqs true [.int .i64,.int .i64,.int .i64,.int .i64]) [qt 17,qt 18]] [19])
 (.cond (qt 19) (.seq (qr [qp 2 .mov [qi 3]] [2])
 .ret) .skip))
 (.seq (qr [qp 2 .mov [qi 0]] [2])
 .ret)))⟩
theorem ZL:compF Tryz.prog 132=some Q19:=by kernel_rfl
def Z17:Fun:=⟨10,[2,0,1,4],[.tmp 2],
 .seq (qr [qe 1 (.box 120) [qt 0],qp 2 .mov [qi 0]] [1,2])
 (.seq (.seq (qr [qL 3 4 1,qa 4 117 [qt 3]] [4])
 (.cond (qt 4) (.seq (qr [qp 2 .mov [qi 0]] [2])
 .ret) .skip))
 (.seq (qr [qf 5 2 1,ql 6 5,qc 7 .add 6 1,qp 8 (.bin .mul) [qi 4,qt 7],qp 9 (.bin .add) [qi 2,qt 8],qm 2 9] [2])
 .ret))⟩
theorem Yn:compF Tryz.prog 133=some Z17:=by kernel_rfl
def ZM:Fun:=⟨21,[4,0,2,6,1],[.tmp 4],
 .seq (qr [qe 2 (.box 120) [qt 0],qp 4 .mov [qi 0]] [2,4])
 (.seq (.seq (qr [qL 5 4 2,qa 6 117 [qt 5]] [6])
 (.cond (qt 6) (.seq (qr [qp 4 .mov [qi 0]] [4])
 .ret) .skip))
 (.seq (.reg (.run (qf 7 0 2) (.run (ql 8 7) (.run (qL 9 4 2) (.run (qm 12 1) (.run (qf 13 1 2) (.run (ql 14 13) (.run (qL 17 4 2) (.eff (qa 10 119 [qt 9]) [qL 17 4 2,ql 14 13,ql 8 7] (.run (qb 11 .mul 8 10) (.eff (qa 15 118 [qt 12,qi 1,qt 14]) [qL 17 4 2,ql 8 7] (.run (qc 16 .sub 15 1) (.eff (qa 18 133 [qt 17]) [ql 8 7] (.run (qb 19 .mul 16 18) (.run (qb 20 .add 11 19) (.run (qm 4 20) .done))))))))))))))) [4])
 .ret))⟩
theorem X84:compF Tryz.prog 137=some ZM:=by kernel_rfl
def Y51:Fun:=⟨18,[4,0,1,6,5],[.tmp 4],
 .seq (qr [qp 4 .mov [.const (.bool false)]] [4])
 (.seq (qr [qm 8 0,qm 9 1,qa 10 225 [qt 8,qt 9,qi (-1)],qm 7 10,qx 11 0 7,qx 12 1 7,qm 5 11,qm 6 12] [5,6])
 (.seq (qr [qm 13 6,qm 14 13,qg 15 14 true (.pur .mov [qt 5]),qg 16 14 true (.pur (.bin .eql) [qt 15,qi 1]),qp 17 .pick [qt 14,qt 16,.const (.bool false)],qm 4 17] [4])
 .ret))⟩
theorem K_join_Leave:compF Tryz.prog 153=some Y51:=by kernel_rfl
def Y52:Fun:=⟨7,[0,1],[],
 qr [qm 4 0,qm 5 1,qa 6 85 [qt 4,qt 5,qi 1]] []⟩
theorem K_join_Again:compF Tryz.prog 160=some Y52:=by kernel_rfl
def Y53:Fun:=⟨7,[0,1],[],
 qr [qm 4 0,qm 5 1,qa 6 225 [qt 4,qt 5,qi 1]] []⟩
theorem K_join_Spawn:compF Tryz.prog 161=some Y53:=by kernel_rfl
def X72:Fun:=⟨17,[0,1,4,2,3],[],
 .seq (qr [qe 4 (.box 239) [qt 0]] [4])
 (qr [qm 8 1,qf 9 0 4,qL 10 4 9,qf 11 4 4,ql 12 11,qm 13 2,qa 14 235 [qt 10,qt 12,qt 13],qm 15 3,qa 16 85 [qt 8,qt 14,qt 15]] [])⟩
theorem J21:compF Tryz.prog 165=some X72:=by kernel_rfl
def Z18:Fun:=⟨96,[4,0,8,12,13,1,5,6,50,70],[.tmp 4],
 .seq (qr [qp 4 .mov [.const (.bool false)]] [4])
 (.seq (.seq (qr [qm 7 0,qp 8 (.eqn false 0) [qt 7]] [8])
 (.cond (qt 8) (.seq (qr [qp 4 .mov [.const (.bool true)]] [4])
 .ret) .skip))
 (.seq (.seq (qr [qm 9 0,qn 10 9,qf 11 9 10,ql 12 11] [12])
 (.block 0 (.seq (qr [qc 14 .eql 12 0,qm 13 14] [13])
 (.cond (qt 13) (.seq (.reg (.run (qm 16 0) (.run (qn 17 16) (.run (qf 18 0 17) (.run (qL 19 6 18) (.run (qm 20 0) (.run (qn 21 20) (.run (qf 22 0 21) (.run (qL 23 6 22) (.run (qm 24 1) (.run (qm 25 0) (.run (qn 26 25) (.run (qf 27 6 26) (.run (ql 28 27) (.run (qm 30 0) (.run (qn 31 30) (.run (qf 32 6 31) (.run (ql 33 32) (.run (qm 34 0) (.run (qn 35 34) (.run (qf 36 7 35) (.run (ql 37 36) (.eff (qa 29 238 [qt 23,qt 24,qt 28]) [ql 37 36,ql 33 32,qL 19 6 18] (.eff (qa 38 237 [qt 19,qt 29,qt 33,qt 37]) [] (.run (qm 15 38) (.run (qx 39 0 15) (.run (qx 40 1 15) (.run (qm 5 39) (.run (qm 6 40) .done)))))))))))))))))))))))))))) [5,6])
 (qr [qm 41 0,qm 42 0,qm 43 5,qm 44 6,qa 45 239 [qt 44,qi 1],qn 46 41,qf 47 8 46,qs 1 47 43,qn 48 42,qf 49 9 48,qs 1 49 45] [])) (.seq (qr [qc 51 .eql 12 1,qm 50 51] [50])
 (.cond (qt 50) (.reg (.run (qm 52 0) (.run (qm 53 0) (.run (qn 54 53) (.run (qf 55 0 54) (.run (qL 56 6 55) (.run (qm 57 1) (.run (qm 58 0) (.run (qn 59 58) (.run (qf 60 6 59) (.run (ql 61 60) (.run (qm 62 0) (.run (qn 63 62) (.run (qf 64 8 63) (.run (ql 65 64) (.eff (qa 66 240 [qt 56,qt 57,qt 61,qt 65]) [] (.eff (qa 67 239 [qt 66,qi 2]) [] (.run (qn 68 52) (.run (qf 69 9 68) (.eff (qs 1 69 67) [] .done))))))))))))))))))) []) (.seq (qr [qc 71 .eql 12 2,qm 70 71] [70])
 (.cond (qt 70) (.reg (.run (qm 72 0) (.run (qm 73 0) (.run (qm 74 0) (.run (qm 75 0) (.run (qn 76 75) (.run (qf 77 0 76) (.run (qL 78 6 77) (.run (qm 79 1) (.run (qm 80 0) (.run (qn 81 80) (.run (qf 82 6 81) (.run (ql 83 82) (.eff (qa 84 241 [qt 78,qt 79,qt 83]) [] (.run (qn 85 72) (.run (qf 86 10 85) (.eff (qs 1 86 84) [] (.run (qn 87 73) (.run (qf 88 11 87) (.eff (qE (.st 1) [qt 88,.const (.bool true)]) [] (.run (qn 89 74) (.run (qf 90 9 89) (.eff (qE (.st 1) [qt 90,qi 3]) [] .done)))))))))))))))))))))) []) .skip))))))))
 (.seq (qr [qm 91 0,qn 92 91,qf 93 9 92,ql 94 93,qc 95 .eql 94 3,qm 4 95] [4])
 .ret)))⟩
theorem Yo:compF Tryz.prog 170=some Z18:=by kernel_rfl
def Z58:Fun:=⟨14,[2,3,0,5],[.tmp 2,.tmp 3],
 .seq (qr [qp 2 .mov [qi 0],qp 3 .mov [.const (.bool false)]] [2,3])
 (.seq (.seq (qr [qm 4 0,qp 5 (.eqn false 0) [qt 4]] [5])
 (.cond (qt 5) (.seq (qr [qp 2 .mov [qi 0],qp 3 .mov [.const (.bool false)]] [2,3])
 .ret) .skip))
 (.seq (qr [qm 6 0,qn 7 6,qf 8 10 7,ql 9 8,qm 10 0,qn 11 10,qf 12 11 11,ql 13 12,qm 2 9,qm 3 13] [2,3])
 .ret))⟩
theorem Y12:compF Tryz.prog 171=some Z58:=by kernel_rfl
def Xf:Fun:=⟨13,[6,0,3,1,2],[.tmp 6],
 .seq (qr [qe 3 (.box 239) [qt 0],qp 6 .mov [.const (.pointer none)]] [3,6])
 (.seq (qr [qL 7 6 3,qm 8 1,qp 9 (.bld [qv 0,qv 0,qv 0,qv 0,qv 0,qv 0,qv 0,qv 0,.bool false,.bool false] [(0,6),(6,1)]) [qt 7,qt 8],qm 10 2,qp 11 (.bld [qv 0,qv 0,qv 0,qv 0,qv 0,qv 0,qv 0,qv 0,.bool false,.bool false,.bool false] [(0,10),(10,1)]) [qt 9,qt 10],qe 12 (.box 282) [qt 11],qm 6 12] [6])
 .ret)⟩
theorem Y79:compF Tryz.prog 173=some Xf:=by kernel_rfl
def Xg:Fun:=⟨15,[6,0,1,3,2],[.tmp 6],
 .seq (qr [qe 3 (.box 239) [qt 0],qp 6 .mov [qi 0]] [3,6])
 (.seq (qr [qm 7 1,qf 8 0 3,qL 9 4 8,qf 10 4 3,ql 11 10,qm 12 2,qa 13 235 [qt 9,qt 11,qt 12],qa 14 243 [qt 7,qt 13],qm 6 14] [6])
 .ret)⟩
theorem Y80:compF Tryz.prog 174=some Xg:=by kernel_rfl
def Z59:Fun:=⟨79,[4,0,6,10,11,1,30,52],[.tmp 4],
 .seq (qr [qp 4 .mov [.const (.bool false)]] [4])
 (.seq (.seq (qr [qm 5 0,qp 6 (.eqn false 0) [qt 5]] [6])
 (.cond (qt 6) (.seq (qr [qp 4 .mov [.const (.bool true)]] [4])
 .ret) .skip))
 (.seq (.seq (qr [qm 7 0,qn 8 7,qf 9 8 8,ql 10 9] [10])
 (.block 0 (.seq (qr [qc 12 .eql 10 0,qm 11 12] [11])
 (.cond (qt 11) (.seq (.reg (.run (qm 13 0) (.run (qn 14 13) (.run (qf 15 0 14) (.run (qL 16 6 15) (.run (qm 17 1) (.run (qm 18 0) (.run (qn 19 18) (.run (qf 20 6 19) (.run (ql 21 20) (.run (qm 22 0) (.run (qn 23 22) (.run (qf 24 7 23) (.run (ql 25 24) (.eff (qa 26 244 [qt 16,qt 17,qt 21,qt 25]) [] .done)))))))))))))) [])
 (qr [qm 27 0,qn 28 27,qf 29 8 28,qE (.st 1) [qt 29,qi 1]] [])) (.seq (qr [qc 31 .eql 10 1,qm 30 31] [30])
 (.cond (qt 30) (.reg (.run (qm 32 0) (.run (qm 33 0) (.run (qn 34 33) (.run (qf 35 0 34) (.run (qL 36 6 35) (.run (qm 37 1) (.run (qm 38 0) (.run (qn 39 38) (.run (qf 40 6 39) (.run (ql 41 40) (.run (qc 42 .sub 41 1) (.run (qm 44 0) (.run (qn 45 44) (.run (qf 46 7 45) (.run (ql 47 46) (.eff (qa 43 174 [qt 36,qt 37,qt 42]) [ql 47 46] (.run (qb 48 .gtr 43 47) (.eff (qa 49 239 [qt 48,qi 2]) [] (.run (qn 50 32) (.run (qf 51 8 50) (.eff (qs 1 51 49) [] .done))))))))))))))))))))) []) (.seq (qr [qc 53 .eql 10 2,qm 52 53] [52])
 (.cond (qt 52) (.reg (.run (qm 54 0) (.run (qm 55 0) (.run (qm 56 0) (.run (qn 57 56) (.run (qf 58 0 57) (.run (qL 59 6 58) (.run (qm 60 1) (.run (qm 61 0) (.run (qn 62 61) (.run (qf 63 6 62) (.run (ql 64 63) (.run (qm 65 0) (.run (qn 66 65) (.run (qf 67 7 66) (.run (ql 68 67) (.eff (qa 69 240 [qt 59,qt 60,qt 64,qt 68]) [] (.run (qn 70 54) (.run (qf 71 9 70) (.eff (qs 1 71 69) [] (.run (qn 72 55) (.run (qf 73 8 72) (.eff (qE (.st 1) [qt 73,qi 3]) [] .done)))))))))))))))))))))) []) .skip))))))))
 (.seq (qr [qm 74 0,qn 75 74,qf 76 8 75,ql 77 76,qc 78 .eql 77 3,qm 4 78] [4])
 .ret)))⟩
theorem Y13:compF Tryz.prog 177=some Z59:=by kernel_rfl
def Z60:Fun:=⟨11,[2,0],[.tmp 2],
 .seq (qr [qp 2 .mov [.const (.bool false)]] [2])
 (.seq (qr [qm 3 0,qp 4 (.eqn true 0) [qt 3],qm 5 4,qg 6 5 true (.pur .mov [qt 0]),qg 7 5 true (.pur .nilc [qt 6]),qg 8 5 true (.pur (.fla 9) [qt 7]),qg 9 5 true (.ld none (qt 8)),qp 10 .pick [qt 5,qt 9,.const (.bool false)],qm 2 10] [2])
 .ret)⟩
theorem Y14:compF Tryz.prog 178=some Z60:=by kernel_rfl
def J53:Fun:=⟨11,[6,0,3,1,2],[.cell 6 (some 6)],
 .seq (qr [qe 3 (.box 120) [qt 0],qe 6 (.new 239 [qv 0,qv 0,qv 0,qv 0,qv 0,qv 0]) []] [3,6])
 (.seq (qr [qL 7 4 3,qm 8 1,qm 9 2,qp 10 (.bld [qv 0,qv 0,qv 0,qv 0,qv 0,qv 0] [(0,4),(4,1),(5,1)]) [qt 7,qt 8,qt 9],qs 6 6 10] [])
 .ret)⟩
theorem K_ring_New:compF Tryz.prog 234=some J53:=by kernel_rfl
def Q69:Fun:=⟨11,[6,0,3,1,2],[.tmp 6],
 .seq (qr [qe 3 (.box 120) [qt 0],qp 6 .mov [qi 0]] [3,6])
 (.seq (qr [qL 7 4 3,qm 8 1,qm 9 2,qa 10 278 [qt 7,qt 8,qt 9,qi 0],qm 6 10] [6])
 .ret)⟩
theorem XP:compF Tryz.prog 235=some Q69:=by kernel_rfl
def Y54:Fun:=⟨13,[6,0,3,1,2],[.tmp 6],
 .seq (qr [qe 3 (.box 239) [qt 0],qp 6 .mov [.const (.pointer none)]] [3,6])
 (.seq (qr [qL 7 6 3,qm 8 1,qc 9 .add 8 1,qm 10 2,qp 11 (.bld [qv 0,qv 0,qv 0,qv 0,qv 0,qv 0,qv 0,qv 0,qv 0,qv 0,qv 0,.bool false] [(0,6),(6,1),(7,1)]) [qt 7,qt 9,qt 10],qe 12 (.box 275) [qt 11],qm 6 12] [6])
 .ret)⟩
theorem K_cross_Look:compF Tryz.prog 236=some Y54:=by kernel_rfl
def XQ:Fun:=⟨32,[8,9,0,1,3,12,4,2,10,30],[.tmp 8,.tmp 9],
 .seq (qr [qe 4 (.box 239) [qt 0],qp 8 .mov [qi 0],qp 9 .mov [.const (.bool false)]] [4,8,9])
 (.seq (qr [qm 13 1,qa 14 279 [qt 13],qm 10 14] [10])
 (.seq (.seq (qr [qm 16 1,qm 17 3,qa 18 280 [qt 16,qt 17],qm 15 18,qx 19 0 15,qx 20 1 15,qm 11 19,qm 12 20] [12])
 (.seq (qr [qm 21 12,qp 22 .not [qt 21],qm 23 22,qg 24 23 false (.pur .mov [qt 1]),qg 25 23 false (.ld (some 6) (qt 4)),qg 26 23 false (.pur .mov [qt 2]),qg 27 23 false (.pur .mov [qt 10]),qg 28 23 false (.eff (.call 281) [qt 25,qt 26,qt 27]),qg 29 23 false (.pur (.bin .neq) [qt 24,qt 28]),qp 30 .pick [qt 23,.const (.bool true),qt 29]] [30])
 (.cond (qt 30) (.seq (qr [qp 8 .mov [qi 0],qp 9 .mov [.const (.bool false)]] [8,9])
 .ret) .skip)))
 (.seq (qr [qm 31 10,qm 8 31,qp 9 .mov [.const (.bool true)]] [8,9])
 .ret)))⟩
theorem JH:compF Tryz.prog 237=some XQ:=by kernel_rfl
def Z61:Fun:=⟨15,[6,0,1,3,2],[.tmp 6],
 .seq (qr [qe 3 (.box 239) [qt 0],qp 6 .mov [qi 0]] [3,6])
 (.seq (qr [qm 7 1,qf 8 0 3,qL 9 4 8,qf 10 4 3,ql 11 10,qm 12 2,qa 13 282 [qt 9,qt 11,qt 12],qa 14 243 [qt 7,qt 13],qm 6 14] [6])
 .ret)⟩
theorem Y15:compF Tryz.prog 238=some Z61:=by kernel_rfl
def Y55:Fun:=⟨7,[4,0,5,1],[.tmp 4],
 .seq (qr [qp 4 .mov [qi 0]] [4])
 (.seq (.seq (qr [qm 5 0] [5])
 (.cond (qt 5) (.seq (qr [qm 6 1,qm 4 6] [4])
 .ret) .skip))
 (.seq (qr [qp 4 .mov [qi 3]] [4])
 .ret))⟩
theorem K_cross_goes:compF Tryz.prog 239=some Y55:=by kernel_rfl
def Xh:Fun:=⟨21,[8,0,1,4,2,3],[.tmp 8],
 .seq (qr [qe 4 (.box 239) [qt 0],qp 8 .mov [.const (.bool false)]] [4,8])
 (.seq (.reg (.run (qm 9 1) (.run (qf 10 0 4) (.run (qL 11 4 10) (.run (qf 12 4 4) (.run (ql 13 12) (.run (qm 14 2) (.run (qL 16 6 4) (.run (qm 17 2) (.run (qm 18 3) (.eff (qa 15 282 [qt 11,qt 13,qt 14]) [qL 16 6 4] (.eff (qa 19 281 [qt 16,qt 17,qt 18]) [] (.eff (qa 20 283 [qt 9,qt 15,qt 19]) [] (.run (qm 8 20) .done))))))))))))) [8])
 .ret)⟩
theorem Y81:compF Tryz.prog 240=some Xh:=by kernel_rfl
def Z62:Fun:=⟨15,[6,0,1,3,2],[.tmp 6],
 .seq (qr [qe 3 (.box 239) [qt 0],qp 6 .mov [qi 0]] [3,6])
 (.seq (qr [qm 7 1,qf 8 0 3,qL 9 4 8,qf 10 4 3,ql 11 10,qm 12 2,qa 13 284 [qt 9,qt 11,qt 12],qa 14 243 [qt 7,qt 13],qm 6 14] [6])
 .ret)⟩
theorem Y16:compF Tryz.prog 241=some Z62:=by kernel_rfl
def Y56:Fun:=⟨12,[6,0,3,1,2],[.tmp 6],
 .seq (qr [qe 3 (.box 239) [qt 0],qp 6 .mov [.const (.pointer none)]] [3,6])
 (.seq (qr [qL 7 6 3,qm 8 1,qm 9 2,qp 10 (.bld [qv 0,qv 0,qv 0,qv 0,qv 0,qv 0,qv 0,qv 0,qv 0,.bool false] [(0,6),(6,1),(7,1)]) [qt 7,qt 8,qt 9],qe 11 (.box 284) [qt 10],qm 6 11] [6])
 .ret)⟩
theorem K_cross_Stop:compF Tryz.prog 242=some Y56:=by kernel_rfl
def JI:Fun:=⟨14,[4,0,1,5],[.tmp 4],
 .seq (qr [qp 4 .mov [qi 0]] [4])
 (.seq (qr [qm 8 0,qm 9 1,qa 10 68 [qt 8,qt 9],qm 7 10,qx 11 0 7,qx 12 1 7,qm 5 11,qm 6 12] [5])
 (.seq (qr [qm 13 5,qm 4 13] [4])
 .ret))⟩
theorem K_ring_load:compF Tryz.prog 243=some JI:=by kernel_rfl
def Xi:Fun:=⟨20,[0,1,4,2,3],[],
 .seq (qr [qe 4 (.box 239) [qt 0]] [4])
 (.reg (.run (qm 8 1) (.run (qf 9 0 4) (.run (qL 10 4 9) (.run (qf 11 4 4) (.run (ql 12 11) (.run (qm 13 2) (.run (qL 15 6 4) (.run (qm 16 2) (.run (qm 17 3) (.eff (qa 14 282 [qt 10,qt 12,qt 13]) [qL 15 6 4] (.eff (qa 18 281 [qt 15,qt 16,qt 17]) [] (.eff (qa 19 85 [qt 8,qt 14,qt 18]) [] .done)))))))))))) [])⟩
theorem Y82:compF Tryz.prog 244=some Xi:=by kernel_rfl
def Q94:Fun:=⟨75,[4,0,10,20,1,47],[.tmp 4],
 .seq (qr [qp 4 .mov [.const (.bool false)]] [4])
 (.seq (.block 0 (.seq (qr [qm 11 0,qp 12 (.eqn false 0) [qt 11],qm 13 12,qg 14 13 false (.pur .mov [qt 0]),qg 15 13 false (.pur .nilc [qt 14]),qg 16 13 false (.pur (.fla 0) [qt 15]),qg 17 13 false (.pur (.fla 8) [qt 16]),qg 18 13 false (.ld none (qt 17)),qp 19 .pick [qt 13,.const (.bool true),qt 18],qm 10 19] [10])
 (.cond (qt 10) (.seq (qr [qp 4 .mov [.const (.bool true)]] [4])
 .ret) (.seq (qr [qm 21 0,qn 22 21,qf 23 0 22,qf 24 7 23,ql 25 24,qc 26 .eql 25 0,qm 20 26] [20])
 (.cond (qt 20) (.seq (.reg (.run (qm 27 0) (.run (qn 28 27) (.run (qf 29 0 28) (.run (qf 30 0 29) (.run (qL 31 6 30) (.run (qm 32 1) (.run (qm 33 0) (.run (qn 34 33) (.run (qf 35 0 34) (.run (qf 36 6 35) (.run (ql 37 36) (.eff (qa 38 285 [qt 31,qt 32,qt 37]) [] .done)))))))))))) [])
 (.reg (.run (qm 39 0) (.run (qn 40 39) (.run (qf 41 0 40) (.run (qm 42 0) (.run (qn 43 42) (.run (qf 44 10 43) (.run (ql 45 44) (.eff (qa 46 286 [qt 41,qt 45]) [] .done)))))))) [])) (.seq (qr [qm 48 0,qn 49 48,qf 50 0 49,qf 51 7 50,ql 52 51,qc 53 .eql 52 1,qm 47 53] [47])
 (.cond (qt 47) (.reg (.run (qm 54 0) (.run (qn 55 54) (.run (qf 56 0 55) (.run (qm 57 0) (.run (qn 58 57) (.run (qf 59 0 58) (.run (qf 60 0 59) (.run (qL 61 6 60) (.run (qm 62 1) (.run (qm 63 0) (.run (qn 64 63) (.run (qf 65 0 64) (.run (qf 66 6 65) (.run (ql 67 66) (.eff (qa 68 287 [qt 61,qt 62,qt 67]) [] (.eff (qa 69 286 [qt 56,qt 68]) [] .done)))))))))))))))) []) (qr [qm 5 0,qn 6 5,qf 7 0 6,qm 8 1,qa 9 288 [qt 7,qt 8]] []))))))))
 (.seq (qr [qm 70 0,qn 71 70,qf 72 0 71,qf 73 8 72,ql 74 73,qm 4 74] [4])
 .ret))⟩
theorem X32:compF Tryz.prog 245=some Q94:=by kernel_rfl
def ZN:Fun:=⟨12,[2,0],[.tmp 2],
 .seq (qr [qp 2 .mov [.const (.bool false)]] [2])
 (.seq (qr [qm 3 0,qp 4 (.eqn true 0) [qt 3],qm 5 4,qg 6 5 true (.pur .mov [qt 0]),qg 7 5 true (.pur .nilc [qt 6]),qg 8 5 true (.pur (.fla 0) [qt 7]),qg 9 5 true (.pur (.fla 9) [qt 8]),qg 10 5 true (.ld none (qt 9)),qp 11 .pick [qt 5,qt 10,.const (.bool false)],qm 2 11] [2])
 .ret)⟩
theorem X85:compF Tryz.prog 246=some ZN:=by kernel_rfl
def Z63:Fun:=⟨28,[6,0,1,3,2,8,7],[.tmp 6],
 .seq (qr [qe 3 (.box 239) [qt 0],qp 6 .mov [.const (.bool false)]] [3,6])
 (.seq (qr [qm 10 1,qf 11 0 3,qL 12 4 11,qf 13 4 3,ql 14 13,qm 15 2,qa 16 291 [qt 12,qt 14,qt 15],qa 17 68 [qt 10,qt 16],qm 9 17,qx 18 0 9,qx 19 1 9,qm 7 18,qm 8 19] [7,8])
 (.seq (qr [qm 20 8,qm 21 20,qg 22 21 true (.pur .mov [qt 7]),qg 23 21 true (.ld (some 6) (qt 3)),qg 24 21 true (.pur .mov [qt 2]),qg 25 21 true (.eff (.call 281) [qt 23,qt 24,qi 0]),qg 26 21 true (.pur (.bin .eql) [qt 22,qt 25]),qp 27 .pick [qt 21,qt 26,.const (.bool false)],qm 6 27] [6])
 .ret))⟩
theorem Y17:compF Tryz.prog 250=some Z63:=by kernel_rfl
def Xj:Fun:=⟨10,[4,0,2,1],[.tmp 4],
 .seq (qr [qe 2 (.box 239) [qt 0],qp 4 .mov [.const (.pointer none)]] [2,4])
 (.seq (qr [qL 5 6 2,qm 6 1,qp 7 (.bld [qv 0,qv 0,qv 0,qv 0,qv 0,qv 0,qv 0,qv 0,.bool false,.bool false] [(0,6),(6,1)]) [qt 5,qt 6],qp 8 (.bld [qv 0,qv 0,qv 0,qv 0,qv 0,qv 0,qv 0,qv 0,.bool false,.bool false] [(0,10)]) [qt 7],qe 9 (.box 300) [qt 8],qm 4 9] [4])
 .ret)⟩
theorem Y83:compF Tryz.prog 251=some Xj:=by kernel_rfl
def ZO:Fun:=⟨71,[4,0,10,20,1,43],[.tmp 4],
 .seq (qr [qp 4 .mov [.const (.bool false)]] [4])
 (.seq (.block 0 (.seq (qr [qm 11 0,qp 12 (.eqn false 0) [qt 11],qm 13 12,qg 14 13 false (.pur .mov [qt 0]),qg 15 13 false (.pur .nilc [qt 14]),qg 16 13 false (.pur (.fla 0) [qt 15]),qg 17 13 false (.pur (.fla 8) [qt 16]),qg 18 13 false (.ld none (qt 17)),qp 19 .pick [qt 13,.const (.bool true),qt 18],qm 10 19] [10])
 (.cond (qt 10) (.seq (qr [qp 4 .mov [.const (.bool true)]] [4])
 .ret) (.seq (qr [qm 21 0,qn 22 21,qf 23 0 22,qf 24 7 23,ql 25 24,qc 26 .eql 25 0,qm 20 26] [20])
 (.cond (qt 20) (.seq (.reg (.run (qm 27 0) (.run (qn 28 27) (.run (qf 29 0 28) (.run (qf 30 0 29) (.run (qL 31 6 30) (.run (qm 32 1) (.run (qm 33 0) (.run (qn 34 33) (.run (qf 35 0 34) (.run (qf 36 6 35) (.run (ql 37 36) (.eff (qa 38 292 [qt 31,qt 32,qt 37]) [] .done)))))))))))) [])
 (qr [qm 39 0,qn 40 39,qf 41 0 40,qa 42 286 [qt 41,.const (.bool true)]] [])) (.seq (qr [qm 44 0,qn 45 44,qf 46 0 45,qf 47 7 46,ql 48 47,qc 49 .eql 48 1,qm 43 49] [43])
 (.cond (qt 43) (.reg (.run (qm 50 0) (.run (qn 51 50) (.run (qf 52 0 51) (.run (qm 53 0) (.run (qn 54 53) (.run (qf 55 0 54) (.run (qf 56 0 55) (.run (qL 57 6 56) (.run (qm 58 1) (.run (qm 59 0) (.run (qn 60 59) (.run (qf 61 0 60) (.run (qf 62 6 61) (.run (ql 63 62) (.eff (qa 64 250 [qt 57,qt 58,qt 63]) [] (.eff (qa 65 286 [qt 52,qt 64]) [] .done)))))))))))))))) []) (qr [qm 5 0,qn 6 5,qf 7 0 6,qm 8 1,qa 9 288 [qt 7,qt 8]] []))))))))
 (.seq (qr [qm 66 0,qn 67 66,qf 68 0 67,qf 69 8 68,ql 70 69,qm 4 70] [4])
 .ret))⟩
theorem X86:compF Tryz.prog 252=some ZO:=by kernel_rfl
def ZP:Fun:=⟨12,[2,0],[.tmp 2],
 .seq (qr [qp 2 .mov [.const (.bool false)]] [2])
 (.seq (qr [qm 3 0,qp 4 (.eqn true 0) [qt 3],qm 5 4,qg 6 5 true (.pur .mov [qt 0]),qg 7 5 true (.pur .nilc [qt 6]),qg 8 5 true (.pur (.fla 0) [qt 7]),qg 9 5 true (.pur (.fla 9) [qt 8]),qg 10 5 true (.ld none (qt 9)),qp 11 .pick [qt 5,qt 10,.const (.bool false)],qm 2 11] [2])
 .ret)⟩
theorem X87:compF Tryz.prog 253=some ZP:=by kernel_rfl
def Xk:Fun:=⟨17,[0,1,4,2,3],[],
 .seq (qr [qe 4 (.box 239) [qt 0]] [4])
 (qr [qm 8 1,qf 9 0 4,qL 10 4 9,qf 11 4 4,ql 12 11,qm 13 2,qa 14 284 [qt 10,qt 12,qt 13],qm 15 3,qa 16 85 [qt 8,qt 14,qt 15]] [])⟩
theorem Y84:compF Tryz.prog 256=some Xk:=by kernel_rfl
def Z19:Fun:=⟨25,[8,0,4,10,1,2,3],[.tmp 8],
 .seq (qr [qe 4 (.box 120) [qt 0],qp 8 .mov [qi 0]] [4,8])
 (.seq (.seq (qr [qL 9 4 4,qa 10 117 [qt 9]] [10])
 (.cond (qt 10) (.seq (qr [qp 8 .mov [qi 0]] [8])
 .ret) .skip))
 (.seq (.reg (.run (qL 11 4 4) (.run (qm 12 1) (.run (qm 15 2) (.run (qp 16 (.minmax true) [qt 15,qi 0]) (.run (qf 17 2 4) (.run (ql 18 17) (.run (qc 19 .add 18 1) (.run (qb 20 .rem 16 19) (.run (qp 21 (.bin .mul) [qi 4,qt 20]) (.run (qm 23 3) (.eff (qa 13 137 [qt 11,qt 12]) [ql 18 17] (.run (qc 14 .add 13 2) (.run (qb 22 .add 14 21) (.run (qb 24 .add 22 23) (.run (qm 8 24) .done))))))))))))))) [8])
 .ret))⟩
theorem Yp:compF Tryz.prog 278=some Z19:=by kernel_rfl
def Yq:Fun:=⟨6,[2,0],[.tmp 2],
 .seq (qr [qp 2 .mov [qi 0]] [2])
 (.seq (qr [qm 3 0,qa 4 304 [qt 3],qc 5 .and 4 1048575,qm 2 5] [2])
 .ret)⟩
theorem J86:compF Tryz.prog 279=some Yq:=by kernel_rfl
def Y57:Fun:=⟨17,[4,5,0,1,14],[.tmp 4,.tmp 5],
 .seq (qr [qp 4 .mov [qi 0],qp 5 .mov [.const (.bool false)]] [4,5])
 (.seq (.seq (qr [qm 6 0,qa 7 305 [qt 6],qp 8 .not [qt 7],qm 9 8,qg 10 9 false (.pur .mov [qt 1]),qg 11 9 false (.pur .mov [qt 0]),qg 12 9 false (.eff (.call 279) [qt 11]),qg 13 9 false (.pur (.bin .leq) [qt 10,qt 12]),qp 14 .pick [qt 9,.const (.bool true),qt 13]] [14])
 (.cond (qt 14) (.seq (qr [qp 4 .mov [qi 0],qp 5 .mov [.const (.bool false)]] [4,5])
 .ret) .skip))
 (.seq (qr [qm 15 0,qa 16 306 [qt 15],qm 4 16,qp 5 .mov [.const (.bool true)]] [4,5])
 .ret))⟩
theorem K_token_Next:compF Tryz.prog 280=some Y57:=by kernel_rfl
def X73:Fun:=⟨12,[6,0,3,1,2],[.tmp 6],
 .seq (qr [qe 3 (.box 239) [qt 0],qp 6 .mov [qi 0]] [3,6])
 (.seq (qr [qf 7 5 3,ql 8 7,qm 9 1,qm 10 2,qa 11 307 [qt 8,qt 9,qt 10],qm 6 11] [6])
 .ret)⟩
theorem J22:compF Tryz.prog 281=some X73:=by kernel_rfl
def Q95:Fun:=⟨11,[6,0,3,1,2],[.tmp 6],
 .seq (qr [qe 3 (.box 120) [qt 0],qp 6 .mov [qi 0]] [3,6])
 (.seq (qr [qL 7 4 3,qm 8 1,qm 9 2,qa 10 278 [qt 7,qt 8,qt 9,qi 1],qm 6 10] [6])
 .ret)⟩
theorem X33:compF Tryz.prog 282=some Q95:=by kernel_rfl
def Y58:Fun:=⟨22,[6,0,1,2,8,7],[.tmp 6],
 .seq (qr [qp 6 .mov [.const (.bool false)]] [6])
 (.seq (qr [qm 10 0,qm 11 1,qm 12 2,qa 13 227 [qt 10,qt 11,qt 12,qi 0],qm 9 13,qx 14 0 9,qx 15 1 9,qm 7 14,qm 8 15] [7,8])
 (.seq (qr [qm 16 8,qm 17 16,qg 18 17 true (.pur .mov [qt 7]),qg 19 17 true (.pur .mov [qt 2]),qg 20 17 true (.pur (.bin .eql) [qt 18,qt 19]),qp 21 .pick [qt 17,qt 20,.const (.bool false)],qm 6 21] [6])
 .ret))⟩
theorem K_ring_swaps:compF Tryz.prog 283=some Y58:=by kernel_rfl
def Z20:Fun:=⟨11,[6,0,3,1,2],[.tmp 6],
 .seq (qr [qe 3 (.box 120) [qt 0],qp 6 .mov [qi 0]] [3,6])
 (.seq (qr [qL 7 4 3,qm 8 1,qm 9 2,qa 10 278 [qt 7,qt 8,qt 9,qi 2],qm 6 10] [6])
 .ret)⟩
theorem Yr:compF Tryz.prog 284=some Z20:=by kernel_rfl
def XR:Fun:=⟨17,[0,1,3,2],[],
 .seq (qr [qe 3 (.box 239) [qt 0]] [3])
 (.reg (.run (qm 6 1) (.run (qf 7 0 3) (.run (qL 8 4 7) (.run (qf 9 4 3) (.run (ql 10 9) (.run (qm 11 2) (.run (qL 13 6 3) (.run (qm 14 2) (.eff (qa 12 291 [qt 8,qt 10,qt 11]) [qL 13 6 3] (.eff (qa 15 281 [qt 13,qt 14,qi 0]) [] (.eff (qa 16 85 [qt 6,qt 12,qt 15]) [] .done))))))))))) [])⟩
theorem JJ:compF Tryz.prog 285=some XR:=by kernel_rfl
def Q96:Fun:=⟨16,[0,1],[],
 .seq (qr [qm 4 0,qn 5 4,qf 6 7 5,ql 7 6,qc 8 .add 7 1,qn 9 4,qf 10 7 9,qs 1 10 8] [])
 (qr [qm 11 0,qm 12 1,qp 13 .not [qt 12],qn 14 11,qf 15 8 14,qs 1 15 13] [])⟩
theorem X34:compF Tryz.prog 286=some Q96:=by kernel_rfl
def Z21:Fun:=⟨27,[6,0,1,3,8,7,2],[.tmp 6],
 .seq (qr [qe 3 (.box 239) [qt 0],qp 6 .mov [.const (.bool false)]] [3,6])
 (.seq (qr [qm 10 1,qf 11 0 3,qL 12 4 11,qf 13 4 3,ql 14 13,qa 15 308 [qt 12,qt 14],qa 16 68 [qt 10,qt 15],qm 9 16,qx 17 0 9,qx 18 1 9,qm 7 17,qm 8 18] [7,8])
 (.seq (qr [qm 19 8,qm 20 19,qg 21 20 true (.pur .mov [qt 7]),qg 22 20 true (.ld (some 6) (qt 3)),qg 23 20 true (.pur .mov [qt 2]),qg 24 20 true (.eff (.call 281) [qt 22,qt 23,qi 0]),qg 25 20 true (.pur (.bin .eql) [qt 21,qt 24]),qp 26 .pick [qt 20,qt 25,.const (.bool false)],qm 6 26] [6])
 .ret))⟩
theorem Ys:compF Tryz.prog 287=some Z21:=by kernel_rfl
def Q70:Fun:=⟨20,[0,1],[],
 .seq (.reg (.run (qm 4 0) (.run (qm 5 0) (.run (qn 6 5) (.run (qf 7 0 6) (.run (qL 8 6 7) (.run (qm 9 1) (.run (qm 10 0) (.run (qn 11 10) (.run (qf 12 6 11) (.run (ql 13 12) (.eff (qa 14 309 [qt 8,qt 9,qt 13]) [] (.run (qn 15 4) (.run (qf 16 9 15) (.eff (qs 1 16 14) [] .done)))))))))))))) [])
 (qr [qm 17 0,qn 18 17,qf 19 8 18,qE (.st 1) [qt 19,.const (.bool true)]] [])⟩
theorem XS:compF Tryz.prog 288=some Q70:=by kernel_rfl
def Z22:Fun:=⟨11,[6,0,3,1,2],[.tmp 6],
 .seq (qr [qe 3 (.box 120) [qt 0],qp 6 .mov [qi 0]] [3,6])
 (.seq (qr [qL 7 4 3,qm 8 1,qm 9 2,qa 10 278 [qt 7,qt 8,qt 9,qi 3],qm 6 10] [6])
 .ret)⟩
theorem Yt:compF Tryz.prog 291=some Z22:=by kernel_rfl
def Z64:Fun:=⟨16,[0,1,3,2],[],
 .seq (qr [qe 3 (.box 239) [qt 0]] [3])
 (.reg (.run (qm 6 1) (.run (qf 7 0 3) (.run (qL 8 4 7) (.run (qf 9 4 3) (.run (ql 10 9) (.run (qL 12 6 3) (.run (qm 13 2) (.eff (qa 11 308 [qt 8,qt 10]) [qL 12 6 3] (.eff (qa 14 281 [qt 12,qt 13,qi 0]) [] (.eff (qa 15 85 [qt 6,qt 11,qt 14]) [] .done)))))))))) [])⟩
theorem Y18:compF Tryz.prog 292=some Z64:=by kernel_rfl
def Yu:Fun:=⟨6,[2,0],[.tmp 2],
 .seq (qr [qp 2 .mov [qi 0]] [2])
 (.seq (qr [qm 3 0,qp 4 (.minmax true) [qt 3,qi 0],qp 5 (.minmax false) [qt 4,qi 1152921504606846975],qm 2 5] [2])
 .ret)⟩
theorem J87:compF Tryz.prog 304=some Yu:=by kernel_rfl
def J54:Fun:=⟨9,[2,0],[.tmp 2],
 .seq (qr [qp 2 .mov [.const (.bool false)]] [2])
 (.seq (qr [qm 3 0,qc 4 .geq 3 1099511627776,qm 5 4,qg 6 5 true (.pur .mov [qt 0]),qg 7 5 true (.pur (.bin .leq) [qt 6,qi 1152921504606846975]),qp 8 .pick [qt 5,qt 7,.const (.bool false)],qm 2 8] [2])
 .ret)⟩
theorem K_token_Is:compF Tryz.prog 305=some J54:=by kernel_rfl
def Y59:Fun:=⟨7,[2,0],[.tmp 2],
 .seq (qr [qp 2 .mov [qi 0]] [2])
 (.seq (qr [qm 3 0,qa 4 304 [qt 3],qp 5 (.bin .shr) [qt 4,.const (.int .u64 20)],qc 6 .and 5 1048575,qm 2 6] [2])
 .ret)⟩
theorem K_token_Iter:compF Tryz.prog 306=some Y59:=by kernel_rfl
def J55:Fun:=⟨17,[6,0,1,2],[.tmp 6],
 .seq (qr [qp 6 .mov [qi 0]] [6])
 (.seq (qr [qm 7 0,qa 8 315 [qt 7],qp 9 (.bin .shl) [qt 8,.const (.int .u64 20)],qm 10 1,qa 11 315 [qt 10],qb 12 .or 9 11,qp 13 (.bin .shl) [qt 12,.const (.int .u64 20)],qm 14 2,qa 15 315 [qt 14],qb 16 .or 13 15,qm 6 16] [6])
 .ret)⟩
theorem K_token_Of:compF Tryz.prog 307=some J55:=by kernel_rfl
def Z65:Fun:=⟨11,[4,0,2,6,1],[.tmp 4],
 .seq (qr [qe 2 (.box 120) [qt 0],qp 4 .mov [qi 0]] [2,4])
 (.seq (.seq (qr [qL 5 4 2,qa 6 117 [qt 5]] [6])
 (.cond (qt 6) (.seq (qr [qp 4 .mov [qi 0]] [4])
 .ret) .skip))
 (.seq (qr [qL 7 4 2,qm 8 1,qa 9 137 [qt 7,qt 8],qc 10 .add 9 1,qm 4 10] [4])
 .ret))⟩
theorem Y19:compF Tryz.prog 308=some Z65:=by kernel_rfl
def Z66:Fun:=⟨17,[6,0,1,3,2],[.tmp 6],
 .seq (qr [qe 3 (.box 239) [qt 0],qp 6 .mov [.const (.bool false)]] [3,6])
 (.seq (.reg (.run (qm 7 1) (.run (qf 8 0 3) (.run (qL 9 4 8) (.run (qf 10 4 3) (.run (ql 11 10) (.run (qL 13 6 3) (.run (qm 14 2) (.eff (qa 12 308 [qt 9,qt 11]) [qL 13 6 3] (.eff (qa 15 281 [qt 13,qt 14,qi 0]) [] (.eff (qa 16 283 [qt 7,qt 12,qt 15]) [] (.run (qm 6 16) .done))))))))))) [6])
 .ret)⟩
theorem Y20:compF Tryz.prog 309=some Z66:=by kernel_rfl
def Y60:Fun:=⟨6,[2,0],[.tmp 2],
 .seq (qr [qp 2 .mov [qi 0]] [2])
 (.seq (qr [qm 3 0,qp 4 (.minmax true) [qt 3,qi 0],qp 5 (.minmax false) [qt 4,qi 1048575],qm 2 5] [2])
 .ret)⟩
theorem K_token_held:compF Tryz.prog 315=some Y60:=by kernel_rfl
def Yx:Fun:=⟨17,[4,0,2,1,5],[.tmp 4],
 .seq (qr [qe 2 (.box 120) [qt 0],qp 4 .mov [.const (.pointer none)]] [2,4])
 (.seq (qr [qL 6 4 2,qm 7 1,qa 8 138 [qt 6,qt 7,qi 0],qm 5 8] [5])
 (.seq (qr [qm 9 5,qm 10 5,qm 11 5,qp 12 (.mkf (.func 140) 1) [qt 11],qa 13 139 [qt 10,qt 12],qn 14 9,qf 15 10 14,qs 1 15 13] [])
 (.seq (qr [qm 16 5,qm 4 16] [4])
 .ret)))⟩
theorem J89:compF Tryz.prog 91=some Yx:=by kernel_rfl
def Z67:Fun:=⟨16,[4,0,7,1],[.tmp 4],
 .seq (qr [qp 4 .mov [.const (.bool false)]] [4])
 (.seq (.seq (qr [qm 5 0,qa 6 141 [qt 5],qp 7 .not [qt 6]] [7])
 (.cond (qt 7) (qr [qm 8 0,qn 9 8,qf 10 10 9,ql 11 10,qm 12 1,qe 13 .callv [qt 11,qt 12]] []) .skip))
 (.seq (qr [qm 14 0,qa 15 141 [qt 14],qm 4 15] [4])
 .ret))⟩
theorem Y23:compF Tryz.prog 92=some Z67:=by kernel_rfl
def Y61:Fun:=⟨14,[6,0,3,1,2],[.tmp 6],
 .seq (qr [qe 3 (.box 120) [qt 0],qp 6 .mov [.const (.pointer none)]] [3,6])
 (.seq (qr [qL 7 4 3,qm 8 1,qm 9 2,qp 10 (.minmax true) [qt 9,qi 0],qp 11 (.minmax false) [qt 10,qi 1099511627776],qp 12 (.bld [qv 0,qv 0,qv 0,qv 0,qv 0,qv 0,qv 0,qv 0,qv 0,qv 0,.nilFunc,.bool false,.bool false] [(0,4),(4,1),(5,1)]) [qt 7,qt 8,qt 11],qe 13 (.box 221) [qt 12],qm 6 13] [6])
 .ret)⟩
theorem K_deque_walk:compF Tryz.prog 138=some Y61:=by kernel_rfl
def Z68:Fun:=⟨6,[4,0,1,2,3],[.tmp 4],
 .seq (qr [qe 2 (.box 87) [qt 0],qe 3 (.box 216) [qt 1],qp 4 .mov [.const .nilFunc]] [2,3,4])
 (.seq (qr [qp 5 (.mkf (.func 213) 0) [qt 2,qt 3],qm 4 5] [4])
 .ret)⟩
theorem Y24:compF Tryz.prog 139=some Z68:=by kernel_rfl
def Z23:Fun:=⟨15,[0,1],[],
 .seq (qr [qm 4 0,qm 5 0,qm 6 1,qa 7 217 [qt 5,qt 6,qi 0],qn 8 4,qf 9 7 8,qs 1 9 7] [])
 (qr [qm 10 0,qm 11 0,qp 12 (.mkf (.func 218) 1) [qt 11],qn 13 10,qf 14 10 13,qs 1 14 12] [])⟩
theorem Yy:compF Tryz.prog 140=some Z23:=by kernel_rfl
def Z24:Fun:=⟨12,[2,0],[.tmp 2],
 .seq (qr [qp 2 .mov [.const (.bool false)]] [2])
 (.seq (qr [qm 3 0,qp 4 (.eqn false 0) [qt 3],qm 5 4,qg 6 5 false (.pur .mov [qt 0]),qg 7 5 false (.pur .nilc [qt 6]),qg 8 5 false (.pur (.fla 10) [qt 7]),qg 9 5 false (.ld none (qt 8)),qg 10 5 false (.pur (.eqn false 2) [qt 9]),qp 11 .pick [qt 5,.const (.bool true),qt 10],qm 2 11] [2])
 .ret)⟩
theorem Yz:compF Tryz.prog 141=some Z24:=by kernel_rfl
def Xm:Fun:=⟨22,[2,3,0,17],[.tmp 2,.tmp 3],
 .seq (qr [qp 2 .mov [qi 0],qp 3 .mov [.const (.bool false)]] [2,3])
 (.seq (.seq (qr [qm 4 0,qa 5 141 [qt 4],qp 6 .not [qt 5],qm 7 6,qg 8 7 false (.pur .mov [qt 0]),qg 9 7 false (.pur (.eqn false 0) [qt 8]),qp 10 .pick [qt 7,.const (.bool true),qt 9],qm 11 10,qg 12 11 false (.pur .mov [qt 0]),qg 13 11 false (.pur .nilc [qt 12]),qg 14 11 false (.pur (.fla 11) [qt 13]),qg 15 11 false (.ld none (qt 14)),qg 16 11 false (.pur .not [qt 15]),qp 17 .pick [qt 11,.const (.bool true),qt 16]] [17])
 (.cond (qt 17) (.seq (qr [qp 2 .mov [qi 0],qp 3 .mov [.const (.bool false)]] [2,3])
 .ret) .skip))
 (.seq (qr [qm 18 0,qn 19 18,qf 20 6 19,ql 21 20,qm 2 21,qp 3 .mov [.const (.bool true)]] [2,3])
 .ret))⟩
theorem Y85:compF Tryz.prog 142=some Xm:=by kernel_rfl
def Z69:Fun:=⟨9,[2,0,4],[.tmp 2],
 .seq (qr [qp 2 .mov [qi 0]] [2])
 (.seq (.seq (qr [qm 3 0,qp 4 (.eqn false 0) [qt 3]] [4])
 (.cond (qt 4) (.seq (qr [qp 2 .mov [qi 0]] [2])
 .ret) .skip))
 (.seq (qr [qm 5 0,qn 6 5,qf 7 5 6,ql 8 7,qm 2 8] [2])
 .ret))⟩
theorem Y25:compF Tryz.prog 144=some Z69:=by kernel_rfl
def Z70:Fun:=⟨11,[2,0],[.tmp 2],
 .seq (qr [qp 2 .mov [.const (.bool false)]] [2])
 (.seq (qr [qm 3 0,qp 4 (.eqn true 0) [qt 3],qm 5 4,qg 6 5 true (.pur .mov [qt 0]),qg 7 5 true (.pur .nilc [qt 6]),qg 8 5 true (.pur (.fla 12) [qt 7]),qg 9 5 true (.ld none (qt 8)),qp 10 .pick [qt 5,qt 9,.const (.bool false)],qm 2 10] [2])
 .ret)⟩
theorem Y26:compF Tryz.prog 145=some Z70:=by kernel_rfl
def ZR:Fun:=⟨23,[1,0,2],[],
 .seq (.reg (.run (ql 4 1) (.run (qm 5 0) (.run (ql 6 1) (.run (qn 7 6) (.run (qf 8 0 7) (.run (qL 9 4 8) (.run (ql 10 1) (.run (qn 11 10) (.run (qf 12 4 11) (.run (ql 13 12) (.eff (qa 14 69 [qt 9,qt 13]) [ql 4 1] (.run (qc 15 .add 14 2) (.eff (qa 16 214 [qt 5,qt 15]) [ql 4 1] (.run (qn 17 4) (.run (qf 18 8 17) (.eff (qs 2 18 16) [] .done)))))))))))))))) [])
 (qr [ql 19 1,qp 20 (.mkf (.func 215) 0) [qt 1,qt 2],qn 21 19,qf 22 10 21,qs 1 22 20] [])⟩
theorem X88:compF Tryz.prog 213=some ZR:=by kernel_rfl
def Y62:Fun:=⟨16,[4,0,1,5],[.cell 4 (some 2)],
 .seq (qr [qe 4 (.new 219 [qv 0,qv 0]) []] [4])
 (.seq (qr [qm 8 0,qm 9 1,qa 10 225 [qt 8,qt 9,qi 1],qm 7 10,qx 11 0 7,qx 12 1 7,qm 5 11,qm 6 12] [5])
 (.seq (qr [qm 13 1,qm 14 5,qp 15 (.bld [qv 0,qv 0] [(0,1),(1,1)]) [qt 13,qt 14],qs 2 4 15] [])
 .ret))⟩
theorem K_ticket_Ask:compF Tryz.prog 214=some Y62:=by kernel_rfl
def Q71:Fun:=⟨14,[1,0,9,2],[],
 .seq (qr [ql 4 1,qn 5 4,qf 6 8 5,qL 7 2 6,qm 8 0,qa 9 216 [qt 7,qt 8]] [9])
 (.cond (qt 9) (qr [ql 10 1,ql 11 2,qn 12 10,qf 13 10 12,qs 1 13 11] []) .skip)⟩
theorem XU:compF Tryz.prog 215=some Q71:=by kernel_rfl
def Z25:Fun:=⟨22,[4,0,1,2,6,5],[.tmp 4],
 .seq (qr [qe 2 (.box 219) [qt 0],qp 4 .mov [.const (.bool false)]] [2,4])
 (.seq (qr [qm 8 1,qf 9 0 2,ql 10 9,qc 11 .add 10 1,qa 12 68 [qt 8,qt 11],qm 7 12,qx 13 0 7,qx 14 1 7,qm 5 13,qm 6 14] [5,6])
 (.seq (qr [qm 15 6,qm 16 15,qg 17 16 true (.pur .mov [qt 5]),qg 18 16 true (.pur (.fla 1) [qt 2]),qg 19 16 true (.ld none (qt 18)),qg 20 16 true (.pur (.bin .eql) [qt 17,qt 19]),qp 21 .pick [qt 16,qt 20,.const (.bool false)],qm 4 21] [4])
 .ret))⟩
theorem YA:compF Tryz.prog 216=some Z25:=by kernel_rfl
def Z71:Fun:=⟨26,[6,1,0,2,7],[.tmp 6],
 .seq (qr [qp 6 .mov [qi 0]] [6])
 (.seq (.reg (.run (qm 10 1) (.run (qm 11 0) (.run (qn 12 11) (.run (qf 13 0 12) (.run (qL 14 4 13) (.run (qm 15 0) (.run (qn 16 15) (.run (qf 17 4 16) (.run (ql 18 17) (.run (qm 20 2) (.eff (qa 19 69 [qt 14,qt 18]) [] (.run (qb 21 .add 19 20) (.eff (qa 22 68 [qt 10,qt 21]) [] (.run (qm 9 22) (.run (qx 23 0 9) (.run (qx 24 1 9) (.run (qm 7 23) (.run (qm 8 24) .done)))))))))))))))))) [7])
 (.seq (qr [qm 25 7,qm 6 25] [6])
 .ret))⟩
theorem Y27:compF Tryz.prog 217=some Z71:=by kernel_rfl
def ZS:Fun:=⟨17,[0,1],[],
 .seq (qr [qm 4 0,qm 5 1,qm 6 0,qn 7 6,qf 8 7 7,ql 9 8,qc 10 .add 9 1,qa 11 269 [qt 4,qt 5,qi 0,qt 10]] [])
 (qr [qm 12 0,qm 13 0,qp 14 (.mkf (.func 270) 1) [qt 13],qn 15 12,qf 16 10 15,qs 1 16 14] [])⟩
theorem X89:compF Tryz.prog 218=some ZS:=by kernel_rfl
def JK:Fun:=⟨18,[6,0,3,1,2,7],[.tmp 6],
 .seq (qr [qe 3 (.box 120) [qt 0],qp 6 .mov [.const (.pointer none)]] [3,6])
 (.seq (qr [qL 8 4 3,qm 9 1,qm 10 2,qa 11 138 [qt 8,qt 9,qt 10],qm 7 11] [7])
 (.seq (qr [qm 12 7,qm 13 7,qp 14 (.mkf (.func 273) 1) [qt 13],qn 15 12,qf 16 10 15,qs 1 16 14] [])
 (.seq (qr [qm 17 7,qm 6 17] [6])
 .ret)))⟩
theorem K_deque_Pop:compF Tryz.prog 226=some JK:=by kernel_rfl
def Y63:Fun:=⟨24,[8,0,4,1,2,9,3],[.tmp 8],
 .seq (qr [qe 4 (.box 120) [qt 0],qp 8 .mov [.const (.pointer none)]] [4,8])
 (.seq (qr [qL 10 4 4,qm 11 1,qm 12 2,qa 13 138 [qt 10,qt 11,qt 12],qm 9 13] [9])
 (.seq (qr [qm 14 9,qm 15 9,qm 16 3,qm 17 9,qp 18 (.mkf (.func 277) 1) [qt 17],qn 19 14,qf 20 6 19,qs 1 20 16,qn 21 15,qf 22 10 21,qs 1 22 18] [])
 (.seq (qr [qm 23 9,qm 8 23] [8])
 .ret)))⟩
theorem K_deque_Push:compF Tryz.prog 233=some Y63:=by kernel_rfl
def Xn:Fun:=⟨22,[1,0,2,3],[],
 .reg (.run (qm 8 1) (.run (qm 9 0) (.run (qn 10 9) (.run (qf 11 0 10) (.run (qL 12 4 11) (.run (qm 13 0) (.run (qn 14 13) (.run (qf 15 4 14) (.run (ql 16 15) (.run (qm 18 2) (.run (qm 20 3) (.eff (qa 17 69 [qt 12,qt 16]) [] (.run (qb 19 .add 17 18) (.eff (qa 21 85 [qt 8,qt 19,qt 20]) [] .done)))))))))))))) []⟩
theorem Y86:compF Tryz.prog 269=some Xn:=by kernel_rfl
def Z26:Fun:=⟨22,[0,2,1,12],[],
 .seq (qr [qe 2 (.box 87) [qt 0]] [2])
 (.seq (.seq (.reg (.run (ql 4 2) (.run (qm 5 1) (.run (ql 7 2) (.run (qn 8 7) (.run (qf 9 7 8) (.run (ql 10 9) (.run (qc 11 .add 10 1) (.eff (qa 6 217 [qt 4,qt 5,qi 1]) [ql 10 9,ql 7 2] (.run (qb 12 .geq 6 11) .done))))))))) [12])
 (.cond (qt 12) (.seq (qr [ql 13 2,ql 14 2,qp 15 (.mkf (.func 298) 1) [qt 14],qn 16 13,qf 17 10 16,qs 1 17 15] [])
 .ret) .skip))
 (qr [ql 18 2,qp 19 (.mkf (.func 299) 0) [qt 2],qn 20 18,qf 21 10 20,qs 1 21 19] []))⟩
theorem YB:compF Tryz.prog 270=some Z26:=by kernel_rfl
def Z72:Fun:=⟨17,[0,1],[],
 .seq (qr [qm 4 0,qm 5 1,qm 6 0,qn 7 6,qf 8 5 7,ql 9 8,qc 10 .sub 9 1,qa 11 269 [qt 4,qt 5,qi 1,qt 10]] [])
 (qr [qm 12 0,qm 13 0,qp 14 (.mkf (.func 301) 1) [qt 13],qn 15 12,qf 16 10 15,qs 1 16 14] [])⟩
theorem Y28:compF Tryz.prog 273=some Z72:=by kernel_rfl
def Z73:Fun:=⟨29,[0,1,18],[],
 .seq (.seq (.reg (.run (qm 4 0) (.run (qn 5 4) (.run (qf 6 5 5) (.run (ql 7 6) (.run (qm 8 0) (.run (qm 9 1) (.run (qm 12 0) (.run (qn 13 12) (.run (qf 14 0 13) (.run (qf 15 3 14) (.run (ql 16 15) (.run (qc 17 .sub 16 1) (.eff (qa 10 217 [qt 8,qt 9,qi 0]) [ql 16 15,ql 7 6] (.run (qb 11 .sub 7 10) (.run (qb 18 .geq 11 17) .done))))))))))))))) [18])
 (.cond (qt 18) (.seq (qr [qm 19 0,qn 20 19,qf 21 12 20,qE (.st 1) [qt 21,.const (.bool true)]] [])
 (.seq (qr [qm 22 0,qa 23 302 [qt 22]] [])
 .ret)) .skip))
 (qr [qm 24 0,qm 25 0,qp 26 (.mkf (.func 303) 1) [qt 25],qn 27 24,qf 28 10 27,qs 1 28 26] [])⟩
theorem Y29:compF Tryz.prog 277=some Z73:=by kernel_rfl
def Q98:Fun:=⟨33,[0,1],[],
 .seq (.reg (.run (qm 5 0) (.run (qm 6 1) (.run (qm 7 0) (.run (qn 8 7) (.run (qf 9 0 8) (.run (qL 10 4 9) (.run (qm 11 0) (.run (qn 12 11) (.run (qf 13 4 12) (.run (ql 14 13) (.run (qm 15 0) (.run (qn 16 15) (.run (qf 17 7 16) (.run (ql 18 17) (.eff (qa 19 70 [qt 10,qt 14,qt 18]) [] (.eff (qa 20 68 [qt 6,qt 19]) [] (.run (qm 4 20) (.run (qx 21 0 4) (.run (qx 22 1 4) (.run (qn 23 5) (.run (qf 24 6 23) (.eff (qs 1 24 21) [] .done)))))))))))))))))))))) [])
 (.seq (qr [qm 25 0,qn 26 25,qf 27 11 26,qE (.st 1) [qt 27,.const (.bool true)]] [])
 (qr [qm 28 0,qm 29 0,qa 30 300 [qt 29,.const .nilFunc],qn 31 28,qf 32 10 31,qs 1 32 30] []))⟩
theorem X35:compF Tryz.prog 298=some Q98:=by kernel_rfl
def Q99:Fun:=⟨15,[1,0],[],
 .seq (.reg (.run (ql 3 1) (.run (qm 4 0) (.run (ql 5 1) (.run (qn 6 5) (.run (qf 7 7 6) (.run (ql 8 7) (.eff (qa 9 269 [qt 3,qt 4,qi 0,qt 8]) [] .done))))))) [])
 (.reg (.run (ql 10 1) (.run (ql 11 1) (.eff (qa 12 300 [qt 11,.const .nilFunc]) [ql 10 1] (.run (qn 13 10) (.run (qf 14 10 13) (.eff (qs 1 14 12) [] .done)))))) [])⟩
theorem X36:compF Tryz.prog 299=some Q99:=by kernel_rfl
def ZT:Fun:=⟨6,[4,0,1,2,3],[.tmp 4],
 .seq (qr [qe 2 (.box 87) [qt 0],qe 3 (.box 216) [qt 1],qp 4 .mov [.const .nilFunc]] [2,3,4])
 (.seq (qr [qp 5 (.mkf (.func 310) 0) [qt 2,qt 3],qm 4 5] [4])
 .ret)⟩
theorem X90:compF Tryz.prog 300=some ZT:=by kernel_rfl
def Z27:Fun:=⟨23,[0,1,12],[],
 .seq (.seq (.reg (.run (qm 4 0) (.run (qm 5 1) (.run (qm 7 0) (.run (qn 8 7) (.run (qf 9 5 8) (.run (ql 10 9) (.run (qc 11 .sub 10 1) (.eff (qa 6 217 [qt 4,qt 5,qi 0]) [ql 10 9] (.run (qb 12 .leq 6 11) .done))))))))) [12])
 (.cond (qt 12) (.seq (qr [qm 13 0,qm 14 0,qp 15 (.mkf (.func 312) 1) [qt 14],qn 16 13,qf 17 10 16,qs 1 17 15] [])
 .ret) .skip))
 (qr [qm 18 0,qm 19 0,qp 20 (.mkf (.func 313) 1) [qt 19],qn 21 18,qf 22 10 21,qs 1 22 20] [])⟩
theorem YC:compF Tryz.prog 301=some Z27:=by kernel_rfl
def Xo:Fun:=⟨5,[0],[],
 qr [qm 2 0,qn 3 2,qf 4 10 3,qE (.st 1) [qt 4,.const .nilFunc]] []⟩
theorem Y87:compF Tryz.prog 302=some Xo:=by kernel_rfl
def Xp:Fun:=⟨28,[1,0],[],
 .seq (.reg (.run (qm 4 1) (.run (qm 5 0) (.run (qn 6 5) (.run (qf 7 0 6) (.run (qL 8 4 7) (.run (qm 9 0) (.run (qn 10 9) (.run (qf 11 4 10) (.run (ql 12 11) (.run (qm 13 0) (.run (qn 14 13) (.run (qf 15 5 14) (.run (ql 16 15) (.run (qm 18 0) (.run (qn 19 18) (.run (qf 20 6 19) (.run (ql 21 20) (.eff (qa 17 70 [qt 8,qt 12,qt 16]) [ql 21 20] (.eff (qa 22 85 [qt 4,qt 17,qt 21]) [] .done))))))))))))))))))) [])
 (qr [qm 23 0,qm 24 0,qp 25 (.mkf (.func 314) 1) [qt 24],qn 26 23,qf 27 10 26,qs 1 27 25] [])⟩
theorem Y88:compF Tryz.prog 303=some Xp:=by kernel_rfl
def Q72:Fun:=⟨14,[1,0,2],[],
 .seq (qr [ql 4 1,qn 5 4,qf 6 8 5,qL 7 2 6,qm 8 0,qa 9 311 [qt 7,qt 8]] [])
 (qr [ql 10 1,ql 11 2,qn 12 10,qf 13 10 12,qs 1 13 11] [])⟩
theorem XV:compF Tryz.prog 310=some Q72:=by kernel_rfl
def ZU:Fun:=⟨13,[4,0,1,2],[.tmp 4],
 .seq (qr [qe 2 (.box 219) [qt 0],qp 4 .mov [.const (.bool false)]] [2,4])
 (.seq (qr [qm 5 1,qf 6 0 2,ql 7 6,qc 8 .add 7 1,qf 9 1 2,ql 10 9,qc 11 .add 10 1,qa 12 85 [qt 5,qt 8,qt 11],qm 4 12] [4])
 .ret)⟩
theorem X91:compF Tryz.prog 311=some ZU:=by kernel_rfl
def Z28:Fun:=⟨37,[0,1],[],
 .seq (qr [qm 4 0,qn 5 4,qf 6 5 5,ql 7 6,qc 8 .sub 7 1,qn 9 4,qf 10 5 9,qs 1 10 8] [])
 (.seq (.reg (.run (qm 12 0) (.run (qm 13 1) (.run (qm 14 0) (.run (qn 15 14) (.run (qf 16 0 15) (.run (qL 17 4 16) (.run (qm 18 0) (.run (qn 19 18) (.run (qf 20 4 19) (.run (ql 21 20) (.run (qm 22 0) (.run (qn 23 22) (.run (qf 24 5 23) (.run (ql 25 24) (.eff (qa 26 70 [qt 17,qt 21,qt 25]) [] (.eff (qa 27 68 [qt 13,qt 26]) [] (.run (qm 11 27) (.run (qx 28 0 11) (.run (qx 29 1 11) (.run (qn 30 12) (.run (qf 31 6 30) (.eff (qs 1 31 28) [] .done)))))))))))))))))))))) [])
 (.seq (qr [qm 32 0,qn 33 32,qf 34 11 33,qE (.st 1) [qt 34,.const (.bool true)]] [])
 (qr [qm 35 0,qa 36 302 [qt 35]] [])))⟩
theorem YD:compF Tryz.prog 312=some Z28:=by kernel_rfl
def Q73:Fun:=⟨18,[0,1],[],
 .seq (qr [qm 4 0,qm 5 1,qm 6 0,qn 7 6,qf 8 5 7,ql 9 8,qa 10 269 [qt 4,qt 5,qi 1,qt 9]] [])
 (qr [qm 11 0,qm 12 0,qm 13 0,qp 14 (.mkf (.func 316) 1) [qt 13],qa 15 139 [qt 12,qt 14],qn 16 11,qf 17 10 16,qs 1 17 15] [])⟩
theorem XW:compF Tryz.prog 313=some Q73:=by kernel_rfl
def Z74:Fun:=⟨20,[0,1],[],
 .seq (qr [qm 4 0,qn 5 4,qf 6 5 5,ql 7 6,qc 8 .add 7 1,qn 9 4,qf 10 5 9,qs 1 10 8] [])
 (.seq (qr [qm 11 0,qm 12 1,qm 13 0,qn 14 13,qf 15 5 14,ql 16 15,qa 17 269 [qt 11,qt 12,qi 1,qt 16]] [])
 (qr [qm 18 0,qa 19 302 [qt 18]] []))⟩
theorem Y30:compF Tryz.prog 314=some Z74:=by kernel_rfl
def Q43:Fun:=⟨17,[0,1],[],
 .seq (qr [qm 4 0,qm 5 1,qm 6 0,qn 7 6,qf 8 5 7,ql 9 8,qc 10 .sub 9 1,qa 11 269 [qt 4,qt 5,qi 1,qt 10]] [])
 (qr [qm 12 0,qm 13 0,qp 14 (.mkf (.func 317) 1) [qt 13],qn 15 12,qf 16 10 15,qs 1 16 14] [])⟩
theorem Xy:compF Tryz.prog 316=some Q43:=by kernel_rfl
def Q30:Fun:=⟨24,[0,2,1,12],[],
 .seq (qr [qe 2 (.box 87) [qt 0]] [2])
 (.seq (.seq (.reg (.run (ql 4 2) (.run (qm 5 1) (.run (ql 7 2) (.run (qn 8 7) (.run (qf 9 5 8) (.run (ql 10 9) (.run (qc 11 .sub 10 1) (.eff (qa 6 217 [qt 4,qt 5,qi 0]) [ql 10 9,ql 7 2] (.run (qb 12 .leq 6 11) .done))))))))) [12])
 (.cond (qt 12) (.seq (.reg (.run (ql 13 2) (.run (ql 14 2) (.run (ql 15 2) (.run (qp 16 (.mkf (.func 312) 1) [qt 15]) (.eff (qa 17 300 [qt 14,qt 16]) [ql 13 2] (.run (qn 18 13) (.run (qf 19 10 18) (.eff (qs 1 19 17) [] .done)))))))) [])
 .ret) .skip))
 (qr [ql 20 2,qp 21 (.mkf (.func 318) 0) [qt 2],qn 22 20,qf 23 10 22,qs 1 23 21] []))⟩
theorem Z91:compF Tryz.prog 317=some Q30:=by kernel_rfl
def Q10:Fun:=⟨15,[1,0],[],
 .seq (.reg (.run (ql 3 1) (.run (qm 4 0) (.run (ql 5 1) (.run (qn 6 5) (.run (qf 7 5 6) (.run (ql 8 7) (.eff (qa 9 269 [qt 3,qt 4,qi 1,qt 8]) [] .done))))))) [])
 (.reg (.run (ql 10 1) (.run (ql 11 1) (.eff (qa 12 300 [qt 11,.const .nilFunc]) [ql 10 1] (.run (qn 13 10) (.run (qf 14 10 13) (.eff (qs 1 14 12) [] .done)))))) [])⟩
theorem Z49:compF Tryz.prog 318=some Q10:=by kernel_rfl
def YI:SCode:=
 .seq (qr [qb 39 .lss 38 37] [39])
 (.seq (.cond (qt 39) .skip (.exit 0))
 (.seq (.block 1 (.seq (qr [qp 40 (.ixa 1) [qt 36,qt 38],ql 41 40,qm 11 41] [11])
 (.reg (.run (qm 42 9) (.run (qm 43 9) (.run (qn 44 43) (.run (qf 45 0 44) (.run (ql 46 45) (.run (qm 47 11) (.eff (qa 48 84 [qt 47]) [ql 46 45] (.eff (qe 49 (.bsl 106 1) [qt 48]) [ql 46 45] (.eff (qe 50 (.app 106 1 24 [.slice none 0 0]) [qt 46,qt 49]) [] (.run (qn 51 42) (.run (qf 52 0 51) (.eff (qs 1 52 50) [] .done)))))))))))) [])))
 (qr [qc 53 .add 38 1,qm 38 53] [38])))
def YJ:SCode:=
 .seq (qr [qb 57 .lss 56 55] [57])
 (.seq (.cond (qt 57) .skip (.exit 2))
 (.seq (.block 3 (.seq (qr [qm 58 56,qp 59 (.ixa 1) [qt 54,qt 56],ql 60 59,qm 12 58,qm 13 60] [12,13])
 (qr [qm 61 9,qn 62 61,qf 63 9 62,ql 64 63,qm 65 12,qm 66 13,qa 67 85 [qt 64,qt 65,qt 66]] [])))
 (qr [qc 68 .add 56 1,qm 56 68] [56])))
def Y32:Fun:=⟨86,[6,7,0,2,3,1,5,8,19,38,37,39,36,9,11,56,55,57,54,12,13],[.tmp 6,.tmp 7],
 .seq (qr [qe 3 (.box 33) [qt 0],qe 5 (.box 36) [qt 2],qp 6 .mov [.const (.pointer none)],qp 7 .mov [qi 0]] [3,5,6,7])
 (.seq (.seq (qr [qL 14 2 3,qm 15 1,qL 16 7 5,qa 17 78 [qt 14,qt 15,qt 16],qm 8 17] [8])
 (.seq (qr [qm 18 8,qc 19 .neq 18 0] [19])
 (.cond (qt 19) (.seq (qr [qm 20 8,qp 6 .mov [.const (.pointer none)],qm 7 20] [6,7])
 .ret) .skip)))
 (.seq (.reg (.run (qL 21 7 5) (.run (qL 22 7 5) (.run (qf 26 0 3) (.run (ql 27 26) (.run (qf 29 4 5) (.run (ql 30 29) (.eff (qa 23 80 [qt 22]) [ql 30 29,ql 27 26,qL 21 7 5] (.eff (qa 24 81 [qt 23]) [ql 30 29,ql 27 26,qL 21 7 5] (.eff (qa 25 79 [qt 24]) [ql 30 29,ql 27 26,qL 21 7 5] (.eff (qa 28 79 [qt 27]) [ql 30 29,qL 21 7 5] (.eff (qa 31 82 [qt 30]) [qL 21 7 5] (.eff (qa 32 83 []) [qL 21 7 5] (.run (qp 33 (.bld [.slice none 0 0,qv 0,qv 0,qv 0,qv 0,qv 0,.bool false,.bool false,.pointer none,.pointer none,.pointer none,.pointer none,.pointer none,qv 0,qv 0,qv 0,qv 0,qv 0,qv 0,qv 0,qv 0,qv 0,qv 0] [(1,7),(8,1),(9,1),(11,1),(12,1)]) [qt 21,qt 25,qt 28,qt 31,qt 32]) (.eff (qe 34 (.box 151) [qt 33]) [] (.run (qm 9 34) .done))))))))))))))) [9])
 (.seq (.seq (qr [qf 35 1 3,ql 36 35,qp 37 (.len false) [qt 36],qp 38 .mov [qi 0]] [36,37,38])
 (.block 0 (.loop YI)))
 (.seq (.seq (qr [qm 54 1,qp 55 (.len false) [qt 54],qp 56 .mov [qi 0]] [54,55,56])
 (.block 2 (.loop YJ)))
 (.seq (.reg (.run (qm 69 9) (.run (qL 70 7 5) (.run (qm 72 9) (.run (qn 73 72) (.run (qf 74 8 73) (.run (ql 75 74) (.eff (qa 71 80 [qt 70]) [ql 75 74] (.eff (qa 76 86 [qt 71,qt 75]) [] (.run (qn 77 69) (.run (qf 78 10 77) (.eff (qs 1 78 76) [] .done))))))))))) [])
 (.seq (.reg (.run (qm 79 9) (.run (qn 80 79) (.run (qf 81 10 80) (.run (ql 82 81) (.eff (qa 83 88 []) [ql 82 81] (.eff (qa 84 87 [qt 82,qt 83]) [] .done)))))) [])
 (.seq (qr [qm 85 9,qm 6 85,qp 7 .mov [qi 0]] [6,7])
 .ret)))))))⟩
theorem J58:compF Tryz.prog 44=some Y32:=by kernel_rfl
def Z30:Fun:=⟨14,[2,3,0,5],[.tmp 2,.tmp 3],
 .seq (qr [qp 2 .mov [qi 0],qp 3 .mov [qi 0]] [2,3])
 (.seq (.seq (qr [qm 4 0,qp 5 (.eqn false 0) [qt 4]] [5])
 (.cond (qt 5) (.seq (qr [qp 2 .mov [qi 0],qp 3 .mov [qi 0]] [2,3])
 .ret) .skip))
 (.seq (qr [qm 6 0,qn 7 6,qf 8 21 7,ql 9 8,qm 10 0,qn 11 10,qf 12 22 11,ql 13 12,qm 2 9,qm 3 13] [2,3])
 .ret))⟩
theorem YK:compF Tryz.prog 46=some Z30:=by kernel_rfl
def X00:Fun:=⟨9,[2,0,4],[.tmp 2],
 .seq (qr [qp 2 .mov [.const (.pointer none)]] [2])
 (.seq (.seq (qr [qm 3 0,qp 4 (.eqn false 0) [qt 3]] [4])
 (.cond (qt 4) (.seq (qr [qp 2 .mov [.const (.pointer none)]] [2])
 .ret) .skip))
 (.seq (qr [qm 5 0,qn 6 5,qf 7 11 6,ql 8 7,qm 2 8] [2])
 .ret))⟩
theorem JU:compF Tryz.prog 47=some X00:=by kernel_rfl
def X01:Fun:=⟨10,[2,0,4],[.tmp 2],
 .seq (qr [qp 2 .mov [.const (.slice none 0 0)]] [2])
 (.seq (.seq (qr [qm 3 0,qp 4 (.eqn false 0) [qt 3]] [4])
 (.cond (qt 4) (.seq (qr [qp 2 .mov [.const (.slice none 0 0)]] [2])
 .ret) .skip))
 (.seq (qr [qm 5 0,qn 6 5,qf 7 0 6,ql 8 7,qa 9 89 [qt 8],qm 2 9] [2])
 .ret))⟩
theorem JV:compF Tryz.prog 48=some X01:=by kernel_rfl
def Z75:Fun:=⟨8,[2,0,4],[.tmp 2],
 .seq (qr [qp 2 .mov [.const (.pointer none)]] [2])
 (.seq (.seq (qr [qm 3 0,qp 4 (.eqn false 0) [qt 3]] [4])
 (.cond (qt 4) (.seq (qr [qp 2 .mov [.const (.pointer none)]] [2])
 .ret) .skip))
 (.seq (qr [qm 5 0,qn 6 5,qf 7 13 6,qm 2 7] [2])
 .ret))⟩
theorem Y33:compF Tryz.prog 50=some Z75:=by kernel_rfl
def Z31:Fun:=⟨9,[2,0,4],[.tmp 2],
 .seq (qr [qp 2 .mov [.const (.pointer none)]] [2])
 (.seq (.seq (qr [qm 3 0,qp 4 (.eqn false 0) [qt 3]] [4])
 (.cond (qt 4) (.seq (qr [qp 2 .mov [.const (.pointer none)]] [2])
 .ret) .skip))
 (.seq (qr [qm 5 0,qn 6 5,qf 7 10 6,ql 8 7,qm 2 8] [2])
 .ret))⟩
theorem YL:compF Tryz.prog 56=some Z31:=by kernel_rfl
def Z32:Fun:=⟨10,[2,0,4],[.tmp 2],
 .seq (qr [qp 2 .mov [qi 0]] [2])
 (.seq (.seq (qr [qm 3 0,qp 4 (.eqn false 0) [qt 3]] [4])
 (.cond (qt 4) (.seq (qr [qp 2 .mov [qi 0]] [2])
 .ret) .skip))
 (.seq (qr [qm 5 0,qn 6 5,qf 7 5 6,ql 8 7,qa 9 109 [qt 8],qm 2 9] [2])
 .ret))⟩
theorem YM:compF Tryz.prog 57=some Z32:=by kernel_rfl
def X02:Fun:=⟨9,[2,0,4],[.tmp 2],
 .seq (qr [qp 2 .mov [.const (.pointer none)]] [2])
 (.seq (.seq (qr [qm 3 0,qp 4 (.eqn false 0) [qt 3]] [4])
 (.cond (qt 4) (.seq (qr [qp 2 .mov [.const (.pointer none)]] [2])
 .ret) .skip))
 (.seq (qr [qm 5 0,qn 6 5,qf 7 12 6,ql 8 7,qm 2 8] [2])
 .ret))⟩
theorem JW:compF Tryz.prog 58=some X02:=by kernel_rfl
def YN:Fun:=⟨6,[2,0],[.tmp 2],
 .seq (qr [qp 2 .mov [.const (.slice none 0 0)]] [2])
 (.seq (qr [qm 3 0,qa 4 111 [qt 3],qa 5 110 [qt 4],qm 2 5] [2])
 .ret)⟩
theorem J97:compF Tryz.prog 59=some YN:=by kernel_rfl
def Xq:Fun:=⟨9,[2,0,4],[.tmp 2],
 .seq (qr [qp 2 .mov [.const (.pointer none)]] [2])
 (.seq (.seq (qr [qm 3 0,qp 4 (.eqn false 0) [qt 3]] [4])
 (.cond (qt 4) (.seq (qr [qp 2 .mov [.const (.pointer none)]] [2])
 .ret) .skip))
 (.seq (qr [qm 5 0,qn 6 5,qf 7 9 6,ql 8 7,qm 2 8] [2])
 .ret))⟩
theorem Y91:compF Tryz.prog 61=some Xq:=by kernel_rfl
def Z33:Fun:=⟨10,[2,0,4],[.tmp 2],
 .seq (qr [qp 2 .mov [qi 0]] [2])
 (.seq (.seq (qr [qm 3 0,qp 4 (.eqn false 0) [qt 3]] [4])
 (.cond (qt 4) (.seq (qr [qp 2 .mov [qi 0]] [2])
 .ret) .skip))
 (.seq (qr [qm 5 0,qn 6 5,qf 7 5 6,ql 8 7,qa 9 112 [qt 8],qm 2 9] [2])
 .ret))⟩
theorem YO:compF Tryz.prog 63=some Z33:=by kernel_rfl
def Xr:Fun:=⟨6,[2,0],[.cell 2 (some 4)],
 .seq (qr [qe 2 (.new 120 [qv 0,qv 0,qv 0,qv 0]) []] [2])
 (.seq (qr [qm 3 0,qa 4 90 [qt 3],qa 5 80 [qt 4],qs 4 2 5] [])
 .ret)⟩
theorem Y92:compF Tryz.prog 66=some Xr:=by kernel_rfl
def Z76:Fun:=⟨9,[2,0,4],[.tmp 2],
 .seq (qr [qp 2 .mov [.const (.pointer none)]] [2])
 (.seq (.seq (qr [qm 3 0,qp 4 (.eqn false 0) [qt 3]] [4])
 (.cond (qt 4) (.seq (qr [qp 2 .mov [.const (.pointer none)]] [2])
 .ret) .skip))
 (.seq (qr [qm 5 0,qn 6 5,qf 7 8 6,ql 8 7,qm 2 8] [2])
 .ret))⟩
theorem Y34:compF Tryz.prog 67=some Z76:=by kernel_rfl
def Y68:Fun:=⟨30,[6,0,2,3,7,11,5,13,1,24],[.tmp 6],
 .seq (qr [qe 3 (.box 33) [qt 0],qe 5 (.box 36) [qt 2],qp 6 .mov [qi 0]] [3,5,6])
 (.seq (.seq (qr [qL 8 2 3,qa 9 120 [qt 8],qm 7 9] [7])
 (.seq (qr [qm 10 7,qc 11 .neq 10 0] [11])
 (.cond (qt 11) (.seq (qr [qm 12 7,qm 6 12] [6])
 .ret) .skip)))
 (.seq (.block 0 (.seq (.seq (qr [qL 14 7 5,qa 15 80 [qt 14],qa 16 132 [qt 15],qc 17 .neq 16 0,qm 13 17] [13])
 (.cond (qt 13) .skip (.seq (qr [qf 18 4 5,ql 19 18,qc 20 .lss 19 0,qm 13 20] [13])
 (.cond (qt 13) .skip (qr [qf 21 4 5,ql 22 21,qc 23 .gtr 22 1000,qm 13 23] [13])))))
 (.cond (qt 13) (.seq (qr [qp 6 .mov [qi 3]] [6])
 .ret) (.seq (qr [qm 25 1,qp 26 (.len false) [qt 25],qf 27 0 3,ql 28 27,qb 29 .gtr 26 28,qm 24 29] [24])
 (.cond (qt 24) (.seq (qr [qp 6 .mov [qi 9]] [6])
 .ret) .skip)))))
 (.seq (qr [qp 6 .mov [qi 0]] [6])
 .ret)))⟩
theorem K_core_Check:compF Tryz.prog 78=some Y68:=by kernel_rfl
def JX:Fun:=⟨12,[2,0,1],[.cell 2 (some 4)],
 .seq (qr [qe 1 (.box 36) [qt 0],qe 2 (.new 120 [qv 0,qv 0,qv 0,qv 0]) []] [1,2])
 (.seq (qr [qf 3 0 1,ql 4 3,qf 5 2 1,ql 6 5,qf 7 1 1,ql 8 7,qf 9 3 1,ql 10 9,qp 11 (.bld [qv 0,qv 0,qv 0,qv 0] [(0,1),(1,1),(2,1),(3,1)]) [qt 4,qt 6,qt 8,qt 10],qs 4 2 11] [])
 .ret)⟩
theorem K_core_plan:compF Tryz.prog 80=some JX:=by kernel_rfl
def J59:Fun:=⟨8,[2,0],[.tmp 2],
 .seq (qr [qp 2 .mov [.const (.pointer none)]] [2])
 (.seq (qr [qm 3 0,qp 4 (.minmax true) [qt 3,qi 0],qp 5 (.minmax false) [qt 4,qi 1000],qp 6 (.bld [.slice none 0 0,qv 0] [(1,1)]) [qt 5],qe 7 (.box 162) [qt 6],qm 2 7] [2])
 .ret)⟩
theorem K_sink_New:compF Tryz.prog 82=some J59:=by kernel_rfl
def S_log_New:Fun:=⟨3,[0],[.tmp 0],
 .seq (qr [qp 0 .mov [.const (.pointer none)]] [0])
 (.seq (qr [qp 1 (.bld [.slice none 0 0] []) [],qe 2 (.box 211) [qt 1],qm 0 2] [0])
 .ret)⟩
theorem K_log_New:compF Tryz.prog 83=some S_log_New:=by kernel_rfl
def QQ:Fun:=⟨8,[2,0,4],[.tmp 2],
 .seq (qr [qp 2 .mov [.const (.slice none 0 0)]] [2])
 (.seq (.seq (qr [qm 3 0,qp 4 (.eqn false 1) [qt 3]] [4])
 (.cond (qt 4) (.seq (qr [qp 2 .mov [.const (.slice none 0 0)]] [2])
 .ret) .skip))
 (.seq (qr [qe 5 (.bsl 126 4) [],qm 6 0,qe 7 (.app 126 4 32 [qv 0,qv 0,qv 0,qv 0]) [qt 5,qt 6],qm 2 7] [2])
 .ret))⟩
theorem Q75:compF Tryz.prog 84=some QQ:=by kernel_rfl
def JY:Fun:=⟨20,[4,0,2,10,1,5],[.tmp 4],
 .seq (qr [qe 2 (.box 120) [qt 0],qp 4 .mov [.const (.pointer none)]] [2,4])
 (.seq (qr [qf 6 1 2,ql 7 6,qm 5 7] [5])
 (.seq (.seq (qr [qL 8 4 2,qa 9 132 [qt 8],qc 10 .neq 9 0] [10])
 (.cond (qt 10) (qr [qp 5 .mov [qi 0]] [5]) .skip))
 (.seq (.reg (.run (qL 11 4 2) (.run (qm 12 1) (.run (qm 13 5) (.run (qm 15 5) (.run (qc 16 .add 15 1) (.both (.eff (qa 14 134 [qt 13]) [qL 11 4 2] (.eff (qe 17 (.mks 158 19 144 [qv 0,qv 0,qv 0,qv 0,qv 0,qv 0,qv 0,qv 0,qv 0,qv 0,qv 0,qv 0,.bool false,.bool false,qv 0,qv 0,qv 0,qv 0,qv 0]) [qt 16,qt 16]) [qL 11 4 2] (.run (qp 18 (.bld [qv 0,qv 0,qv 0,qv 0,.pointer none,.pointer none,.slice none 0 0] [(0,4),(4,1),(5,1),(6,1)]) [qt 11,qt 12,qt 14,qt 17]) (.eff (qe 19 (.box 172) [qt 18]) [] (.run (qm 4 19) .done))))) (.eff (qe 17 (.mks 158 19 144 [qv 0,qv 0,qv 0,qv 0,qv 0,qv 0,qv 0,qv 0,qv 0,qv 0,qv 0,qv 0,.bool false,.bool false,qv 0,qv 0,qv 0,qv 0,qv 0]) [qt 16,qt 16]) [qL 11 4 2] (.eff (qa 14 134 [qt 13]) [qL 11 4 2] (.run (qp 18 (.bld [qv 0,qv 0,qv 0,qv 0,.pointer none,.pointer none,.slice none 0 0] [(0,4),(4,1),(5,1),(6,1)]) [qt 11,qt 12,qt 14,qt 17]) (.eff (qe 19 (.box 172) [qt 18]) [] (.run (qm 4 19) .done))))))))))) [4])
 .ret)))⟩
theorem K_frame_New:compF Tryz.prog 86=some JY:=by kernel_rfl
def Z34:Fun:=⟨55,[4,5,1,0,9,7,19,6,3],[.tmp 4,.tmp 5],
 .seq (qr [qe 3 (.box 158) [qt 1],qp 4 .mov [qi 0],qp 5 .mov [.const (.bool false)]] [3,4,5])
 (.seq (.seq (qr [qm 8 0,qp 9 (.eqn false 0) [qt 8]] [9])
 (.cond (qt 9) (.seq (qr [qp 4 .mov [qi 0],qp 5 .mov [.const (.bool false)]] [4,5])
 .ret) .skip))
 (.seq (qr [qm 11 0,qn 12 11,qf 13 5 12,ql 14 13,qa 15 135 [qt 14],qm 10 15,qx 16 0 10,qx 17 1 10,qm 6 16,qm 7 17] [6,7])
 (.seq (.seq (qr [qm 18 7,qp 19 .not [qt 18]] [19])
 (.cond (qt 19) (.seq (qr [qp 4 .mov [qi 0],qp 5 .mov [.const (.bool false)]] [4,5])
 .ret) .skip))
 (.seq (.reg (.run (qm 20 0) (.run (qn 21 20) (.run (qf 22 6 21) (.run (ql 23 22) (.run (qm 24 6) (.run (qL 25 19 3) (.run (qp 26 (.ixa 19) [qt 23,qt 24]) (.eff (qs 19 26 25) [] .done)))))))) [])
 (.seq (.reg (.run (qm 27 0) (.run (qn 28 27) (.run (qf 29 4 28) (.run (ql 30 29) (.run (qm 31 0) (.run (qn 32 31) (.run (qf 33 0 32) (.run (qL 34 4 33) (.run (qm 35 6) (.run (qm 37 0) (.run (qn 38 37) (.run (qf 39 0 38) (.run (qL 40 4 39) (.eff (qa 36 137 [qt 34,qt 35]) [qL 40 4 39,ql 30 29] (.eff (qa 41 133 [qt 40]) [ql 30 29] (.eff (qa 42 136 [qt 30,qt 36,qt 41,qi 0]) [] .done)))))))))))))))) [])
 (.seq (.reg (.run (qm 43 0) (.run (qn 44 43) (.run (qf 45 4 44) (.run (ql 46 45) (.run (qm 47 0) (.run (qn 48 47) (.run (qf 49 0 48) (.run (qL 50 4 49) (.run (qm 51 6) (.eff (qa 52 137 [qt 50,qt 51]) [ql 46 45] (.eff (qa 53 136 [qt 46,qt 52,qi 1,qi 1]) [] .done))))))))))) [])
 (.seq (qr [qm 54 6,qm 4 54,qp 5 .mov [.const (.bool true)]] [4,5])
 .ret)))))))⟩
theorem YP:compF Tryz.prog 87=some Z34:=by kernel_rfl
def Y69:Fun:=⟨2,[0],[.cell 0 (some 19)],
 .seq (qr [qe 0 (.new 158 [qv 0,qv 0,qv 0,qv 0,qv 0,qv 0,qv 0,qv 0,qv 0,qv 0,qv 0,qv 0,.bool false,.bool false,qv 0,qv 0,qv 0,qv 0,qv 0]) []] [0])
 (.seq (qr [qp 1 (.bld [qv 0,qv 0,qv 0,qv 0,qv 0,qv 0,qv 0,qv 0,qv 0,qv 0,qv 0,qv 0,.bool false,.bool false,qv 0,qv 0,qv 0,qv 0,qv 0] [(0,1)]) [qi 1],qs 19 0 1] [])
 .ret)⟩
theorem K_frame_Root:compF Tryz.prog 88=some Y69:=by kernel_rfl
def QX:Fun:=⟨8,[2,0,4],[.tmp 2],
 .seq (qr [qp 2 .mov [.const (.slice none 0 0)]] [2])
 (.seq (.seq (qr [qm 3 0,qp 4 (.eqn false 1) [qt 3]] [4])
 (.cond (qt 4) (.seq (qr [qp 2 .mov [.const (.slice none 0 0)]] [2])
 .ret) .skip))
 (.seq (qr [qe 5 (.bsl 3 1) [],qm 6 0,qe 7 (.app 3 1 8 [qv 0]) [qt 5,qt 6],qm 2 7] [2])
 .ret))⟩
theorem Q44:compF Tryz.prog 89=some QX:=by kernel_rfl
def Z35:Fun:=⟨10,[2,0,4],[.cell 2 (some 7)],
 .seq (qr [qe 2 (.new 36 [qv 0,qv 0,qv 0,qv 0,qv 0,.bool false,.bool false]) []] [2])
 (.seq (.seq (qr [qm 3 0,qp 4 (.eqn false 0) [qt 3]] [4])
 (.cond (qt 4) (.seq (qr [qp 5 (.bld [qv 0,qv 0,qv 0,qv 0,qv 0,.bool false,.bool false] []) [],qs 7 2 5] [])
 .ret) .skip))
 (.seq (qr [qm 6 0,qn 7 6,qf 8 1 7,qL 9 7 8,qs 7 2 9] [])
 .ret))⟩
theorem YQ:compF Tryz.prog 90=some Z35:=by kernel_rfl
def Q45:SCode:=
 .skip
def Q46:SCode:=
 .block 1 (qr [ql 7 3,qc 8 .add 7 1,qs 1 3 8] [])
def Z36:Fun:=⟨10,[2,0,5,6,3],[.tmp 2],
 .seq (qr [qp 2 .mov [qi 0]] [2])
 (.seq (qr [qe 3 (.new 3 [qv 0]) [],qE (.st 1) [qt 3,qi 0]] [3])
 (.seq (.seq (qr [qm 4 0,qa 5 192 [qt 4]] [5])
 (.block 0 (.rf (qt 5) [6] Q45 Q46)))
 (.seq (qr [ql 9 3,qm 2 9] [2])
 .ret)))⟩
theorem YR:compF Tryz.prog 109=some Z36:=by kernel_rfl
def QE:Fun:=⟨8,[2,0,4],[.tmp 2],
 .seq (qr [qp 2 .mov [.const (.slice none 0 0)]] [2])
 (.seq (.seq (qr [qm 3 0,qp 4 (.eqn false 1) [qt 3]] [4])
 (.cond (qt 4) (.seq (qr [qp 2 .mov [.const (.slice none 0 0)]] [2])
 .ret) .skip))
 (.seq (qr [qe 5 (.bsl 113 4) [],qm 6 0,qe 7 (.app 113 4 32 [qv 0,qv 0,qv 0,qv 0]) [qt 5,qt 6],qm 2 7] [2])
 .ret))⟩
theorem Q27:compF Tryz.prog 110=some QE:=by kernel_rfl
def YS:Fun:=⟨9,[2,0,4],[.tmp 2],
 .seq (qr [qp 2 .mov [.const (.slice none 0 0)]] [2])
 (.seq (.seq (qr [qm 3 0,qp 4 (.eqn false 0) [qt 3]] [4])
 (.cond (qt 4) (.seq (qr [qp 2 .mov [.const (.slice none 0 0)]] [2])
 .ret) .skip))
 (.seq (qr [qm 5 0,qn 6 5,qf 7 0 6,ql 8 7,qm 2 8] [2])
 .ret))⟩
theorem J98:compF Tryz.prog 111=some YS:=by kernel_rfl
def Z37:Fun:=⟨9,[2,0,4],[.tmp 2],
 .seq (qr [qp 2 .mov [qi 0]] [2])
 (.seq (.seq (qr [qm 3 0,qp 4 (.eqn false 0) [qt 3]] [4])
 (.cond (qt 4) (.seq (qr [qp 2 .mov [qi 0]] [2])
 .ret) .skip))
 (.seq (qr [qm 5 0,qn 6 5,qf 7 3 6,ql 8 7,qm 2 8] [2])
 .ret))⟩
theorem YT:compF Tryz.prog 112=some Z37:=by kernel_rfl
def Xs:Fun:=⟨22,[4,0,1,15],[.tmp 4],
 .seq (qr [qp 4 .mov [.const (.pointer none)]] [4])
 (.seq (.seq (qr [qm 5 0,qp 6 (.eqn false 0) [qt 5],qm 7 6,qg 8 7 false (.pur .mov [qt 0]),qg 9 7 false (.pur .nilc [qt 8]),qg 10 7 false (.pur (.fla 5) [qt 9]),qg 11 7 false (.ld none (qt 10)),qg 12 7 false (.pur .mov [qt 1]),qg 13 7 false (.eff (.call 195) [qt 11,qt 12]),qg 14 7 false (.pur .not [qt 13]),qp 15 .pick [qt 7,.const (.bool true),qt 14]] [15])
 (.cond (qt 15) (.seq (qr [qp 4 .mov [.const (.pointer none)]] [4])
 .ret) .skip))
 (.seq (qr [qm 16 0,qn 17 16,qf 18 6 17,ql 19 18,qm 20 1,qp 21 (.ixa 19) [qt 19,qt 20],qm 4 21] [4])
 .ret))⟩
theorem Y93:compF Tryz.prog 115=some Xs:=by kernel_rfl
def JZ:Fun:=⟨10,[2,0],[.tmp 2],
 .seq (qr [qp 2 .mov [.const (.pointer none)]] [2])
 (.seq (qr [qm 3 0,qp 4 (.minmax true) [qt 3,qi 0],qp 5 (.minmax false) [qt 4,qi 1000],qc 6 .add 5 1,qe 7 (.mks 4 1 1 [.bool false]) [qt 6,qt 6],qp 8 (.bld [.slice none 0 0,.slice none 0 0,qv 0,qv 0] [(0,1)]) [qt 7],qe 9 (.box 250) [qt 8],qm 2 9] [2])
 .ret)⟩
theorem K_arena_New:compF Tryz.prog 134=some JZ:=by kernel_rfl
def Z38:Fun:=⟨32,[2,3,0,7,5,13,4],[.tmp 2,.tmp 3],
 .seq (qr [qp 2 .mov [qi 0],qp 3 .mov [.const (.bool false)]] [2,3])
 (.seq (.seq (qr [qm 6 0,qp 7 (.eqn false 0) [qt 6]] [7])
 (.cond (qt 7) (.seq (qr [qp 2 .mov [qi 0],qp 3 .mov [.const (.bool false)]] [2,3])
 .ret) .skip))
 (.seq (qr [qm 9 0,qa 10 212 [qt 9],qm 8 10,qx 11 0 8,qx 12 1 8,qm 4 11,qm 5 12] [4,5])
 (.seq (.seq (qr [qm 13 5] [13])
 (.cond (qt 13) (.seq (qr [qm 14 0,qn 15 14,qf 16 0 15,ql 17 16,qm 18 4,qp 19 (.ixa 1) [qt 17,qt 18],qE (.st 1) [qt 19,.const (.bool true)]] [])
 (.reg (.run (qm 20 0) (.run (qm 21 0) (.run (qn 22 21) (.run (qf 23 3 22) (.run (ql 24 23) (.run (qm 25 0) (.eff (qa 26 109 [qt 25]) [ql 24 23] (.run (qp 27 (.minmax true) [qt 24,qt 26]) (.run (qn 28 20) (.run (qf 29 3 28) (.eff (qs 1 29 27) [] .done))))))))))) [])) .skip))
 (.seq (qr [qm 30 4,qm 31 5,qm 2 30,qm 3 31] [2,3])
 .ret))))⟩
theorem YU:compF Tryz.prog 135=some Z38:=by kernel_rfl
def Xt:Fun:=⟨23,[0,14,1,2],[],
 .seq (qr [qm 6 0,qp 7 (.eqn true 0) [qt 6],qm 8 7,qg 9 8 true (.pur .mov [qt 0]),qg 10 8 true (.pur .nilc [qt 9]),qg 11 8 true (.pur (.fla 21) [qt 10]),qg 12 8 true (.ld none (qt 11)),qg 13 8 true (.pur (.bin .eql) [qt 12,qi 0]),qp 14 .pick [qt 8,qt 13,.const (.bool false)]] [14])
 (.cond (qt 14) (qr [qm 15 0,qm 16 0,qm 17 1,qm 18 2,qn 19 15,qf 20 21 19,qs 1 20 17,qn 21 16,qf 22 22 21,qs 1 22 18] []) .skip)⟩
theorem Y94:compF Tryz.prog 146=some Xt:=by kernel_rfl
def X75:Fun:=⟨16,[1,0,5,3],[],
 .seq (qr [qe 3 (.box 113) [qt 1]] [3])
 (.seq (qr [qm 4 0,qp 5 (.eqn true 0) [qt 4]] [5])
 (.cond (qt 5) (.reg (.run (qm 6 0) (.run (qm 7 0) (.run (qn 8 7) (.run (qf 9 0 8) (.run (ql 10 9) (.run (qL 11 4 3) (.eff (qe 12 (.bsl 113 4) [qt 11]) [ql 10 9] (.eff (qe 13 (.app 113 4 32 [qv 0,qv 0,qv 0,qv 0]) [qt 10,qt 12]) [] (.run (qn 14 6) (.run (qf 15 0 14) (.eff (qs 1 15 13) [] .done))))))))))) []) .skip))⟩
theorem J25:compF Tryz.prog 148=some X75:=by kernel_rfl
def Xu:Fun:=⟨49,[6,0,1,2,37],[.cell 6 (some 4)],
 .seq (qr [qe 6 (.new 126 [qv 0,qv 0,qv 0,qv 0]) []] [6])
 (.seq (.seq (qr [qm 7 0,qp 8 (.eqn false 0) [qt 7],qm 9 8,qg 10 9 false (.pur .mov [qt 1]),qg 11 9 false (.pur (.bin .lss) [qt 10,qi 0]),qp 12 .pick [qt 9,.const (.bool true),qt 11],qm 13 12,qg 14 13 false (.pur .mov [qt 1]),qg 15 13 false (.pur .mov [qt 0]),qg 16 13 false (.pur .nilc [qt 15]),qg 17 13 false (.pur (.fla 0) [qt 16]),qg 18 13 false (.ld none (qt 17)),qg 19 13 false (.pur (.len false) [qt 18]),qg 20 13 false (.pur (.bin .geq) [qt 14,qt 19]),qp 21 .pick [qt 13,.const (.bool true),qt 20],qm 22 21,qg 23 22 false (.pur .mov [qt 2]),qg 24 22 false (.pur (.bin .lss) [qt 23,qi 0]),qp 25 .pick [qt 22,.const (.bool true),qt 24],qm 26 25,qg 27 26 false (.pur .mov [qt 2]),qg 28 26 false (.pur .mov [qt 0]),qg 29 26 false (.pur .nilc [qt 28]),qg 30 26 false (.pur (.fla 0) [qt 29]),qg 31 26 false (.ld none (qt 30)),qg 32 26 false (.pur .mov [qt 1]),qg 33 26 false (.pur (.ixa 1) [qt 31,qt 32]),qg 34 26 false (.ld none (qt 33)),qg 35 26 false (.pur (.len false) [qt 34]),qg 36 26 false (.pur (.bin .geq) [qt 27,qt 35]),qp 37 .pick [qt 26,.const (.bool true),qt 36]] [37])
 (.cond (qt 37) (.seq (qr [qp 38 (.bld [qv 0,qv 0,qv 0,qv 0] []) [],qs 4 6 38] [])
 .ret) .skip))
 (.seq (qr [qm 39 0,qn 40 39,qf 41 0 40,ql 42 41,qm 43 1,qp 44 (.ixa 1) [qt 42,qt 43],ql 45 44,qm 46 2,qp 47 (.ixa 4) [qt 45,qt 46],qL 48 4 47,qs 4 6 48] [])
 .ret))⟩
theorem Y95:compF Tryz.prog 151=some Xu:=by kernel_rfl
def X03:Fun:=⟨50,[4,5,1,3,7,8,0,17,26,37],[.tmp 4,.tmp 5],
 .seq (qr [qe 3 (.box 226) [qt 1],qp 4 .mov [qi 0],qp 5 .mov [.const (.bool false)]] [3,4,5])
 (.seq (.seq (qr [qf 6 0 3,ql 7 6] [7])
 (.block 0 (.seq (qr [qc 9 .eql 7 1,qm 8 9] [8])
 (.cond (qt 8) (.seq (.reg (.run (qm 10 0) (.run (qf 12 1 3) (.run (ql 13 12) (.eff (qa 11 61 [qt 10]) [ql 13 12] (.eff (qa 14 68 [qt 11,qt 13]) [] (.run (qx 15 0 14) (.run (qx 16 1 14) (.run (qm 4 15) (.run (qm 5 16) .done))))))))) [4,5])
 .ret) (.seq (qr [qc 18 .eql 7 2,qm 17 18] [17])
 (.cond (qt 17) (.seq (.reg (.run (qm 19 0) (.run (qf 21 1 3) (.run (ql 22 21) (.run (qf 23 2 3) (.run (ql 24 23) (.eff (qa 20 61 [qt 19]) [ql 24 23,ql 22 21] (.eff (qa 25 85 [qt 20,qt 22,qt 24]) [] (.run (qp 4 .mov [qi 0]) (.run (qm 5 25) .done))))))))) [4,5])
 .ret) (.seq (qr [qc 27 .eql 7 3,qm 26 27] [26])
 (.cond (qt 26) (.seq (.reg (.run (qm 28 0) (.run (qf 30 1 3) (.run (ql 31 30) (.run (qf 32 2 3) (.run (ql 33 32) (.eff (qa 29 61 [qt 28]) [ql 33 32,ql 31 30] (.eff (qa 34 225 [qt 29,qt 31,qt 33]) [] (.run (qx 35 0 34) (.run (qx 36 1 34) (.run (qm 4 35) (.run (qm 5 36) .done))))))))))) [4,5])
 .ret) (.seq (qr [qc 38 .eql 7 4,qm 37 38] [37])
 (.cond (qt 37) (.seq (.reg (.run (qm 39 0) (.run (qf 41 1 3) (.run (ql 42 41) (.run (qf 43 2 3) (.run (ql 44 43) (.run (qf 45 3 3) (.run (ql 46 45) (.eff (qa 40 61 [qt 39]) [ql 46 45,ql 44 43,ql 42 41] (.eff (qa 47 227 [qt 40,qt 42,qt 44,qt 46]) [] (.run (qx 48 0 47) (.run (qx 49 1 47) (.run (qm 4 48) (.run (qm 5 49) .done))))))))))))) [4,5])
 .ret) .skip))))))))))
 (.seq (qr [qp 4 .mov [qi 0],qp 5 .mov [.const (.bool false)]] [4,5])
 .ret))⟩
theorem J00:compF Tryz.prog 156=some X03:=by kernel_rfl
def Xv:Fun:=⟨29,[4,0,18,1],[.tmp 4],
 .seq (qr [qp 4 .mov [.const (.bool false)]] [4])
 (.seq (.seq (qr [qm 5 0,qp 6 (.eqn false 0) [qt 5],qm 7 6,qg 8 7 false (.pur .mov [qt 0]),qg 9 7 false (.pur .nilc [qt 8]),qg 10 7 false (.pur (.fla 0) [qt 9]),qg 11 7 false (.ld none (qt 10)),qg 12 7 false (.pur (.len false) [qt 11]),qg 13 7 false (.pur .mov [qt 0]),qg 14 7 false (.pur .nilc [qt 13]),qg 15 7 false (.pur (.fla 1) [qt 14]),qg 16 7 false (.ld none (qt 15)),qg 17 7 false (.pur (.bin .geq) [qt 12,qt 16]),qp 18 .pick [qt 7,.const (.bool true),qt 17]] [18])
 (.cond (qt 18) (.seq (qr [qp 4 .mov [.const (.bool false)]] [4])
 .ret) .skip))
 (.seq (qr [qm 19 0,qm 20 0,qn 21 20,qf 22 0 21,ql 23 22,qm 24 1,qe 25 (.bsl 3 1) [qt 24],qe 26 (.app 3 1 8 [qv 0]) [qt 23,qt 25],qn 27 19,qf 28 0 27,qs 1 28 26] [])
 (.seq (qr [qp 4 .mov [.const (.bool true)]] [4])
 .ret)))⟩
theorem Y96:compF Tryz.prog 158=some Xv:=by kernel_rfl
def Z77:Fun:=⟨4,[2,0,1],[.tmp 2],
 .seq (qr [qe 1 (.box 169) [qt 0],qp 2 .mov [.const .nilFunc]] [1,2])
 (.seq (qr [qp 3 (.mkf (.func 259) 0) [qt 1],qm 2 3] [2])
 .ret)⟩
theorem Y35:compF Tryz.prog 192=some Z77:=by kernel_rfl
def Z39:Fun:=⟨29,[4,0,1],[.tmp 4],
 .seq (qr [qp 4 .mov [.const (.bool false)]] [4])
 (.seq (qr [qm 5 0,qp 6 (.eqn true 0) [qt 5],qm 7 6,qg 8 7 true (.pur .mov [qt 1]),qg 9 7 true (.pur (.bin .gtr) [qt 8,qi 0]),qp 10 .pick [qt 7,qt 9,.const (.bool false)],qm 11 10,qg 12 11 true (.pur .mov [qt 1]),qg 13 11 true (.pur .mov [qt 0]),qg 14 11 true (.pur .nilc [qt 13]),qg 15 11 true (.pur (.fla 0) [qt 14]),qg 16 11 true (.ld none (qt 15)),qg 17 11 true (.pur (.len false) [qt 16]),qg 18 11 true (.pur (.bin .lss) [qt 12,qt 17]),qp 19 .pick [qt 11,qt 18,.const (.bool false)],qm 20 19,qg 21 20 true (.pur .mov [qt 0]),qg 22 20 true (.pur .nilc [qt 21]),qg 23 20 true (.pur (.fla 0) [qt 22]),qg 24 20 true (.ld none (qt 23)),qg 25 20 true (.pur .mov [qt 1]),qg 26 20 true (.pur (.ixa 1) [qt 24,qt 25]),qg 27 20 true (.ld none (qt 26)),qp 28 .pick [qt 20,qt 27,.const (.bool false)],qm 4 28] [4])
 .ret)⟩
theorem YV:compF Tryz.prog 195=some Z39:=by kernel_rfl
def Z40:Fun:=⟨54,[2,3,0,4,12,5,42],[.tmp 2,.tmp 3],
 .seq (qr [qp 2 .mov [qi 0],qp 3 .mov [.const (.bool false)]] [2,3])
 (.seq (.seq (qr [qm 6 0,qn 7 6,qf 8 1 7,ql 9 8,qp 10 (.len false) [qt 9],qm 4 10] [4])
 (.seq (qr [qm 11 4,qc 12 .gtr 11 0] [12])
 (.cond (qt 12) (.seq (qr [qm 13 0,qn 14 13,qf 15 1 14,ql 16 15,qm 17 4,qc 18 .sub 17 1,qp 19 (.ixa 1) [qt 16,qt 18],ql 20 19,qm 5 20] [5])
 (.seq (qr [qm 21 0,qm 22 0,qn 23 22,qf 24 1 23,ql 25 24,qm 26 4,qc 27 .sub 26 1,qp 28 (.slc 1 false true) [qt 25,qt 27],qn 29 21,qf 30 1 29,qs 1 30 28] [])
 (.seq (qr [qm 31 5,qm 2 31,qp 3 .mov [.const (.bool true)]] [2,3])
 .ret))) .skip)))
 (.seq (.seq (qr [qm 32 0,qn 33 32,qf 34 2 33,ql 35 34,qc 36 .add 35 1,qm 37 0,qn 38 37,qf 39 0 38,ql 40 39,qp 41 (.len false) [qt 40],qb 42 .geq 36 41] [42])
 (.cond (qt 42) (.seq (qr [qp 2 .mov [qi 0],qp 3 .mov [.const (.bool false)]] [2,3])
 .ret) .skip))
 (.seq (qr [qm 43 0,qn 44 43,qf 45 2 44,ql 46 45,qc 47 .add 46 1,qn 48 43,qf 49 2 48,qs 1 49 47] [])
 (.seq (qr [qm 50 0,qn 51 50,qf 52 2 51,ql 53 52,qm 2 53,qp 3 .mov [.const (.bool true)]] [2,3])
 .ret))))⟩
theorem YW:compF Tryz.prog 212=some Z40:=by kernel_rfl
def Z41:Fun:=⟨15,[4,0,1],[.tmp 4],
 .seq (qr [qp 4 .mov [.const (.bool false)]] [4])
 (.seq (qr [qm 5 0,qp 6 (.eqn true 0) [qt 5],qm 7 6,qg 8 7 true (.pur .mov [qt 0]),qg 9 7 true (.pur .nilc [qt 8]),qg 10 7 true (.pur (.fla 5) [qt 9]),qg 11 7 true (.ld none (qt 10)),qg 12 7 true (.pur .mov [qt 1]),qg 13 7 true (.eff (.call 289) [qt 11,qt 12]),qp 14 .pick [qt 7,qt 13,.const (.bool false)],qm 4 14] [4])
 .ret)⟩
theorem YX:compF Tryz.prog 247=some Z41:=by kernel_rfl
def Z42:Fun:=⟨13,[4,0,2,1],[.cell 4 (some 19)],
 .seq (qr [qe 2 (.box 158) [qt 0],qe 4 (.new 158 [qv 0,qv 0,qv 0,qv 0,qv 0,qv 0,qv 0,qv 0,qv 0,qv 0,qv 0,qv 0,.bool false,.bool false,qv 0,qv 0,qv 0,qv 0,qv 0]) []] [2,4])
 (.seq (qr [qf 5 1 2,ql 6 5,qf 7 3 2,qL 8 8 7,qm 9 1,qf 10 17 2,ql 11 10,qp 12 (.bld [qv 0,qv 0,qv 0,qv 0,qv 0,qv 0,qv 0,qv 0,qv 0,qv 0,qv 0,qv 0,.bool false,.bool false,qv 0,qv 0,qv 0,qv 0,qv 0] [(0,1),(1,1),(3,8),(11,1),(14,1)]) [qi 2,qt 6,qt 8,qt 9,qt 11],qs 19 4 12] [])
 .ret)⟩
theorem YY:compF Tryz.prog 255=some Z42:=by kernel_rfl
def Q47:SCode:=
 .seq (qr [qb 13 .lss 12 11] [13])
 (.seq (.cond (qt 13) .skip (.exit 0))
 (.seq (.block 1 (.seq (qr [qm 14 12,qp 15 (.ixa 1) [qt 10,qt 12],ql 16 15,qm 3 14,qm 4 16] [3,4])
 (.seq (qr [qm 17 4,qm 18 17,qg 19 18 true (.pur .mov [qt 0]),qg 20 18 true (.pur .mov [qt 3]),qg 21 18 true (.eff .callv [qt 19,qt 20]),qg 22 18 true (.pur .not [qt 21]),qp 23 .pick [qt 18,qt 22,.const (.bool false)]] [23])
 (.cond (qt 23) .ret .skip))))
 (qr [qc 24 .add 12 1,qm 12 24] [12])))
def ZV:Fun:=⟨25,[1,6,12,11,13,10,4,0,3,23],[],
 .seq (.seq (qr [ql 5 1,qp 6 (.eqn false 0) [qt 5]] [6])
 (.cond (qt 6) .ret .skip))
 (.seq (qr [ql 7 1,qn 8 7,qf 9 0 8,ql 10 9,qp 11 (.len false) [qt 10],qp 12 .mov [qi 0]] [10,11,12])
 (.block 0 (.loop Q47)))⟩
theorem X93:compF Tryz.prog 259=some ZV:=by kernel_rfl
def ZW:Fun:=⟨12,[6,0,2,3,1],[.cell 6 (some 19)],
 .seq (qr [qe 3 (.box 158) [qt 0],qe 6 (.new 158 [qv 0,qv 0,qv 0,qv 0,qv 0,qv 0,qv 0,qv 0,qv 0,qv 0,qv 0,qv 0,.bool false,.bool false,qv 0,qv 0,qv 0,qv 0,qv 0]) []] [3,6])
 (.seq (qr [qm 7 2,qf 8 3 3,qL 9 8 8,qm 10 1,qp 11 (.bld [qv 0,qv 0,qv 0,qv 0,qv 0,qv 0,qv 0,qv 0,qv 0,qv 0,qv 0,qv 0,.bool false,.bool false,qv 0,qv 0,qv 0,qv 0,qv 0] [(0,1),(1,1),(3,8),(11,1)]) [qi 1,qt 7,qt 9,qt 10],qs 19 6 11] [])
 .ret)⟩
theorem X94:compF Tryz.prog 274=some ZW:=by kernel_rfl
def Z43:Fun:=⟨15,[8,0,2,4,1,3],[.cell 8 (some 19)],
 .seq (qr [qe 4 (.box 158) [qt 0],qe 8 (.new 158 [qv 0,qv 0,qv 0,qv 0,qv 0,qv 0,qv 0,qv 0,qv 0,qv 0,qv 0,qv 0,.bool false,.bool false,qv 0,qv 0,qv 0,qv 0,qv 0]) []] [4,8])
 (.seq (qr [qm 9 2,qf 10 3 4,qL 11 8 10,qm 12 1,qm 13 3,qp 14 (.bld [qv 0,qv 0,qv 0,qv 0,qv 0,qv 0,qv 0,qv 0,qv 0,qv 0,qv 0,qv 0,.bool false,.bool false,qv 0,qv 0,qv 0,qv 0,qv 0] [(0,1),(1,1),(3,8),(11,1),(18,1)]) [qi 3,qt 9,qt 11,qt 12,qt 13],qs 19 8 14] [])
 .ret)⟩
theorem YZ:compF Tryz.prog 275=some Z43:=by kernel_rfl
def Z44:Fun:=⟨16,[2,0,4],[.tmp 2],
 .seq (qr [qp 2 .mov [qi 0]] [2])
 (.seq (.seq (qr [qm 3 0,qp 4 (.eqn false 0) [qt 3]] [4])
 (.cond (qt 4) (.seq (qr [qp 2 .mov [qi 0]] [2])
 .ret) .skip))
 (.seq (qr [qm 5 0,qn 6 5,qf 7 20 6,ql 8 7,qc 9 .add 8 1,qn 10 5,qf 11 20 10,qs 1 11 9] [])
 (.seq (qr [qm 12 0,qn 13 12,qf 14 20 13,ql 15 14,qm 2 15] [2])
 .ret)))⟩
theorem Y00:compF Tryz.prog 276=some Z44:=by kernel_rfl
def Z45:Fun:=⟨25,[4,0,1,8],[.tmp 4],
 .seq (qr [qp 4 .mov [.const (.bool false)]] [4])
 (.seq (.seq (qr [qm 5 0,qm 6 1,qa 7 195 [qt 5,qt 6],qp 8 .not [qt 7]] [8])
 (.cond (qt 8) (.seq (qr [qp 4 .mov [.const (.bool false)]] [4])
 .ret) .skip))
 (.seq (qr [qm 9 0,qn 10 9,qf 11 0 10,ql 12 11,qm 13 1,qp 14 (.ixa 1) [qt 12,qt 13],qE (.st 1) [qt 14,.const (.bool false)]] [])
 (.seq (qr [qm 15 0,qm 16 0,qn 17 16,qf 18 1 17,ql 19 18,qm 20 1,qe 21 (.bsl 3 1) [qt 20],qe 22 (.app 3 1 8 [qv 0]) [qt 19,qt 21],qn 23 15,qf 24 1 23,qs 1 24 22] [])
 (.seq (qr [qp 4 .mov [.const (.bool true)]] [4])
 .ret))))⟩
theorem Y01:compF Tryz.prog 289=some Z45:=by kernel_rfl
end Go.Proofs.YtelibaobkcokdaaGreat
