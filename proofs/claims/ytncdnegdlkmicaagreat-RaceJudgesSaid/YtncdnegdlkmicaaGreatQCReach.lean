/- CReach -/
import Derived.Test.YtncdnegdlkmicaaGreatQLb
import Derived.Test.YtncdnegdlkmicaaGreatProg
import Derived.KernelRfl
namespace Go.Proofs.YtncdnegdlkmicaaGreat
open Go Go.Kx Go.Proofs
set_option linter.unusedVariables false
set_option maxRecDepth 100000
def Z84:SCode:=
 .seq (qr [qb 56 .lss 55 54] [56])
 (.seq (.cond (qt 56) .skip (.exit 4))
 (.seq (.block 5 (.seq (qr [qm 57 55,qp 58 (.ixa 1) [qt 53,qt 55],ql 59 58,qm 11 57,qm 12 59] [11,12])
 (qr [qm 60 8,qm 61 11,qp 62 (.ixa 1) [qt 60,qt 61],ql 63 62,qm 64 12,qb 65 .or 63 64,qp 66 (.ixa 1) [qt 60,qt 61],qs 1 66 65] [])))
 (qr [qc 67 .add 55 1,qm 55 67] [55])))
def Z85:SCode:=
 .seq (qr [qb 34 .lss 33 32] [34])
 (.seq (.cond (qt 34) .skip (.exit 2))
 (.seq (.block 3 (.seq (qr [qp 35 (.ixa 1) [qt 31,qt 33],ql 36 35,qm 10 36] [10])
 (.seq (.reg (.run (qm 37 8) (.run (qm 38 10) (.run (qc 39 .quo 38 64) (.run (qp 40 (.ixa 1) [qt 37,qt 39]) (.run (ql 41 40) (.run (qm 42 10) (.run (qc 43 .rem 42 64) (.run (qp 44 (.bin .shl) [.const (.int .u64 1),qt 43]) (.run (qb 45 .or 41 44) (.run (qp 46 (.ixa 1) [qt 37,qt 39]) (.eff (qs 1 46 45) [] .done))))))))))) [])
 (.seq (qr [qm 47 5,qn 48 47,qf 49 0 48,ql 50 49,qm 51 10,qp 52 (.ixa 1) [qt 50,qt 51],ql 53 52,qp 54 (.len false) [qt 53],qp 55 .mov [qi 0]] [53,54,55])
 (.block 4 (.loop Z84))))))
 (qr [qc 68 .add 33 1,qm 33 68] [33])))
def Z86:SCode:=
 .seq (qr [qb 23 .lss 22 21] [23])
 (.seq (.cond (qt 23) .skip (.exit 0))
 (.seq (.block 1 (.seq (qr [qm 24 22,qp 25 (.ixa 1) [qt 20,qt 22],ql 26 25,qm 6 24,qm 7 26] [6,7])
 (.seq (qr [qm 27 6,qc 28 .quo 27 64,qc 29 .add 28 1,qe 30 (.mks 107 1 8 [.int .u64 0]) [qt 29,qt 29],qm 8 30] [8])
 (.seq (.seq (qr [qm 31 7,qp 32 (.len false) [qt 31],qp 33 .mov [qi 0]] [31,32,33])
 (.block 2 (.loop Z85)))
 (qr [qm 69 5,qm 70 5,qn 71 70,qf 72 0 71,ql 73 72,qm 74 8,qe 75 (.bsl 106 1) [qt 74],qe 76 (.app 106 1 24 [.slice none 0 0]) [qt 73,qt 75],qn 77 69,qf 78 0 77,qs 1 78 76] [])))))
 (qr [qc 79 .add 22 1,qm 22 79] [22])))
def X64:Fun:=⟨81,[2,3,0,4,16,22,21,23,20,6,7,33,32,34,31,8,10,5,55,54,56,53,11,12],[.tmp 2,.tmp 3],
 .seq (qr [qp 2 .mov [.const (.pointer none)],qp 3 .mov [qi 0]] [2,3])
 (.seq (.seq (qr [qm 13 0,qa 14 30 [qt 13],qm 4 14] [4])
 (.seq (qr [qm 15 4,qc 16 .neq 15 0] [16])
 (.cond (qt 16) (.seq (qr [qm 17 4,qp 2 .mov [.const (.pointer none)],qm 3 17] [2,3])
 .ret) .skip)))
 (.seq (qr [qp 18 (.bld [.slice none 0 0] []) [],qe 19 (.box 104) [qt 18],qm 5 19] [5])
 (.seq (.seq (qr [qm 20 0,qp 21 (.len false) [qt 20],qp 22 .mov [qi 0]] [20,21,22])
 (.block 0 (.loop Z86)))
 (.seq (qr [qm 80 5,qm 2 80,qp 3 .mov [qi 0]] [2,3])
 .ret))))⟩
theorem K_reach_New:compF Tryz.prog 18=some X64:=by kernel_rfl
def Z01:Fun:=⟨10,[2,0,4],[.tmp 2],
 .seq (qr [qp 2 .mov [qi 0]] [2])
 (.seq (.seq (qr [qm 3 0,qp 4 (.eqn false 0) [qt 3]] [4])
 (.cond (qt 4) (.seq (qr [qp 2 .mov [qi 0]] [2])
 .ret) .skip))
 (.seq (qr [qm 5 0,qn 6 5,qf 7 0 6,ql 8 7,qp 9 (.len false) [qt 8],qm 2 9] [2])
 .ret))⟩
theorem X03:compF Tryz.prog 19=some Z01:=by kernel_rfl
def Z6:Fun:=⟨34,[6,0,1,2],[.tmp 6],
 .seq (qr [qp 6 .mov [.const (.bool false)]] [6])
 (.seq (qr [qm 7 0,qm 8 1,qa 9 31 [qt 7,qt 8],qm 10 9,qg 11 10 true (.pur .mov [qt 0]),qg 12 10 true (.pur .mov [qt 2]),qg 13 10 true (.eff (.call 31) [qt 11,qt 12]),qp 14 .pick [qt 10,qt 13,.const (.bool false)],qm 15 14,qg 16 15 true (.pur .mov [qt 1]),qg 17 15 true (.pur .mov [qt 2]),qg 18 15 true (.pur (.bin .neq) [qt 16,qt 17]),qp 19 .pick [qt 15,qt 18,.const (.bool false)],qm 20 19,qg 21 20 true (.pur .mov [qt 0]),qg 22 20 true (.pur .mov [qt 1]),qg 23 20 true (.pur .mov [qt 2]),qg 24 20 true (.eff (.call 32) [qt 21,qt 22,qt 23]),qg 25 20 true (.pur .not [qt 24]),qp 26 .pick [qt 20,qt 25,.const (.bool false)],qm 27 26,qg 28 27 true (.pur .mov [qt 0]),qg 29 27 true (.pur .mov [qt 2]),qg 30 27 true (.pur .mov [qt 1]),qg 31 27 true (.eff (.call 32) [qt 28,qt 29,qt 30]),qg 32 27 true (.pur .not [qt 31]),qp 33 .pick [qt 27,qt 32,.const (.bool false)],qm 6 33] [6])
 .ret)⟩
theorem Xa:compF Tryz.prog 20=some Z6:=by kernel_rfl
def Q35:SCode:=
 .seq (.seq (qr [qm 14 4,qm 15 0,qm 16 3,qp 17 (.ixa 1) [qt 15,qt 16],ql 18 17,qp 19 (.len false) [qt 18],qb 20 .lss 14 19] [20])
 (.cond (qt 20) .skip (.exit 2)))
 (.seq (.block 3 (.seq (qr [qm 23 0,qm 24 3,qp 25 (.ixa 1) [qt 23,qt 24],ql 26 25,qm 27 4,qp 28 (.ixa 1) [qt 26,qt 27],ql 29 28,qc 30 .lss 29 0,qm 31 30,qg 32 31 false (.pur .mov [qt 0]),qg 33 31 false (.pur .mov [qt 3]),qg 34 31 false (.pur (.ixa 1) [qt 32,qt 33]),qg 35 31 false (.ld none (qt 34)),qg 36 31 false (.pur .mov [qt 4]),qg 37 31 false (.pur (.ixa 1) [qt 35,qt 36]),qg 38 31 false (.ld none (qt 37)),qg 39 31 false (.pur .mov [qt 3]),qg 40 31 false (.pur (.bin .geq) [qt 38,qt 39]),qp 41 .pick [qt 31,.const (.bool true),qt 40]] [41])
 (.cond (qt 41) (.seq (qr [qp 2 .mov [qi 3]] [2])
 .ret) .skip)))
 (qr [qm 21 4,qc 22 .add 21 1,qm 4 22] [4]))
def Q36:SCode:=
 .seq (.seq (qr [qm 8 3,qm 9 0,qp 10 (.len false) [qt 9],qb 11 .lss 8 10] [11])
 (.cond (qt 11) .skip (.exit 0)))
 (.seq (.block 1 (.seq (qr [qp 4 .mov [qi 0]] [4])
 (.block 2 (.loop Q35))))
 (qr [qm 12 3,qc 13 .add 12 1,qm 3 13] [3]))
def Q75:Fun:=⟨42,[2,0,7,3,11,4,20,41],[.tmp 2],
 .seq (qr [qp 2 .mov [qi 0]] [2])
 (.seq (.seq (qr [qm 5 0,qp 6 (.len false) [qt 5],qc 7 .gtr 6 1000] [7])
 (.cond (qt 7) (.seq (qr [qp 2 .mov [qi 9]] [2])
 .ret) .skip))
 (.seq (.seq (qr [qp 3 .mov [qi 0]] [3])
 (.block 0 (.loop Q36)))
 (.seq (qr [qp 2 .mov [qi 0]] [2])
 .ret)))⟩
theorem Z71:compF Tryz.prog 28=some Q75:=by kernel_rfl
def Z23:SCode:=
 .seq (qr [qb 20 .lss 19 18] [20])
 (.seq (.cond (qt 20) .skip (.exit 2))
 (.seq (.block 3 (.seq (qr [qp 21 (.ixa 1) [qt 17,qt 19],ql 22 21,qm 6 22] [6])
 (.seq (qr [qm 23 6,qc 24 .lss 23 0,qm 25 24,qg 26 25 false (.pur .mov [qt 6]),qg 27 25 false (.pur .mov [qt 3]),qg 28 25 false (.pur (.bin .geq) [qt 26,qt 27]),qp 29 .pick [qt 25,.const (.bool true),qt 28]] [29])
 (.cond (qt 29) (.seq (qr [qp 2 .mov [qi 3]] [2])
 .ret) .skip))))
 (qr [qc 30 .add 19 1,qm 19 30] [19])))
def Z24:SCode:=
 .seq (qr [qb 13 .lss 12 11] [13])
 (.seq (.cond (qt 13) .skip (.exit 0))
 (.seq (.block 1 (.seq (qr [qm 14 12,qp 15 (.ixa 1) [qt 10,qt 12],ql 16 15,qm 3 14,qm 4 16] [3,4])
 (.seq (qr [qm 17 4,qp 18 (.len false) [qt 17],qp 19 .mov [qi 0]] [17,18,19])
 (.block 2 (.loop Z23)))))
 (qr [qc 31 .add 12 1,qm 12 31] [12])))
def XK:Fun:=⟨32,[2,0,9,12,11,13,10,4,19,18,20,17,6,3,29],[.tmp 2],
 .seq (qr [qp 2 .mov [qi 0]] [2])
 (.seq (.seq (qr [qm 7 0,qp 8 (.len false) [qt 7],qc 9 .gtr 8 1000] [9])
 (.cond (qt 9) (.seq (qr [qp 2 .mov [qi 9]] [2])
 .ret) .skip))
 (.seq (.seq (qr [qm 10 0,qp 11 (.len false) [qt 10],qp 12 .mov [qi 0]] [10,11,12])
 (.block 0 (.loop Z24)))
 (.seq (qr [qp 2 .mov [qi 0]] [2])
 .ret)))⟩
theorem YB:compF Tryz.prog 30=some XK:=by kernel_rfl
def Z25:Fun:=⟨13,[4,1,0],[.tmp 4],
 .seq (qr [qp 4 .mov [.const (.bool false)]] [4])
 (.seq (qr [qm 5 1,qc 6 .geq 5 0,qm 7 6,qg 8 7 true (.pur .mov [qt 1]),qg 9 7 true (.pur .mov [qt 0]),qg 10 7 true (.eff (.call 19) [qt 9]),qg 11 7 true (.pur (.bin .lss) [qt 8,qt 10]),qp 12 .pick [qt 7,qt 11,.const (.bool false)],qm 4 12] [4])
 .ret)⟩
theorem X18:compF Tryz.prog 31=some Z25:=by kernel_rfl
def Q76:Fun:=⟨38,[6,0,1,2],[.tmp 6],
 .seq (qr [qp 6 .mov [.const (.bool false)]] [6])
 (.seq (qr [qm 7 0,qm 8 1,qa 9 31 [qt 7,qt 8],qm 10 9,qg 11 10 true (.pur .mov [qt 0]),qg 12 10 true (.pur .mov [qt 2]),qg 13 10 true (.eff (.call 31) [qt 11,qt 12]),qp 14 .pick [qt 10,qt 13,.const (.bool false)],qm 15 14,qg 16 15 true (.pur .mov [qt 1]),qg 17 15 true (.pur .mov [qt 2]),qg 18 15 true (.pur (.bin .lss) [qt 16,qt 17]),qp 19 .pick [qt 15,qt 18,.const (.bool false)],qm 20 19,qg 21 20 true (.pur .mov [qt 0]),qg 22 20 true (.pur .nilc [qt 21]),qg 23 20 true (.pur (.fla 0) [qt 22]),qg 24 20 true (.ld none (qt 23)),qg 25 20 true (.pur .mov [qt 2]),qg 26 20 true (.pur (.ixa 1) [qt 24,qt 25]),qg 27 20 true (.ld none (qt 26)),qg 28 20 true (.pur .mov [qt 1]),qg 29 20 true (.pur (.bin .quo) [qt 28,qi 64]),qg 30 20 true (.pur (.ixa 1) [qt 27,qt 29]),qg 31 20 true (.ld none (qt 30)),qg 32 20 true (.pur .mov [qt 1]),qg 33 20 true (.pur (.bin .rem) [qt 32,qi 64]),qg 34 20 true (.pur (.bin .shr) [qt 31,qt 33]),qg 35 20 true (.pur (.bin .and) [qt 34,.const (.int .u64 1)]),qg 36 20 true (.pur (.bin .eql) [qt 35,.const (.int .u64 1)]),qp 37 .pick [qt 20,qt 36,.const (.bool false)],qm 6 37] [6])
 .ret)⟩
theorem Z72:compF Tryz.prog 32=some Q76:=by kernel_rfl
end Go.Proofs.YtncdnegdlkmicaaGreat
