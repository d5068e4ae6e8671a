/- CRace -/
import Derived.Test.YtncdnegdlkmicaaGreatQLb
import Derived.Test.YtncdnegdlkmicaaGreatProg
import Derived.KernelRfl
namespace Go.Proofs.YtncdnegdlkmicaaGreat
open Go Go.Kx Go.Proofs
set_option linter.unusedVariables false
set_option maxRecDepth 100000
def X16:Fun:=⟨37,[6,7,0,3,1,2,9,17,8,21,26],[.tmp 6,.cell 7 (some 7)],
 .seq (qr [qe 3 (.box 24) [qt 0],qp 6 .mov [qi 0],qe 7 (.new 29 [qv 0,qv 0,.slice none 0 0,.slice none 0 0,qv 0,qv 0,qv 0]) []] [3,6,7])
 (.seq (qr [qL 11 2 3,qm 12 1,qm 13 2,qa 14 12 [qt 11,qt 12,qt 13],qm 10 14,qx 15 0 10,qx 16 1 10,qe 8 (.new 29 [qv 0,qv 0,.slice none 0 0,.slice none 0 0,qv 0,qv 0,qv 0]) [],qs 7 8 15,qm 9 16] [8,9])
 (.seq (.block 0 (.seq (qr [qm 18 9,qc 19 .neq 18 0,qm 17 19] [17])
 (.cond (qt 17) (.seq (.reg (.run (qL 20 7 8) (.run (qp 6 .mov [qi 4]) (.eff (qs 7 7 20) [] .done))) [6])
 .ret) (.seq (qr [qf 22 0 8,ql 23 22,qc 24 .eql 23 4,qm 21 24] [21])
 (.cond (qt 21) (.seq (.reg (.run (qL 25 7 8) (.run (qp 6 .mov [qi 2]) (.eff (qs 7 7 25) [] .done))) [6])
 .ret) (.seq (qr [qf 27 0 8,ql 28 27,qc 29 .neq 28 1,qm 26 29] [26])
 (.cond (qt 26) (.seq (.reg (.run (qL 30 7 8) (.run (qp 6 .mov [qi 3]) (.eff (qs 7 7 30) [] .done))) [6])
 .ret) .skip)))))))
 (.seq (.reg (.run (qL 31 2 3) (.run (qm 32 1) (.run (qm 33 2) (.run (qL 36 7 8) (.eff (qa 34 14 [qt 31,qt 32,qt 33]) [qL 36 7 8] (.eff (qa 35 13 [qt 34]) [qL 36 7 8] (.run (qm 6 35) (.eff (qs 7 7 36) [] .done)))))))) [6])
 .ret)))⟩
theorem K_race_Judge:compF Tryz.prog 6=some X16:=by kernel_rfl
def Z87:SCode:=
 .seq (qr [qb 29 .lss 28 27] [29])
 (.seq (.cond (qt 29) .skip (.exit 0))
 (.seq (.block 1 (.seq (qr [qp 30 (.ixa 3) [qt 26,qt 28],qL 31 3 30,qe 8 (.new 43 [qv 0,qv 0,.bool false]) [],qs 3 8 31] [8])
 (.seq (.reg (.run (qf 32 0 8) (.run (ql 33 32) (.run (qc 34 .lss 33 0) (.run (qm 35 34) (.run (qg 36 35 false (.pur (.fla 0) [qt 8])) (.run (qg 37 35 false (.ld none (qt 36))) (.run (qg 38 35 false (.pur .mov [qt 5])) (.eff (qg 39 35 false (.eff (.call 19) [qt 38])) [qg 37 35 false (.ld none (qt 36))] (.run (qg 40 35 false (.pur (.bin .geq) [qt 37,qt 39])) (.run (qp 41 .pick [qt 35,.const (.bool true),qt 40]) .done)))))))))) [41])
 (.cond (qt 41) (.seq (qr [qp 42 (.bld [qv 0,qv 0,qv 0] []) [],qs 3 2 42,qp 3 .mov [.const (.bool false)],qp 4 .mov [qi 3]] [3,4])
 .ret) .skip))))
 (qr [qc 43 .add 28 1,qm 28 43] [28])))
def Z88:SCode:=
 .seq (qr [qb 59 .lss 58 57] [59])
 (.seq (.cond (qt 59) .skip (.exit 4))
 (.seq (.block 5 (.seq (qr [qp 60 (.ixa 1) [qt 56,qt 58],ql 61 60,qm 13 61] [13])
 (.seq (qr [qf 62 2 1,ql 63 62,qm 64 13,qp 65 (.ixa 3) [qt 63,qt 64],qL 66 3 65,qe 14 (.new 43 [qv 0,qv 0,.bool false]) [],qs 3 14 66] [14])
 (.seq (qr [qf 67 2 14,ql 68 67,qm 69 68,qg 70 69 false (.pur (.fla 2) [qt 11]),qg 71 69 false (.ld none (qt 70)),qp 72 .pick [qt 69,.const (.bool true),qt 71],qm 73 72,qg 74 73 true (.pur .mov [qt 5]),qg 75 73 true (.pur (.fla 0) [qt 14]),qg 76 73 true (.ld none (qt 75)),qg 77 73 true (.pur (.fla 0) [qt 11]),qg 78 73 true (.ld none (qt 77)),qg 79 73 true (.eff (.call 20) [qt 74,qt 76,qt 78]),qp 80 .pick [qt 73,qt 79,.const (.bool false)]] [80])
 (.cond (qt 80) (.seq (qr [qm 81 13,qm 82 10,qf 83 1 11,ql 84 83,qp 85 (.bld [qv 0,qv 0,qv 0] [(0,1),(1,1),(2,1)]) [qt 81,qt 82,qt 84],qs 3 2 85,qp 3 .mov [.const (.bool true)],qp 4 .mov [qi 0]] [3,4])
 .ret) .skip)))))
 (qr [qc 86 .add 58 1,qm 58 86] [58])))
def Z89:SCode:=
 .seq (qr [qb 49 .lss 48 47] [49])
 (.seq (.cond (qt 49) .skip (.exit 2))
 (.seq (.block 3 (.seq (qr [qm 50 48,qp 51 (.ixa 3) [qt 46,qt 48],qL 52 3 51,qe 11 (.new 43 [qv 0,qv 0,.bool false]) [],qm 10 50,qs 3 11 52] [11,10])
 (.seq (.seq (qr [qm 53 9,qf 54 1 11,ql 55 54,qe 56 (.mlk (.int .i64) (.slice none 0 0)) [qt 53,qt 55],qp 57 (.len false) [qt 56],qp 58 .mov [qi 0]] [56,57,58])
 (.block 4 (.loop Z88)))
 (.reg (.run (qm 87 9) (.run (qf 88 1 11) (.run (ql 89 88) (.run (qm 90 9) (.run (qf 91 1 11) (.run (ql 92 91) (.run (qm 94 10) (.both (.eff (qe 93 (.mlk (.int .i64) (.slice none 0 0)) [qt 90,qt 92]) [ql 89 88] (.eff (qe 95 (.bsl 3 1) [qt 94]) [ql 89 88] (.eff (qe 96 (.app 3 1 8 [qv 0]) [qt 93,qt 95]) [ql 89 88] (.eff (qE (.mup (.int .i64)) [qt 87,qt 89,qt 96]) [] .done)))) (.eff (qe 95 (.bsl 3 1) [qt 94]) [ql 92 91,ql 89 88] (.eff (qe 93 (.mlk (.int .i64) (.slice none 0 0)) [qt 90,qt 92]) [ql 89 88] (.eff (qe 96 (.app 3 1 8 [qv 0]) [qt 93,qt 95]) [ql 89 88] (.eff (qE (.mup (.int .i64)) [qt 87,qt 89,qt 96]) [] .done)))))))))))) []))))
 (qr [qc 97 .add 48 1,qm 48 97] [48])))
def X68:Fun:=⟨99,[2,3,4,0,1,6,22,28,27,29,26,8,5,41,48,47,49,46,9,11,58,57,59,56,13,14,80,10],[.cell 2 (some 3),.tmp 3,.tmp 4],
 .seq (qr [qe 1 (.box 47) [qt 0],qe 2 (.new 49 [qv 0,qv 0,qv 0]) [],qp 3 .mov [.const (.bool false)],qp 4 .mov [qi 0]] [1,2,3,4])
 (.seq (qr [qf 16 0 1,ql 17 16,qa 18 18 [qt 17],qm 15 18,qx 19 0 15,qx 20 1 15,qm 5 19,qm 6 20] [5,6])
 (.seq (.seq (qr [qm 21 6,qc 22 .neq 21 0] [22])
 (.cond (qt 22) (.seq (qr [qp 23 (.bld [qv 0,qv 0,qv 0] []) [],qm 24 6,qs 3 2 23,qp 3 .mov [.const (.bool false)],qm 4 24] [3,4])
 .ret) .skip))
 (.seq (.seq (qr [qf 25 2 1,ql 26 25,qp 27 (.len false) [qt 26],qp 28 .mov [qi 0]] [26,27,28])
 (.block 0 (.loop Z87)))
 (.seq (qr [qe 44 .mkm [],qm 9 44] [9])
 (.seq (.seq (qr [qf 45 2 1,ql 46 45,qp 47 (.len false) [qt 46],qp 48 .mov [qi 0]] [46,47,48])
 (.block 2 (.loop Z89)))
 (.seq (qr [qp 98 (.bld [qv 0,qv 0,qv 0] []) [],qs 3 2 98,qp 3 .mov [.const (.bool false)],qp 4 .mov [qi 0]] [3,4])
 .ret))))))⟩
theorem K_race_Find:compF Tryz.prog 10=some X68:=by kernel_rfl
def Z8:Fun:=⟨10,[0],[.cell 0 (some 2)],
 .seq (qr [qe 0 (.new 24 [qv 0,.slice none 0 0]) []] [0])
 (.seq (qr [qp 1 (.bld [qv 0,qv 0,qv 0,qv 0] [(0,1),(1,1)]) [qi 20,qi 1],qp 2 (.bld [qv 0,qv 0,qv 0,qv 0] [(0,1),(1,1)]) [qi 20,qi 1],qp 3 (.bld [qv 0,qv 0,qv 0,qv 0] [(0,1)]) [qi 0],qe 4 (.bsl 56 4) [qt 1,qt 2,qt 3],qp 5 (.bld [qv 0,qv 0,qv 0,qv 0] [(0,1),(1,1),(2,1)]) [qi 14,qi 1,qi 1],qp 6 (.bld [qv 0,qv 0,qv 0,qv 0] [(0,1)]) [qi 0],qe 7 (.bsl 56 4) [qt 5,qt 6],qe 8 (.bsl 54 1) [qt 4,qt 7],qp 9 (.bld [qv 0,.slice none 0 0] [(0,1),(1,1)]) [qi 1,qt 8],qs 2 0 9] [])
 .ret)⟩
theorem Xb:compF Tryz.prog 11=some Z8:=by kernel_rfl
def X17:Fun:=⟨28,[2,0,4,3,20,6,27],[.tmp 2],
 .seq (qr [qp 2 .mov [qi 0]] [2])
 (.seq (qr [qm 9 0,qa 10 22 [qt 9],qm 8 10,qx 11 0 8,qx 12 1 8,qe 3 (.new 47 [.slice none 0 0,.slice none 0 0,.slice none 0 0]) [],qs 3 3 11,qm 4 12] [3,4])
 (.seq (.seq (qr [qm 13 4,qc 14 .neq 13 0,qm 15 14,qg 16 15 false (.pur (.fla 2) [qt 3]),qg 17 15 false (.ld none (qt 16)),qg 18 15 false (.pur (.len false) [qt 17]),qg 19 15 false (.pur (.bin .gtr) [qt 18,qi 3000]),qp 20 .pick [qt 15,.const (.bool true),qt 19]] [20])
 (.cond (qt 20) (.seq (qr [qp 2 .mov [qi 5]] [2])
 .ret) .skip))
 (.seq (.seq (qr [qL 22 3 3,qa 23 10 [qt 22],qm 21 23,qx 24 0 21,qx 25 1 21,qx 26 2 21,qe 5 (.new 49 [qv 0,qv 0,qv 0]) [],qs 3 5 24,qm 6 25,qm 7 26] [6])
 (.seq (qr [qm 27 6] [27])
 (.cond (qt 27) (.seq (qr [qp 2 .mov [qi 1]] [2])
 .ret) .skip)))
 (.seq (qr [qp 2 .mov [qi 0]] [2])
 .ret))))⟩
theorem K_race_clean:compF Tryz.prog 13=some X17:=by kernel_rfl
end Go.Proofs.YtncdnegdlkmicaaGreat
