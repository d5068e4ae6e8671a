/- CRj -/
import Derived.Test.YtncdnegdlkmicaaGreatQLb
import Derived.Test.YtncdnegdlkmicaaGreatProg
import Derived.KernelRfl
namespace Go.Proofs.YtncdnegdlkmicaaGreat
open Go Go.Kx Go.Proofs
set_option linter.unusedVariables false
set_option maxRecDepth 100000
def Q01:Fun:=⟨89,[6,0,12,3,1,2,23,7,9,8,10],[.tmp 6],
 .seq (qr [qe 3 (.box 24) [qt 0],qp 6 .mov [.const (.bool false)]] [3,6])
 (.seq (.seq (qr [qa 11 4 [],qp 12 .not [qt 11]] [12])
 (.cond (qt 12) (.seq (qr [qp 6 .mov [.const (.bool false)]] [6])
 .ret) .skip))
 (.seq (.seq (qr [qL 13 2 3,qa 14 5 [qt 13],qm 15 14,qg 16 15 false (.pur .mov [qt 1]),qg 17 15 false (.pur (.len false) [qt 16]),qg 18 15 false (.pur (.bin .gtr) [qt 17,qi 1000]),qp 19 .pick [qt 15,.const (.bool true),qt 18],qm 20 19,qg 21 20 false (.pur .mov [qt 2]),qg 22 20 false (.pur (.bin .gtr) [qt 21,qi 1000]),qp 23 .pick [qt 20,.const (.bool true),qt 22]] [23])
 (.cond (qt 23) (.seq (qr [qp 6 .mov [.const (.bool true)]] [6])
 .ret) .skip))
 (.seq (qr [qL 25 2 3,qa 26 7 [qt 25],qe 27 (.bsl 3 1) [],qm 28 1,qe 29 (.app 3 1 8 [qv 0]) [qt 27,qt 28],qm 30 2,qa 31 6 [qt 26,qt 29,qt 30],qm 24 31,qx 32 0 24,qx 33 1 24,qe 8 (.new 29 [qv 0,qv 0,.slice none 0 0,.slice none 0 0,qv 0,qv 0,qv 0]) [],qm 7 32,qs 7 8 33] [8,7])
 (.seq (qr [qL 35 2 3,qm 36 1,qm 37 2,qa 38 8 [qt 35,qt 36,qt 37],qm 34 38,qx 39 0 34,qx 40 1 34,qm 9 39,qm 10 40] [9,10])
 (.seq (.reg (.run (qm 41 7) (.run (qm 42 9) (.run (qb 43 .eql 41 42) (.run (qm 44 43) (.run (qg 45 44 true (.pur (.fla 0) [qt 8])) (.run (qg 46 44 true (.ld none (qt 45))) (.run (qg 47 44 true (.pur .mov [qt 10])) (.run (qg 48 44 true (.pur .nilc [qt 47])) (.run (qg 49 44 true (.pur (.fla 10) [qt 48])) (.run (qg 50 44 true (.ld none (qt 49))) (.run (qg 51 44 true (.pur (.bin .eql) [qt 46,qt 50])) (.run (qp 52 .pick [qt 44,qt 51,.const (.bool false)]) (.run (qm 53 52) (.run (qg 54 53 true (.pur (.fla 1) [qt 8])) (.run (qg 55 53 true (.ld none (qt 54))) (.run (qg 56 53 true (.pur .mov [qt 10])) (.run (qg 57 53 true (.pur .nilc [qt 56])) (.run (qg 58 53 true (.pur (.fla 11) [qt 57])) (.run (qg 59 53 true (.ld none (qt 58))) (.run (qg 60 53 true (.pur (.bin .eql) [qt 55,qt 59])) (.run (qp 61 .pick [qt 53,qt 60,.const (.bool false)]) (.run (qm 62 61) (.run (qg 63 62 true (.pur (.fla 4) [qt 8])) (.run (qg 64 62 true (.ld none (qt 63))) (.run (qg 65 62 true (.pur .mov [qt 10])) (.run (qg 66 62 true (.pur .nilc [qt 65])) (.run (qg 67 62 true (.pur (.fla 7) [qt 66])) (.run (qg 68 62 true (.ld none (qt 67))) (.run (qg 69 62 true (.pur (.bin .eql) [qt 64,qt 68])) (.run (qp 70 .pick [qt 62,qt 69,.const (.bool false)]) (.run (qm 71 70) (.run (qg 72 71 true (.pur (.fla 2) [qt 8])) (.run (qg 73 71 true (.ld none (qt 72))) (.run (qg 74 71 true (.pur .mov [qt 10])) (.run (qg 75 71 true (.pur .nilc [qt 74])) (.run (qg 76 71 true (.pur (.fla 3) [qt 75])) (.run (qg 77 71 true (.ld none (qt 76))) (.eff (qg 78 71 true (.eff (.call 9) [qt 73,qt 77])) [] (.run (qp 79 .pick [qt 71,qt 78,.const (.bool false)]) (.run (qm 80 79) (.run (qg 81 80 true (.pur (.fla 3) [qt 8])) (.run (qg 82 80 true (.ld none (qt 81))) (.run (qg 83 80 true (.pur .mov [qt 10])) (.run (qg 84 80 true (.pur .nilc [qt 83])) (.run (qg 85 80 true (.pur (.fla 2) [qt 84])) (.run (qg 86 80 true (.ld none (qt 85))) (.eff (qg 87 80 true (.eff (.call 9) [qt 82,qt 86])) [] (.run (qp 88 .pick [qt 80,qt 87,.const (.bool false)]) (.run (qm 6 88) .done))))))))))))))))))))))))))))))))))))))))))))))))) [6])
 .ret)))))⟩
theorem ZC:compF Tryz.prog 3=some Q01:=by kernel_rfl
def Q78:Fun:=⟨73,[6,7,0,3,1,2,9,23,8,29,35,11,10,54,12,70],[.tmp 6,.tmp 7],
 .seq (qr [qe 3 (.box 24) [qt 0],qp 6 .mov [qi 0],qp 7 .mov [.const (.pointer none)]] [3,6,7])
 (.seq (qr [qL 16 2 3,qm 17 1,qm 18 2,qa 19 15 [qt 16,qt 17,qt 18],qm 15 19,qx 20 0 15,qx 21 1 15,qm 8 20,qm 9 21] [8,9])
 (.seq (.seq (qr [qm 22 9,qc 23 .neq 22 0] [23])
 (.cond (qt 23) (.seq (qr [qm 24 8,qp 6 .mov [qi 4],qm 7 24] [6,7])
 .ret) .skip))
 (.seq (.seq (qr [qm 25 8,qn 26 25,qf 27 10 26,ql 28 27,qc 29 .eql 28 4] [29])
 (.cond (qt 29) (.seq (qr [qm 30 8,qp 6 .mov [qi 2],qm 7 30] [6,7])
 .ret) .skip))
 (.seq (.seq (qr [qm 31 8,qn 32 31,qf 33 10 32,ql 34 33,qc 35 .neq 34 1] [35])
 (.cond (qt 35) (.seq (qr [qm 36 8,qp 6 .mov [qi 3],qm 7 36] [6,7])
 .ret) .skip))
 (.seq (qr [qm 38 8,qn 39 38,qf 40 4 39,ql 41 40,qa 42 16 [qt 41],qm 37 42,qx 43 0 37,qx 44 1 37,qm 10 43,qm 11 44] [10,11])
 (.seq (.seq (qr [qm 45 11,qc 46 .neq 45 0,qm 47 46,qg 48 47 false (.pur .mov [qt 10]),qg 49 47 false (.pur .nilc [qt 48]),qg 50 47 false (.pur (.fla 4) [qt 49]),qg 51 47 false (.ld none (qt 50)),qg 52 47 false (.pur (.len false) [qt 51]),qg 53 47 false (.pur (.bin .gtr) [qt 52,qi 3000]),qp 54 .pick [qt 47,.const (.bool true),qt 53]] [54])
 (.cond (qt 54) (.seq (qr [qm 55 8,qp 6 .mov [qi 5],qm 7 55] [6,7])
 .ret) .skip))
 (.seq (.reg (.run (qm 57 10) (.run (qn 58 57) (.run (qf 59 2 58) (.run (ql 60 59) (.run (qm 61 10) (.run (qn 62 61) (.run (qf 63 4 62) (.run (ql 64 63) (.eff (qa 65 17 [qt 60,qt 64]) [] (.run (qm 56 65) (.run (qx 66 0 56) (.run (qx 67 1 56) (.run (qx 68 2 56) (.run (qm 12 66) (.run (qm 13 67) (.run (qm 14 68) .done)))))))))))))))) [12])
 (.seq (.seq (qr [qm 69 12,qc 70 .geq 69 0] [70])
 (.cond (qt 70) (.seq (qr [qm 71 8,qp 6 .mov [qi 1],qm 7 71] [6,7])
 .ret) .skip))
 (.seq (qr [qm 72 8,qp 6 .mov [qi 0],qm 7 72] [6,7])
 .ret)))))))))⟩
theorem Z74:compF Tryz.prog 8=some Q78:=by kernel_rfl
end Go.Proofs.YtncdnegdlkmicaaGreat
