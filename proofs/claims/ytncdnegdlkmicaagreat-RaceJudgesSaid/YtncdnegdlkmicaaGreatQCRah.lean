/- CRah -/
import Derived.Test.YtncdnegdlkmicaaGreatQLb
import Derived.Test.YtncdnegdlkmicaaGreatProg
import Derived.KernelRfl
namespace Go.Proofs.YtncdnegdlkmicaaGreat
open Go Go.Kx Go.Proofs
set_option linter.unusedVariables false
set_option maxRecDepth 100000
def Q38:SCode:=
 .seq (.seq (qr [qm 21 6,qm 22 0,qm 23 1,qp 24 (.ixa 1) [qt 22,qt 23],ql 25 24,qp 26 (.len false) [qt 25],qb 27 .lss 21 26] [27])
 (.cond (qt 27) .skip (.exit 0)))
 (.seq (.block 1 (qr [qm 30 5,qm 31 0,qm 32 1,qp 33 (.ixa 1) [qt 31,qt 32],ql 34 33,qm 35 6,qp 36 (.ixa 1) [qt 34,qt 35],ql 37 36,qp 38 (.ixa 1) [qt 30,qt 37],qE (.st 1) [qt 38,.const (.bool true)]] []))
 (qr [qm 28 6,qc 29 .add 28 1,qm 6 29] [6]))
def Q39:SCode:=
 .seq (.seq (qr [qm 49 8,qm 50 0,qm 51 7,qp 52 (.ixa 1) [qt 50,qt 51],ql 53 52,qp 54 (.len false) [qt 53],qb 55 .lss 49 54] [55])
 (.cond (qt 55) .skip (.exit 4)))
 (.seq (.block 5 (qr [qm 58 5,qm 59 0,qm 60 7,qp 61 (.ixa 1) [qt 59,qt 60],ql 62 61,qm 63 8,qp 64 (.ixa 1) [qt 62,qt 63],ql 65 64,qp 66 (.ixa 1) [qt 58,qt 65],qE (.st 1) [qt 66,.const (.bool true)]] []))
 (qr [qm 56 8,qc 57 .add 56 1,qm 8 57] [8]))
def Q40:SCode:=
 .seq (.seq (qr [qm 41 7,qc 42 .geq 41 0] [42])
 (.cond (qt 42) .skip (.exit 2)))
 (.seq (.block 3 (.seq (qr [qm 45 5,qm 46 7,qp 47 (.ixa 1) [qt 45,qt 46],ql 48 47] [48])
 (.cond (qt 48) (.seq (qr [qp 8 .mov [qi 0]] [8])
 (.block 4 (.loop Q39))) .skip)))
 (qr [qm 43 7,qc 44 .sub 43 1,qm 7 44] [7]))
def Q77:Fun:=⟨68,[4,0,1,19,5,6,27,7,42,48,8,55],[.tmp 4],
 .seq (qr [qp 4 .mov [.const (.slice none 0 0)]] [4])
 (.seq (qr [qm 9 0,qp 10 (.len false) [qt 9],qe 11 (.mks 4 1 1 [.bool false]) [qt 10,qt 10],qm 5 11] [5])
 (.seq (.seq (qr [qm 12 1,qc 13 .lss 12 0,qm 14 13,qg 15 14 false (.pur .mov [qt 1]),qg 16 14 false (.pur .mov [qt 0]),qg 17 14 false (.pur (.len false) [qt 16]),qg 18 14 false (.pur (.bin .geq) [qt 15,qt 17]),qp 19 .pick [qt 14,.const (.bool true),qt 18]] [19])
 (.cond (qt 19) (.seq (qr [qm 20 5,qm 4 20] [4])
 .ret) .skip))
 (.seq (.seq (qr [qp 6 .mov [qi 0]] [6])
 (.block 0 (.loop Q38)))
 (.seq (.seq (qr [qm 39 1,qc 40 .sub 39 1,qm 7 40] [7])
 (.block 2 (.loop Q40)))
 (.seq (qr [qm 67 5,qm 4 67] [4])
 .ret)))))⟩
theorem Z73:compF Tryz.prog 29=some Q77:=by kernel_rfl
end Go.Proofs.YtncdnegdlkmicaaGreat
