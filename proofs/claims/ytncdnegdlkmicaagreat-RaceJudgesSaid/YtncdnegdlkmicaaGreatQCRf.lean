/- CRf -/
import Derived.Test.YtncdnegdlkmicaaGreatQLb
import Derived.Test.YtncdnegdlkmicaaGreatProg
import Derived.KernelRfl
namespace Go.Proofs.YtncdnegdlkmicaaGreat
open Go Go.Kx Go.Proofs
set_option linter.unusedVariables false
set_option maxRecDepth 100000
def Q45:SCode:=
 .seq (.seq (qr [qm 18 8,qm 19 1,qp 20 (.len false) [qt 19],qb 21 .lss 18 20] [21])
 (.cond (qt 21) .skip (.exit 0)))
 (.seq (.block 1 (.seq (qr [qm 24 1,qm 25 8,qp 26 (.ixa 3) [qt 24,qt 25],qf 27 0 26,ql 28 27,qc 29 .lss 28 0,qm 30 29,qg 31 30 false (.pur .mov [qt 1]),qg 32 30 false (.pur .mov [qt 8]),qg 33 30 false (.pur (.ixa 3) [qt 31,qt 32]),qg 34 30 false (.pur (.fla 0) [qt 33]),qg 35 30 false (.ld none (qt 34)),qg 36 30 false (.pur .mov [qt 0]),qg 37 30 false (.pur (.len false) [qt 36]),qg 38 30 false (.pur (.bin .geq) [qt 35,qt 37]),qp 39 .pick [qt 30,.const (.bool true),qt 38]] [39])
 (.cond (qt 39) (.seq (qr [qp 4 .mov [qi (-1)],qp 5 .mov [qi (-1)],qp 6 .mov [qi 3]] [4,5,6])
 .ret) .skip)))
 (qr [qm 22 8,qc 23 .add 22 1,qm 8 23] [8]))
def Q46:SCode:=
 .seq (.seq (qr [qm 53 11,qm 54 9,qb 55 .lss 53 54] [55])
 (.cond (qt 55) .skip (.exit 4)))
 (.seq (.block 5 (.seq (.seq (qr [qm 58 1,qm 59 11,qp 60 (.ixa 3) [qt 58,qt 59],qf 61 1 60,ql 62 61,qm 63 1,qm 64 9,qp 65 (.ixa 3) [qt 63,qt 64],qf 66 1 65,ql 67 66,qb 68 .neq 62 67,qm 69 68,qg 70 69 false (.pur .mov [qt 1]),qg 71 69 false (.pur .mov [qt 11]),qg 72 69 false (.pur (.ixa 3) [qt 70,qt 71]),qg 73 69 false (.pur (.fla 2) [qt 72]),qg 74 69 false (.ld none (qt 73)),qg 75 69 false (.pur .not [qt 74]),qg 76 69 false (.pur .mov [qt 75]),qg 77 76 true (.pur .mov [qt 1]),qg 78 76 true (.pur .mov [qt 9]),qg 79 76 true (.pur (.ixa 3) [qt 77,qt 78]),qg 80 76 true (.pur (.fla 2) [qt 79]),qg 81 76 true (.ld none (qt 80)),qg 82 76 true (.pur .not [qt 81]),qg 83 69 false (.pur .pick [qt 76,qt 82,.const (.bool false)]),qp 84 .pick [qt 69,.const (.bool true),qt 83],qm 85 84,qg 86 85 false (.pur .mov [qt 1]),qg 87 85 false (.pur .mov [qt 11]),qg 88 85 false (.pur (.ixa 3) [qt 86,qt 87]),qg 89 85 false (.pur (.fla 0) [qt 88]),qg 90 85 false (.ld none (qt 89)),qg 91 85 false (.pur .mov [qt 1]),qg 92 85 false (.pur .mov [qt 9]),qg 93 85 false (.pur (.ixa 3) [qt 91,qt 92]),qg 94 85 false (.pur (.fla 0) [qt 93]),qg 95 85 false (.ld none (qt 94)),qg 96 85 false (.pur (.bin .eql) [qt 90,qt 95]),qp 97 .pick [qt 85,.const (.bool true),qt 96],qm 98 97,qg 99 98 false (.pur .mov [qt 10]),qg 100 98 false (.pur .mov [qt 1]),qg 101 98 false (.pur .mov [qt 11]),qg 102 98 false (.pur (.ixa 3) [qt 100,qt 101]),qg 103 98 false (.pur (.fla 0) [qt 102]),qg 104 98 false (.ld none (qt 103)),qg 105 98 false (.pur (.ixa 1) [qt 99,qt 104]),qg 106 98 false (.ld none (qt 105)),qp 107 .pick [qt 98,.const (.bool true),qt 106]] [107])
 (.cond (qt 107) (.exit 5) .skip))
 (.seq (qr [qm 108 0,qm 109 1,qm 110 11,qp 111 (.ixa 3) [qt 109,qt 110],qf 112 0 111,ql 113 112,qa 114 29 [qt 108,qt 113],qm 12 114] [12])
 (.seq (qr [qm 115 12,qm 116 1,qm 117 9,qp 118 (.ixa 3) [qt 116,qt 117],qf 119 0 118,ql 120 119,qp 121 (.ixa 1) [qt 115,qt 120],ql 122 121,qp 123 .not [qt 122]] [123])
 (.cond (qt 123) (.seq (qr [qm 124 11,qm 125 9,qm 4 124,qm 5 125,qp 6 .mov [qi 0]] [4,5,6])
 .ret) .skip)))))
 (qr [qm 56 11,qc 57 .add 56 1,qm 11 57] [11]))
def Q47:SCode:=
 .seq (.seq (qr [qm 40 9,qm 41 1,qp 42 (.len false) [qt 41],qb 43 .lss 40 42] [43])
 (.cond (qt 43) .skip (.exit 2)))
 (.seq (.block 3 (.seq (qr [qm 46 0,qm 47 1,qm 48 9,qp 49 (.ixa 3) [qt 47,qt 48],qf 50 0 49,ql 51 50,qa 52 29 [qt 46,qt 51],qm 10 52] [10])
 (.seq (qr [qp 11 .mov [qi 0]] [11])
 (.block 4 (.loop Q46)))))
 (qr [qm 44 9,qc 45 .add 44 1,qm 9 45] [9]))
def Z9:Fun:=⟨126,[4,5,6,0,7,16,8,1,21,39,9,43,11,55,10,107,12,123],[.tmp 4,.tmp 5,.tmp 6],
 .seq (qr [qp 4 .mov [qi 0],qp 5 .mov [qi 0],qp 6 .mov [qi 0]] [4,5,6])
 (.seq (qr [qm 13 0,qa 14 28 [qt 13],qm 7 14] [7])
 (.seq (.seq (qr [qm 15 7,qc 16 .neq 15 0] [16])
 (.cond (qt 16) (.seq (qr [qm 17 7,qp 4 .mov [qi (-1)],qp 5 .mov [qi (-1)],qm 6 17] [4,5,6])
 .ret) .skip))
 (.seq (.seq (qr [qp 8 .mov [qi 0]] [8])
 (.block 0 (.loop Q45)))
 (.seq (.seq (qr [qp 9 .mov [qi 0]] [9])
 (.block 2 (.loop Q47)))
 (.seq (qr [qp 4 .mov [qi (-1)],qp 5 .mov [qi (-1)],qp 6 .mov [qi 0]] [4,5,6])
 .ret)))))⟩
theorem Xc:compF Tryz.prog 17=some Z9:=by kernel_rfl
end Go.Proofs.YtncdnegdlkmicaaGreat
