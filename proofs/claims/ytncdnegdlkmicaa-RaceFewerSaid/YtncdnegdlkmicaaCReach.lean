import Derived.Test.YtncdnegdlkmicaaKj
import Derived.Test.YtncdnegdlkmicaaProg
import Derived.KernelRfl
namespace Go.Proofs.Ytncdnegdlkmicaa
open Go Go.Kx Go.Proofs
set_option linter.unusedVariables false
set_option maxRecDepth 100000

-- 27
def S_forebayref31_Check_L2 : SCode :=
  .seq (.seq (.reg (straight [⟨some 14, none, .pur .mov [.tmp 4]⟩, ⟨some 15, none, .pur .mov [.tmp 0]⟩, ⟨some 16, none, .pur .mov [.tmp 3]⟩, ⟨some 17, none, .pur (.ixa 1) [.tmp 15, .tmp 16]⟩, ⟨some 18, none, .ld none (.tmp 17)⟩, ⟨some 19, none, .pur (.len false) [.tmp 18]⟩, ⟨some 20, none, .pur (.bin .lss) [.tmp 14, .tmp 19]⟩]) [20])
  (.cond (.tmp 20) (.skip) (.exit 2)))
  (.seq (.block 3 (.seq (.reg (straight [⟨some 23, none, .pur .mov [.tmp 0]⟩, ⟨some 24, none, .pur .mov [.tmp 3]⟩, ⟨some 25, none, .pur (.ixa 1) [.tmp 23, .tmp 24]⟩, ⟨some 26, none, .ld none (.tmp 25)⟩, ⟨some 27, none, .pur .mov [.tmp 4]⟩, ⟨some 28, none, .pur (.ixa 1) [.tmp 26, .tmp 27]⟩, ⟨some 29, none, .ld none (.tmp 28)⟩, ⟨some 30, none, .pur (.bin .lss) [.tmp 29, .const (.int .i64 0)]⟩, ⟨some 31, none, .pur .mov [.tmp 30]⟩, ⟨some 32, some (31, false), .pur .mov [.tmp 0]⟩, ⟨some 33, some (31, false), .pur .mov [.tmp 3]⟩, ⟨some 34, some (31, false), .pur (.ixa 1) [.tmp 32, .tmp 33]⟩, ⟨some 35, some (31, false), .ld none (.tmp 34)⟩, ⟨some 36, some (31, false), .pur .mov [.tmp 4]⟩, ⟨some 37, some (31, false), .pur (.ixa 1) [.tmp 35, .tmp 36]⟩, ⟨some 38, some (31, false), .ld none (.tmp 37)⟩, ⟨some 39, some (31, false), .pur .mov [.tmp 3]⟩, ⟨some 40, some (31, false), .pur (.bin .geq) [.tmp 38, .tmp 39]⟩, ⟨some 41, none, .pur .pick [.tmp 31, .const (.bool true), .tmp 40]⟩]) [41])
  (.cond (.tmp 41) (.seq (.reg (straight [⟨some 2, none, .pur .mov [.const (.int .i64 3)]⟩]) [2])
  (.ret)) (.skip))))
  (.reg (straight [⟨some 21, none, .pur .mov [.tmp 4]⟩, ⟨some 22, none, .pur (.bin .add) [.tmp 21, .const (.int .i64 1)]⟩, ⟨some 4, none, .pur .mov [.tmp 22]⟩]) [4]))
def S_forebayref31_Check_L1 : SCode :=
  .seq (.seq (.reg (straight [⟨some 8, none, .pur .mov [.tmp 3]⟩, ⟨some 9, none, .pur .mov [.tmp 0]⟩, ⟨some 10, none, .pur (.len false) [.tmp 9]⟩, ⟨some 11, none, .pur (.bin .lss) [.tmp 8, .tmp 10]⟩]) [11])
  (.cond (.tmp 11) (.skip) (.exit 0)))
  (.seq (.block 1 (.seq (.reg (straight [⟨some 4, none, .pur .mov [.const (.int .i64 0)]⟩]) [4])
  (.block 2 (.loop S_forebayref31_Check_L2))))
  (.reg (straight [⟨some 12, none, .pur .mov [.tmp 3]⟩, ⟨some 13, none, .pur (.bin .add) [.tmp 12, .const (.int .i64 1)]⟩, ⟨some 3, none, .pur .mov [.tmp 13]⟩]) [3]))
def S_forebayref31_Check : Fun := ⟨42, [2, 0, 7, 3, 11, 4, 20, 41], [.tmp 2],
  .seq (.reg (straight [⟨some 2, none, .pur .mov [.const (.int .i64 0)]⟩]) [2])
  (.seq (.seq (.reg (straight [⟨some 5, none, .pur .mov [.tmp 0]⟩, ⟨some 6, none, .pur (.len false) [.tmp 5]⟩, ⟨some 7, none, .pur (.bin .gtr) [.tmp 6, .const (.int .i64 1000)]⟩]) [7])
  (.cond (.tmp 7) (.seq (.reg (straight [⟨some 2, none, .pur .mov [.const (.int .i64 9)]⟩]) [2])
  (.ret)) (.skip)))
  (.seq (.seq (.reg (straight [⟨some 3, none, .pur .mov [.const (.int .i64 0)]⟩]) [3])
  (.block 0 (.loop S_forebayref31_Check_L1)))
  (.seq (.reg (straight [⟨some 2, none, .pur .mov [.const (.int .i64 0)]⟩]) [2])
  (.ret))))⟩
theorem K_forebayref31_Check : compF Try.prog 27 = some S_forebayref31_Check := by kernel_rfl

-- 47
def S_reach_New_L3 : SCode :=
  .seq (.reg (straight [⟨some 56, none, .pur (.bin .lss) [.tmp 55, .tmp 54]⟩]) [56])
  (.seq (.cond (.tmp 56) (.skip) (.exit 4))
  (.seq (.block 5 (.seq (.reg (straight [⟨some 57, none, .pur .mov [.tmp 55]⟩, ⟨some 58, none, .pur (.ixa 1) [.tmp 53, .tmp 55]⟩, ⟨some 59, none, .ld none (.tmp 58)⟩, ⟨some 11, none, .pur .mov [.tmp 57]⟩, ⟨some 12, none, .pur .mov [.tmp 59]⟩]) [11, 12])
  (.reg (straight [⟨some 60, none, .pur .mov [.tmp 8]⟩, ⟨some 61, none, .pur .mov [.tmp 11]⟩, ⟨some 62, none, .pur (.ixa 1) [.tmp 60, .tmp 61]⟩, ⟨some 63, none, .ld none (.tmp 62)⟩, ⟨some 64, none, .pur .mov [.tmp 12]⟩, ⟨some 65, none, .pur (.bin .or) [.tmp 63, .tmp 64]⟩, ⟨some 66, none, .pur (.ixa 1) [.tmp 60, .tmp 61]⟩, ⟨none, none, .eff (.st 1) [.tmp 66, .tmp 65]⟩]) [])))
  (.reg (straight [⟨some 67, none, .pur (.bin .add) [.tmp 55, .const (.int .i64 1)]⟩, ⟨some 55, none, .pur .mov [.tmp 67]⟩]) [55])))
def S_reach_New_L2 : SCode :=
  .seq (.reg (straight [⟨some 34, none, .pur (.bin .lss) [.tmp 33, .tmp 32]⟩]) [34])
  (.seq (.cond (.tmp 34) (.skip) (.exit 2))
  (.seq (.block 3 (.seq (.reg (straight [⟨some 35, none, .pur (.ixa 1) [.tmp 31, .tmp 33]⟩, ⟨some 36, none, .ld none (.tmp 35)⟩, ⟨some 10, none, .pur .mov [.tmp 36]⟩]) [10])
  (.seq (.reg (.run ⟨some 37, none, .pur .mov [.tmp 8]⟩ (.run ⟨some 38, none, .pur .mov [.tmp 10]⟩ (.run ⟨some 39, none, .pur (.bin .quo) [.tmp 38, .const (.int .i64 64)]⟩ (.run ⟨some 40, none, .pur (.ixa 1) [.tmp 37, .tmp 39]⟩ (.run ⟨some 41, none, .ld none (.tmp 40)⟩ (.run ⟨some 42, none, .pur .mov [.tmp 10]⟩ (.run ⟨some 43, none, .pur (.bin .rem) [.tmp 42, .const (.int .i64 64)]⟩ (.run ⟨some 44, none, .pur (.bin .shl) [.const (.int .u64 1), .tmp 43]⟩ (.run ⟨some 45, none, .pur (.bin .or) [.tmp 41, .tmp 44]⟩ (.run ⟨some 46, none, .pur (.ixa 1) [.tmp 37, .tmp 39]⟩ (.eff ⟨none, none, .eff (.st 1) [.tmp 46, .tmp 45]⟩ [] .done))))))))))) [])
  (.seq (.reg (straight [⟨some 47, none, .pur .mov [.tmp 5]⟩, ⟨some 48, none, .pur .nilc [.tmp 47]⟩, ⟨some 49, none, .pur (.fla 0) [.tmp 48]⟩, ⟨some 50, none, .ld none (.tmp 49)⟩, ⟨some 51, none, .pur .mov [.tmp 10]⟩, ⟨some 52, none, .pur (.ixa 1) [.tmp 50, .tmp 51]⟩, ⟨some 53, none, .ld none (.tmp 52)⟩, ⟨some 54, none, .pur (.len false) [.tmp 53]⟩, ⟨some 55, none, .pur .mov [.const (.int .i64 0)]⟩]) [53, 54, 55])
  (.block 4 (.loop S_reach_New_L3))))))
  (.reg (straight [⟨some 68, none, .pur (.bin .add) [.tmp 33, .const (.int .i64 1)]⟩, ⟨some 33, none, .pur .mov [.tmp 68]⟩]) [33])))
def S_reach_New_L1 : SCode :=
  .seq (.reg (straight [⟨some 23, none, .pur (.bin .lss) [.tmp 22, .tmp 21]⟩]) [23])
  (.seq (.cond (.tmp 23) (.skip) (.exit 0))
  (.seq (.block 1 (.seq (.reg (straight [⟨some 24, none, .pur .mov [.tmp 22]⟩, ⟨some 25, none, .pur (.ixa 1) [.tmp 20, .tmp 22]⟩, ⟨some 26, none, .ld none (.tmp 25)⟩, ⟨some 6, none, .pur .mov [.tmp 24]⟩, ⟨some 7, none, .pur .mov [.tmp 26]⟩]) [6, 7])
  (.seq (.reg (straight [⟨some 27, none, .pur .mov [.tmp 6]⟩, ⟨some 28, none, .pur (.bin .quo) [.tmp 27, .const (.int .i64 64)]⟩, ⟨some 29, none, .pur (.bin .add) [.tmp 28, .const (.int .i64 1)]⟩, ⟨some 30, none, .eff (.mks 73 1 8 [.int .u64 0]) [.tmp 29, .tmp 29]⟩, ⟨some 8, none, .pur .mov [.tmp 30]⟩]) [8])
  (.seq (.seq (.reg (straight [⟨some 31, none, .pur .mov [.tmp 7]⟩, ⟨some 32, none, .pur (.len false) [.tmp 31]⟩, ⟨some 33, none, .pur .mov [.const (.int .i64 0)]⟩]) [31, 32, 33])
  (.block 2 (.loop S_reach_New_L2)))
  (.reg (straight [⟨some 69, none, .pur .mov [.tmp 5]⟩, ⟨some 70, none, .pur .mov [.tmp 5]⟩, ⟨some 71, none, .pur .nilc [.tmp 70]⟩, ⟨some 72, none, .pur (.fla 0) [.tmp 71]⟩, ⟨some 73, none, .ld none (.tmp 72)⟩, ⟨some 74, none, .pur .mov [.tmp 8]⟩, ⟨some 75, none, .eff (.bsl 165 1) [.tmp 74]⟩, ⟨some 76, none, .eff (.app 165 1 24 [.slice none 0 0]) [.tmp 73, .tmp 75]⟩, ⟨some 77, none, .pur .nilc [.tmp 69]⟩, ⟨some 78, none, .pur (.fla 0) [.tmp 77]⟩, ⟨none, none, .eff (.st 1) [.tmp 78, .tmp 76]⟩]) [])))))
  (.reg (straight [⟨some 79, none, .pur (.bin .add) [.tmp 22, .const (.int .i64 1)]⟩, ⟨some 22, none, .pur .mov [.tmp 79]⟩]) [22])))
def S_reach_New : Fun := ⟨81, [2, 3, 0, 4, 16, 22, 21, 23, 20, 6, 7, 33, 32, 34, 31, 8, 10, 5, 55, 54, 56, 53, 11, 12], [.tmp 2, .tmp 3],
  .seq (.reg (straight [⟨some 2, none, .pur .mov [.const (.pointer none)]⟩, ⟨some 3, none, .pur .mov [.const (.int .i64 0)]⟩]) [2, 3])
  (.seq (.seq (.reg (straight [⟨some 13, none, .pur .mov [.tmp 0]⟩, ⟨some 14, none, .eff (.call 81) [.tmp 13]⟩, ⟨some 4, none, .pur .mov [.tmp 14]⟩]) [4])
  (.seq (.reg (straight [⟨some 15, none, .pur .mov [.tmp 4]⟩, ⟨some 16, none, .pur (.bin .neq) [.tmp 15, .const (.int .i64 0)]⟩]) [16])
  (.cond (.tmp 16) (.seq (.reg (straight [⟨some 17, none, .pur .mov [.tmp 4]⟩, ⟨some 2, none, .pur .mov [.const (.pointer none)]⟩, ⟨some 3, none, .pur .mov [.tmp 17]⟩]) [2, 3])
  (.ret)) (.skip))))
  (.seq (.reg (straight [⟨some 18, none, .pur (.bld [.slice none 0 0] []) []⟩, ⟨some 19, none, .eff (.box 163) [.tmp 18]⟩, ⟨some 5, none, .pur .mov [.tmp 19]⟩]) [5])
  (.seq (.seq (.reg (straight [⟨some 20, none, .pur .mov [.tmp 0]⟩, ⟨some 21, none, .pur (.len false) [.tmp 20]⟩, ⟨some 22, none, .pur .mov [.const (.int .i64 0)]⟩]) [20, 21, 22])
  (.block 0 (.loop S_reach_New_L1)))
  (.seq (.reg (straight [⟨some 80, none, .pur .mov [.tmp 5]⟩, ⟨some 2, none, .pur .mov [.tmp 80]⟩, ⟨some 3, none, .pur .mov [.const (.int .i64 0)]⟩]) [2, 3])
  (.ret)))))⟩
theorem K_reach_New : compF Try.prog 47 = some S_reach_New := by kernel_rfl

-- 48
def S_reach_Reach_Len : Fun := ⟨10, [2, 0, 4], [.tmp 2],
  .seq (.reg (straight [⟨some 2, none, .pur .mov [.const (.int .i64 0)]⟩]) [2])
  (.seq (.seq (.reg (straight [⟨some 3, none, .pur .mov [.tmp 0]⟩, ⟨some 4, none, .pur (.eqn false 0) [.tmp 3]⟩]) [4])
  (.cond (.tmp 4) (.seq (.reg (straight [⟨some 2, none, .pur .mov [.const (.int .i64 0)]⟩]) [2])
  (.ret)) (.skip)))
  (.seq (.reg (straight [⟨some 5, none, .pur .mov [.tmp 0]⟩, ⟨some 6, none, .pur .nilc [.tmp 5]⟩, ⟨some 7, none, .pur (.fla 0) [.tmp 6]⟩, ⟨some 8, none, .ld none (.tmp 7)⟩, ⟨some 9, none, .pur (.len false) [.tmp 8]⟩, ⟨some 2, none, .pur .mov [.tmp 9]⟩]) [2])
  (.ret)))⟩
theorem K_reach_Reach_Len : compF Try.prog 48 = some S_reach_Reach_Len := by kernel_rfl

-- 49
def S_reach_Reach_Apart : Fun := ⟨34, [6, 0, 1, 2], [.tmp 6],
  .seq (.reg (straight [⟨some 6, none, .pur .mov [.const (.bool false)]⟩]) [6])
  (.seq (.reg (straight [⟨some 7, none, .pur .mov [.tmp 0]⟩, ⟨some 8, none, .pur .mov [.tmp 1]⟩, ⟨some 9, none, .eff (.call 82) [.tmp 7, .tmp 8]⟩, ⟨some 10, none, .pur .mov [.tmp 9]⟩, ⟨some 11, some (10, true), .pur .mov [.tmp 0]⟩, ⟨some 12, some (10, true), .pur .mov [.tmp 2]⟩, ⟨some 13, some (10, true), .eff (.call 82) [.tmp 11, .tmp 12]⟩, ⟨some 14, none, .pur .pick [.tmp 10, .tmp 13, .const (.bool false)]⟩, ⟨some 15, none, .pur .mov [.tmp 14]⟩, ⟨some 16, some (15, true), .pur .mov [.tmp 1]⟩, ⟨some 17, some (15, true), .pur .mov [.tmp 2]⟩, ⟨some 18, some (15, true), .pur (.bin .neq) [.tmp 16, .tmp 17]⟩, ⟨some 19, none, .pur .pick [.tmp 15, .tmp 18, .const (.bool false)]⟩, ⟨some 20, none, .pur .mov [.tmp 19]⟩, ⟨some 21, some (20, true), .pur .mov [.tmp 0]⟩, ⟨some 22, some (20, true), .pur .mov [.tmp 1]⟩, ⟨some 23, some (20, true), .pur .mov [.tmp 2]⟩, ⟨some 24, some (20, true), .eff (.call 83) [.tmp 21, .tmp 22, .tmp 23]⟩, ⟨some 25, some (20, true), .pur .not [.tmp 24]⟩, ⟨some 26, none, .pur .pick [.tmp 20, .tmp 25, .const (.bool false)]⟩, ⟨some 27, none, .pur .mov [.tmp 26]⟩, ⟨some 28, some (27, true), .pur .mov [.tmp 0]⟩, ⟨some 29, some (27, true), .pur .mov [.tmp 2]⟩, ⟨some 30, some (27, true), .pur .mov [.tmp 1]⟩, ⟨some 31, some (27, true), .eff (.call 83) [.tmp 28, .tmp 29, .tmp 30]⟩, ⟨some 32, some (27, true), .pur .not [.tmp 31]⟩, ⟨some 33, none, .pur .pick [.tmp 27, .tmp 32, .const (.bool false)]⟩, ⟨some 6, none, .pur .mov [.tmp 33]⟩]) [6])
  (.ret))⟩
theorem K_reach_Reach_Apart : compF Try.prog 49 = some S_reach_Reach_Apart := by kernel_rfl

-- 81
def S_reach_check_L2 : SCode :=
  .seq (.reg (straight [⟨some 20, none, .pur (.bin .lss) [.tmp 19, .tmp 18]⟩]) [20])
  (.seq (.cond (.tmp 20) (.skip) (.exit 2))
  (.seq (.block 3 (.seq (.reg (straight [⟨some 21, none, .pur (.ixa 1) [.tmp 17, .tmp 19]⟩, ⟨some 22, none, .ld none (.tmp 21)⟩, ⟨some 6, none, .pur .mov [.tmp 22]⟩]) [6])
  (.seq (.reg (straight [⟨some 23, none, .pur .mov [.tmp 6]⟩, ⟨some 24, none, .pur (.bin .lss) [.tmp 23, .const (.int .i64 0)]⟩, ⟨some 25, none, .pur .mov [.tmp 24]⟩, ⟨some 26, some (25, false), .pur .mov [.tmp 6]⟩, ⟨some 27, some (25, false), .pur .mov [.tmp 3]⟩, ⟨some 28, some (25, false), .pur (.bin .geq) [.tmp 26, .tmp 27]⟩, ⟨some 29, none, .pur .pick [.tmp 25, .const (.bool true), .tmp 28]⟩]) [29])
  (.cond (.tmp 29) (.seq (.reg (straight [⟨some 2, none, .pur .mov [.const (.int .i64 3)]⟩]) [2])
  (.ret)) (.skip)))))
  (.reg (straight [⟨some 30, none, .pur (.bin .add) [.tmp 19, .const (.int .i64 1)]⟩, ⟨some 19, none, .pur .mov [.tmp 30]⟩]) [19])))
def S_reach_check_L1 : SCode :=
  .seq (.reg (straight [⟨some 13, none, .pur (.bin .lss) [.tmp 12, .tmp 11]⟩]) [13])
  (.seq (.cond (.tmp 13) (.skip) (.exit 0))
  (.seq (.block 1 (.seq (.reg (straight [⟨some 14, none, .pur .mov [.tmp 12]⟩, ⟨some 15, none, .pur (.ixa 1) [.tmp 10, .tmp 12]⟩, ⟨some 16, none, .ld none (.tmp 15)⟩, ⟨some 3, none, .pur .mov [.tmp 14]⟩, ⟨some 4, none, .pur .mov [.tmp 16]⟩]) [3, 4])
  (.seq (.reg (straight [⟨some 17, none, .pur .mov [.tmp 4]⟩, ⟨some 18, none, .pur (.len false) [.tmp 17]⟩, ⟨some 19, none, .pur .mov [.const (.int .i64 0)]⟩]) [17, 18, 19])
  (.block 2 (.loop S_reach_check_L2)))))
  (.reg (straight [⟨some 31, none, .pur (.bin .add) [.tmp 12, .const (.int .i64 1)]⟩, ⟨some 12, none, .pur .mov [.tmp 31]⟩]) [12])))
def S_reach_check : Fun := ⟨32, [2, 0, 9, 12, 11, 13, 10, 4, 19, 18, 20, 17, 6, 3, 29], [.tmp 2],
  .seq (.reg (straight [⟨some 2, none, .pur .mov [.const (.int .i64 0)]⟩]) [2])
  (.seq (.seq (.reg (straight [⟨some 7, none, .pur .mov [.tmp 0]⟩, ⟨some 8, none, .pur (.len false) [.tmp 7]⟩, ⟨some 9, none, .pur (.bin .gtr) [.tmp 8, .const (.int .i64 1000)]⟩]) [9])
  (.cond (.tmp 9) (.seq (.reg (straight [⟨some 2, none, .pur .mov [.const (.int .i64 9)]⟩]) [2])
  (.ret)) (.skip)))
  (.seq (.seq (.reg (straight [⟨some 10, none, .pur .mov [.tmp 0]⟩, ⟨some 11, none, .pur (.len false) [.tmp 10]⟩, ⟨some 12, none, .pur .mov [.const (.int .i64 0)]⟩]) [10, 11, 12])
  (.block 0 (.loop S_reach_check_L1)))
  (.seq (.reg (straight [⟨some 2, none, .pur .mov [.const (.int .i64 0)]⟩]) [2])
  (.ret))))⟩
theorem K_reach_check : compF Try.prog 81 = some S_reach_check := by kernel_rfl

-- 82
def S_reach_Reach_is : Fun := ⟨13, [4, 1, 0], [.tmp 4],
  .seq (.reg (straight [⟨some 4, none, .pur .mov [.const (.bool false)]⟩]) [4])
  (.seq (.reg (straight [⟨some 5, none, .pur .mov [.tmp 1]⟩, ⟨some 6, none, .pur (.bin .geq) [.tmp 5, .const (.int .i64 0)]⟩, ⟨some 7, none, .pur .mov [.tmp 6]⟩, ⟨some 8, some (7, true), .pur .mov [.tmp 1]⟩, ⟨some 9, some (7, true), .pur .mov [.tmp 0]⟩, ⟨some 10, some (7, true), .eff (.call 48) [.tmp 9]⟩, ⟨some 11, some (7, true), .pur (.bin .lss) [.tmp 8, .tmp 10]⟩, ⟨some 12, none, .pur .pick [.tmp 7, .tmp 11, .const (.bool false)]⟩, ⟨some 4, none, .pur .mov [.tmp 12]⟩]) [4])
  (.ret))⟩
theorem K_reach_Reach_is : compF Try.prog 82 = some S_reach_Reach_is := by kernel_rfl

-- 83
def S_reach_Reach_Before : Fun := ⟨38, [6, 0, 1, 2], [.tmp 6],
  .seq (.reg (straight [⟨some 6, none, .pur .mov [.const (.bool false)]⟩]) [6])
  (.seq (.reg (straight [⟨some 7, none, .pur .mov [.tmp 0]⟩, ⟨some 8, none, .pur .mov [.tmp 1]⟩, ⟨some 9, none, .eff (.call 82) [.tmp 7, .tmp 8]⟩, ⟨some 10, none, .pur .mov [.tmp 9]⟩, ⟨some 11, some (10, true), .pur .mov [.tmp 0]⟩, ⟨some 12, some (10, true), .pur .mov [.tmp 2]⟩, ⟨some 13, some (10, true), .eff (.call 82) [.tmp 11, .tmp 12]⟩, ⟨some 14, none, .pur .pick [.tmp 10, .tmp 13, .const (.bool false)]⟩, ⟨some 15, none, .pur .mov [.tmp 14]⟩, ⟨some 16, some (15, true), .pur .mov [.tmp 1]⟩, ⟨some 17, some (15, true), .pur .mov [.tmp 2]⟩, ⟨some 18, some (15, true), .pur (.bin .lss) [.tmp 16, .tmp 17]⟩, ⟨some 19, none, .pur .pick [.tmp 15, .tmp 18, .const (.bool false)]⟩, ⟨some 20, none, .pur .mov [.tmp 19]⟩, ⟨some 21, some (20, true), .pur .mov [.tmp 0]⟩, ⟨some 22, some (20, true), .pur .nilc [.tmp 21]⟩, ⟨some 23, some (20, true), .pur (.fla 0) [.tmp 22]⟩, ⟨some 24, some (20, true), .ld none (.tmp 23)⟩, ⟨some 25, some (20, true), .pur .mov [.tmp 2]⟩, ⟨some 26, some (20, true), .pur (.ixa 1) [.tmp 24, .tmp 25]⟩, ⟨some 27, some (20, true), .ld none (.tmp 26)⟩, ⟨some 28, some (20, true), .pur .mov [.tmp 1]⟩, ⟨some 29, some (20, true), .pur (.bin .quo) [.tmp 28, .const (.int .i64 64)]⟩, ⟨some 30, some (20, true), .pur (.ixa 1) [.tmp 27, .tmp 29]⟩, ⟨some 31, some (20, true), .ld none (.tmp 30)⟩, ⟨some 32, some (20, true), .pur .mov [.tmp 1]⟩, ⟨some 33, some (20, true), .pur (.bin .rem) [.tmp 32, .const (.int .i64 64)]⟩, ⟨some 34, some (20, true), .pur (.bin .shr) [.tmp 31, .tmp 33]⟩, ⟨some 35, some (20, true), .pur (.bin .and) [.tmp 34, .const (.int .u64 1)]⟩, ⟨some 36, some (20, true), .pur (.bin .eql) [.tmp 35, .const (.int .u64 1)]⟩, ⟨some 37, none, .pur .pick [.tmp 20, .tmp 36, .const (.bool false)]⟩, ⟨some 6, none, .pur .mov [.tmp 37]⟩]) [6])
  (.ret))⟩
theorem K_reach_Reach_Before : compF Try.prog 83 = some S_reach_Reach_Before := by kernel_rfl

end Go.Proofs.Ytncdnegdlkmicaa
