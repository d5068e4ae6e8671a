import Derived.Test.YtncdnegdlkmicaaKj
import Derived.Test.YtncdnegdlkmicaaProg
import Derived.KernelRfl
namespace Go.Proofs.Ytncdnegdlkmicaa
open Go Go.Kx Go.Proofs
set_option linter.unusedVariables false
set_option maxRecDepth 100000

-- 11
def S_serial_Eval : Fun := ⟨25, [6, 7, 0, 3, 1, 2, 9, 18, 8], [.cell 6 (some 7), .tmp 7],
  .seq (.reg (straight [⟨some 3, none, .eff (.box 24) [.tmp 0]⟩, ⟨some 6, none, .eff (.new 30 [.int .i64 0, .int .i64 0, .slice none 0 0, .slice none 0 0, .int .i64 0, .int .i64 0, .int .i64 0]) []⟩, ⟨some 7, none, .pur .mov [.const (.int .i64 0)]⟩]) [3, 6, 7])
  (.seq (.reg (straight [⟨some 11, none, .ld (some 2) (.tmp 3)⟩, ⟨some 12, none, .pur .mov [.tmp 1]⟩, ⟨some 13, none, .pur .mov [.tmp 2]⟩, ⟨some 14, none, .eff (.call 28) [.tmp 11, .tmp 12, .tmp 13]⟩, ⟨some 10, none, .pur .mov [.tmp 14]⟩, ⟨some 15, none, .pur (.ext 0) [.tmp 10]⟩, ⟨some 16, none, .pur (.ext 1) [.tmp 10]⟩, ⟨some 8, none, .pur .mov [.tmp 15]⟩, ⟨some 9, none, .pur .mov [.tmp 16]⟩]) [8, 9])
  (.seq (.seq (.reg (straight [⟨some 17, none, .pur .mov [.tmp 9]⟩, ⟨some 18, none, .pur (.bin .neq) [.tmp 17, .const (.int .i64 0)]⟩]) [18])
  (.cond (.tmp 18) (.seq (.reg (straight [⟨some 19, none, .pur (.bld [.int .i64 0, .int .i64 0, .slice none 0 0, .slice none 0 0, .int .i64 0, .int .i64 0, .int .i64 0] []) []⟩, ⟨some 20, none, .pur .mov [.tmp 9]⟩, ⟨none, none, .eff (.st 7) [.tmp 6, .tmp 19]⟩, ⟨some 7, none, .pur .mov [.tmp 20]⟩]) [7])
  (.ret)) (.skip)))
  (.seq (.reg (straight [⟨some 21, none, .pur .mov [.tmp 8]⟩, ⟨some 22, none, .pur .nilc [.tmp 21]⟩, ⟨some 23, none, .pur (.fla 6) [.tmp 22]⟩, ⟨some 24, none, .ld (some 7) (.tmp 23)⟩, ⟨none, none, .eff (.st 7) [.tmp 6, .tmp 24]⟩, ⟨some 7, none, .pur .mov [.const (.int .i64 0)]⟩]) [7])
  (.ret))))⟩
theorem K_serial_Eval : compF Try.prog 11 = some S_serial_Eval := by kernel_rfl

-- 13
def S_serial_Marks : Fun := ⟨22, [6, 0, 3, 1, 2, 8, 17, 7], [.tmp 6],
  .seq (.reg (straight [⟨some 3, none, .eff (.box 24) [.tmp 0]⟩, ⟨some 6, none, .pur .mov [.const (.slice none 0 0)]⟩]) [3, 6])
  (.seq (.reg (straight [⟨some 10, none, .ld (some 2) (.tmp 3)⟩, ⟨some 11, none, .pur .mov [.tmp 1]⟩, ⟨some 12, none, .pur .mov [.tmp 2]⟩, ⟨some 13, none, .eff (.call 28) [.tmp 10, .tmp 11, .tmp 12]⟩, ⟨some 9, none, .pur .mov [.tmp 13]⟩, ⟨some 14, none, .pur (.ext 0) [.tmp 9]⟩, ⟨some 15, none, .pur (.ext 1) [.tmp 9]⟩, ⟨some 7, none, .pur .mov [.tmp 14]⟩, ⟨some 8, none, .pur .mov [.tmp 15]⟩]) [7, 8])
  (.seq (.seq (.reg (straight [⟨some 16, none, .pur .mov [.tmp 8]⟩, ⟨some 17, none, .pur (.bin .neq) [.tmp 16, .const (.int .i64 0)]⟩]) [17])
  (.cond (.tmp 17) (.seq (.reg (straight [⟨some 6, none, .pur .mov [.const (.slice none 0 0)]⟩]) [6])
  (.ret)) (.skip)))
  (.seq (.reg (straight [⟨some 18, none, .pur .mov [.tmp 7]⟩, ⟨some 19, none, .pur .nilc [.tmp 18]⟩, ⟨some 20, none, .pur (.fla 4) [.tmp 19]⟩, ⟨some 21, none, .ld none (.tmp 20)⟩, ⟨some 6, none, .pur .mov [.tmp 21]⟩]) [6])
  (.ret))))⟩
theorem K_serial_Marks : compF Try.prog 13 = some S_serial_Marks := by kernel_rfl

-- 32
def S_prog_Check_L1 : SCode :=
  .seq (.reg (straight [⟨some 20, none, .pur (.bin .lss) [.tmp 19, .tmp 18]⟩]) [20])
  (.seq (.cond (.tmp 20) (.skip) (.exit 0))
  (.seq (.block 1 (.seq (.reg (straight [⟨some 21, none, .pur (.ixa 1) [.tmp 17, .tmp 19]⟩, ⟨some 22, none, .ld none (.tmp 21)⟩, ⟨some 5, none, .pur .mov [.tmp 22]⟩]) [5])
  (.seq (.reg (straight [⟨some 23, none, .pur .mov [.tmp 5]⟩, ⟨some 24, none, .pur (.fla 1) [.tmp 1]⟩, ⟨some 25, none, .ld none (.tmp 24)⟩, ⟨some 26, none, .pur (.len false) [.tmp 25]⟩, ⟨some 27, none, .eff (.call 61) [.tmp 23, .tmp 26]⟩, ⟨some 6, none, .pur .mov [.tmp 27]⟩]) [6])
  (.seq (.reg (straight [⟨some 28, none, .pur .mov [.tmp 6]⟩, ⟨some 29, none, .pur (.bin .neq) [.tmp 28, .const (.int .i64 0)]⟩]) [29])
  (.cond (.tmp 29) (.seq (.reg (straight [⟨some 30, none, .pur .mov [.tmp 6]⟩, ⟨some 2, none, .pur .mov [.tmp 30]⟩]) [2])
  (.ret)) (.skip))))))
  (.reg (straight [⟨some 31, none, .pur (.bin .add) [.tmp 19, .const (.int .i64 1)]⟩, ⟨some 19, none, .pur .mov [.tmp 31]⟩]) [19])))
def S_prog_Check : Fun := ⟨32, [2, 0, 1, 3, 14, 19, 18, 20, 17, 5, 6, 29], [.tmp 2],
  .seq (.reg (straight [⟨some 1, none, .eff (.box 24) [.tmp 0]⟩, ⟨some 2, none, .pur .mov [.const (.int .i64 0)]⟩]) [1, 2])
  (.seq (.seq (.reg (straight [⟨some 7, none, .pur (.fla 0) [.tmp 1]⟩, ⟨some 8, none, .ld none (.tmp 7)⟩, ⟨some 9, none, .pur (.fla 1) [.tmp 1]⟩, ⟨some 10, none, .ld none (.tmp 9)⟩, ⟨some 11, none, .pur (.len false) [.tmp 10]⟩, ⟨some 12, none, .eff (.call 60) [.tmp 8, .tmp 11]⟩, ⟨some 3, none, .pur .mov [.tmp 12]⟩]) [3])
  (.seq (.reg (straight [⟨some 13, none, .pur .mov [.tmp 3]⟩, ⟨some 14, none, .pur (.bin .neq) [.tmp 13, .const (.int .i64 0)]⟩]) [14])
  (.cond (.tmp 14) (.seq (.reg (straight [⟨some 15, none, .pur .mov [.tmp 3]⟩, ⟨some 2, none, .pur .mov [.tmp 15]⟩]) [2])
  (.ret)) (.skip))))
  (.seq (.seq (.reg (straight [⟨some 16, none, .pur (.fla 1) [.tmp 1]⟩, ⟨some 17, none, .ld none (.tmp 16)⟩, ⟨some 18, none, .pur (.len false) [.tmp 17]⟩, ⟨some 19, none, .pur .mov [.const (.int .i64 0)]⟩]) [17, 18, 19])
  (.block 0 (.loop S_prog_Check_L1)))
  (.seq (.reg (straight [⟨some 2, none, .pur .mov [.const (.int .i64 0)]⟩]) [2])
  (.ret))))⟩
theorem K_prog_Check : compF Try.prog 32 = some S_prog_Check := by kernel_rfl

-- 51
def S_store_New : Fun := ⟨9, [2, 0], [.tmp 2],
  .seq (.reg (straight [⟨some 2, none, .pur .mov [.const (.pointer none)]⟩]) [2])
  (.seq (.reg (straight [⟨some 3, none, .pur .mov [.tmp 0]⟩, ⟨some 4, none, .pur (.minmax true) [.tmp 3, .const (.int .i64 0)]⟩, ⟨some 5, none, .pur (.minmax false) [.tmp 4, .const (.int .i64 1048576)]⟩, ⟨some 6, none, .eff (.mks 3 1 8 [.int .i64 0]) [.tmp 5, .tmp 5]⟩, ⟨some 7, none, .pur (.bld [.slice none 0 0, .nilFunc] [(0, 1)]) [.tmp 6]⟩, ⟨some 8, none, .eff (.box 169) [.tmp 7]⟩, ⟨some 2, none, .pur .mov [.tmp 8]⟩]) [2])
  (.ret))⟩
theorem K_store_New : compF Try.prog 51 = some S_store_New := by kernel_rfl

-- 52
def S_store_Store_Store : Fun := ⟨16, [6, 0, 1, 7, 12, 2], [.tmp 6],
  .seq (.reg (straight [⟨some 6, none, .pur .mov [.const (.bool false)]⟩]) [6])
  (.seq (.reg (straight [⟨some 8, none, .pur .mov [.tmp 0]⟩, ⟨some 9, none, .pur .mov [.tmp 1]⟩, ⟨some 10, none, .eff (.call 84) [.tmp 8, .tmp 9, .const (.bool true)]⟩, ⟨some 7, none, .pur .mov [.tmp 10]⟩]) [7])
  (.seq (.seq (.reg (straight [⟨some 11, none, .pur .mov [.tmp 7]⟩, ⟨some 12, none, .pur (.eqn false 0) [.tmp 11]⟩]) [12])
  (.cond (.tmp 12) (.seq (.reg (straight [⟨some 6, none, .pur .mov [.const (.bool false)]⟩]) [6])
  (.ret)) (.skip)))
  (.seq (.reg (straight [⟨some 13, none, .pur .mov [.tmp 7]⟩, ⟨some 14, none, .pur .mov [.tmp 2]⟩, ⟨some 15, none, .pur .nilc [.tmp 13]⟩, ⟨none, none, .eff (.st 1) [.tmp 15, .tmp 14]⟩]) [])
  (.seq (.reg (straight [⟨some 6, none, .pur .mov [.const (.bool true)]⟩]) [6])
  (.ret)))))⟩
theorem K_store_Store_Store : compF Try.prog 52 = some S_store_Store_Store := by kernel_rfl

-- 53
def S_serial_eval_push : Fun := ⟨38, [1, 0, 3], [],
  .seq (.reg (straight [⟨some 3, none, .eff (.box 135) [.tmp 1]⟩]) [3])
  (.seq (.reg (.run ⟨some 4, none, .pur .mov [.tmp 0]⟩ (.run ⟨some 5, none, .pur .mov [.tmp 0]⟩ (.run ⟨some 6, none, .pur .nilc [.tmp 5]⟩ (.run ⟨some 7, none, .pur (.fla 2) [.tmp 6]⟩ (.run ⟨some 8, none, .ld none (.tmp 7)⟩ (.run ⟨some 9, none, .ld (some 15) (.tmp 3)⟩ (.eff ⟨some 10, none, .eff (.bsl 135 15) [.tmp 9]⟩ [⟨some 8, none, .ld none (.tmp 7)⟩] (.eff ⟨some 11, none, .eff (.app 135 15 120 [.int .i64 0, .int .i64 0, .int .i64 0, .int .i64 0, .int .i64 0, .int .i64 0, .int .i64 0, .int .i64 0, .int .i64 0, .int .i64 0, .int .i64 0, .bool false, .int .i64 0, .int .i64 0, .int .i64 0]) [.tmp 8, .tmp 10]⟩ [] (.run ⟨some 12, none, .pur .nilc [.tmp 4]⟩ (.run ⟨some 13, none, .pur (.fla 2) [.tmp 12]⟩ (.eff ⟨none, none, .eff (.st 1) [.tmp 13, .tmp 11]⟩ [] .done))))))))))) [])
  (.seq (.reg (straight [⟨some 14, none, .pur .mov [.tmp 0]⟩, ⟨some 15, none, .pur .nilc [.tmp 14]⟩, ⟨some 16, none, .pur (.fla 6) [.tmp 15]⟩, ⟨some 17, none, .pur (.fla 5) [.tmp 16]⟩, ⟨some 18, none, .ld none (.tmp 17)⟩, ⟨some 19, none, .pur (.bin .add) [.tmp 18, .const (.int .i64 1)]⟩, ⟨some 20, none, .pur .nilc [.tmp 14]⟩, ⟨some 21, none, .pur (.fla 6) [.tmp 20]⟩, ⟨some 22, none, .pur (.fla 5) [.tmp 21]⟩, ⟨none, none, .eff (.st 1) [.tmp 22, .tmp 19]⟩]) [])
  (.reg (.run ⟨some 23, none, .pur .mov [.tmp 0]⟩ (.run ⟨some 24, none, .pur .mov [.tmp 0]⟩ (.run ⟨some 25, none, .pur .nilc [.tmp 24]⟩ (.run ⟨some 26, none, .pur (.fla 6) [.tmp 25]⟩ (.run ⟨some 27, none, .pur (.fla 6) [.tmp 26]⟩ (.run ⟨some 28, none, .ld none (.tmp 27)⟩ (.run ⟨some 29, none, .pur .mov [.tmp 0]⟩ (.run ⟨some 30, none, .pur .nilc [.tmp 29]⟩ (.run ⟨some 31, none, .pur (.fla 2) [.tmp 30]⟩ (.run ⟨some 32, none, .ld none (.tmp 31)⟩ (.run ⟨some 33, none, .pur (.len false) [.tmp 32]⟩ (.run ⟨some 34, none, .pur (.minmax true) [.tmp 28, .tmp 33]⟩ (.run ⟨some 35, none, .pur .nilc [.tmp 23]⟩ (.run ⟨some 36, none, .pur (.fla 6) [.tmp 35]⟩ (.run ⟨some 37, none, .pur (.fla 6) [.tmp 36]⟩ (.eff ⟨none, none, .eff (.st 1) [.tmp 37, .tmp 34]⟩ [] .done)))))))))))))))) [])))⟩
theorem K_serial_eval_push : compF Try.prog 53 = some S_serial_eval_push := by kernel_rfl

-- 55
def S_serial_eval_stop : Fun := ⟨16, [0, 1, 2], [],
  .reg (straight [⟨some 6, none, .pur .mov [.tmp 0]⟩, ⟨some 7, none, .pur .mov [.tmp 0]⟩, ⟨some 8, none, .pur .mov [.tmp 1]⟩, ⟨some 9, none, .pur .mov [.tmp 2]⟩, ⟨some 10, none, .pur .nilc [.tmp 6]⟩, ⟨some 11, none, .pur (.fla 6) [.tmp 10]⟩, ⟨some 12, none, .pur (.fla 0) [.tmp 11]⟩, ⟨none, none, .eff (.st 1) [.tmp 12, .tmp 8]⟩, ⟨some 13, none, .pur .nilc [.tmp 7]⟩, ⟨some 14, none, .pur (.fla 6) [.tmp 13]⟩, ⟨some 15, none, .pur (.fla 1) [.tmp 14]⟩, ⟨none, none, .eff (.st 1) [.tmp 15, .tmp 9]⟩]) []⟩
theorem K_serial_eval_stop : compF Try.prog 55 = some S_serial_eval_stop := by kernel_rfl

-- 56
def S_store_Store_All : Fun := ⟨10, [2, 0, 4], [.tmp 2],
  .seq (.reg (straight [⟨some 2, none, .pur .mov [.const (.slice none 0 0)]⟩]) [2])
  (.seq (.seq (.reg (straight [⟨some 3, none, .pur .mov [.tmp 0]⟩, ⟨some 4, none, .pur (.eqn false 0) [.tmp 3]⟩]) [4])
  (.cond (.tmp 4) (.seq (.reg (straight [⟨some 2, none, .pur .mov [.const (.slice none 0 0)]⟩]) [2])
  (.ret)) (.skip)))
  (.seq (.reg (straight [⟨some 5, none, .pur .mov [.tmp 0]⟩, ⟨some 6, none, .pur .nilc [.tmp 5]⟩, ⟨some 7, none, .pur (.fla 0) [.tmp 6]⟩, ⟨some 8, none, .ld none (.tmp 7)⟩, ⟨some 9, none, .eff (.call 95) [.tmp 8]⟩, ⟨some 2, none, .pur .mov [.tmp 9]⟩]) [2])
  (.ret)))⟩
theorem K_store_Store_All : compF Try.prog 56 = some S_store_Store_All := by kernel_rfl

-- 60
def S_prog_sizes : Fun := ⟨13, [4, 0, 10, 1], [.tmp 4],
  .seq (.reg (straight [⟨some 4, none, .pur .mov [.const (.int .i64 0)]⟩]) [4])
  (.seq (.seq (.reg (straight [⟨some 5, none, .pur .mov [.tmp 0]⟩, ⟨some 6, none, .pur (.bin .lss) [.tmp 5, .const (.int .i64 0)]⟩, ⟨some 7, none, .pur .mov [.tmp 6]⟩, ⟨some 8, some (7, false), .pur .mov [.tmp 0]⟩, ⟨some 9, some (7, false), .pur (.bin .gtr) [.tmp 8, .const (.int .i64 256)]⟩, ⟨some 10, none, .pur .pick [.tmp 7, .const (.bool true), .tmp 9]⟩]) [10])
  (.cond (.tmp 10) (.seq (.reg (straight [⟨some 4, none, .pur .mov [.const (.int .i64 3)]⟩]) [4])
  (.ret)) (.skip)))
  (.seq (.reg (straight [⟨some 11, none, .pur .mov [.tmp 1]⟩, ⟨some 12, none, .eff (.call 97) [.tmp 11, .const (.int .i64 16)]⟩, ⟨some 4, none, .pur .mov [.tmp 12]⟩]) [4])
  (.ret)))⟩
theorem K_prog_sizes : compF Try.prog 60 = some S_prog_sizes := by kernel_rfl

-- 61
def S_prog_function_L1 : SCode :=
  .seq (.reg (straight [⟨some 18, none, .pur (.bin .lss) [.tmp 17, .tmp 16]⟩]) [18])
  (.seq (.cond (.tmp 18) (.skip) (.exit 0))
  (.seq (.block 1 (.seq (.reg (straight [⟨some 19, none, .pur (.ixa 4) [.tmp 15, .tmp 17]⟩, ⟨some 20, none, .ld (some 4) (.tmp 19)⟩, ⟨some 7, none, .eff (.new 78 [.int .i64 0, .int .i64 0, .int .i64 0, .int .i64 0]) []⟩, ⟨none, none, .eff (.st 4) [.tmp 7, .tmp 20]⟩]) [7])
  (.seq (.seq (.reg (straight [⟨some 21, none, .ld (some 4) (.tmp 7)⟩, ⟨some 22, none, .eff (.call 98) [.tmp 21]⟩, ⟨some 8, none, .pur .mov [.tmp 22]⟩]) [8])
  (.seq (.reg (straight [⟨some 23, none, .pur .mov [.tmp 8]⟩, ⟨some 24, none, .pur (.bin .neq) [.tmp 23, .const (.int .i64 0)]⟩]) [24])
  (.cond (.tmp 24) (.seq (.reg (straight [⟨some 25, none, .pur .mov [.tmp 8]⟩, ⟨some 4, none, .pur .mov [.tmp 25]⟩]) [4])
  (.ret)) (.skip))))
  (.seq (.reg (straight [⟨some 26, none, .ld (some 4) (.tmp 7)⟩, ⟨some 27, none, .pur .mov [.tmp 0]⟩, ⟨some 28, none, .pur (.len false) [.tmp 27]⟩, ⟨some 29, none, .pur .mov [.tmp 1]⟩, ⟨some 30, none, .eff (.call 99) [.tmp 26, .tmp 28, .tmp 29]⟩, ⟨some 31, none, .pur .not [.tmp 30]⟩]) [31])
  (.cond (.tmp 31) (.seq (.reg (straight [⟨some 4, none, .pur .mov [.const (.int .i64 11)]⟩]) [4])
  (.ret)) (.skip))))))
  (.reg (straight [⟨some 32, none, .pur (.bin .add) [.tmp 17, .const (.int .i64 1)]⟩, ⟨some 17, none, .pur .mov [.tmp 32]⟩]) [17])))
def S_prog_function : Fun := ⟨44, [4, 0, 5, 13, 17, 16, 18, 15, 7, 8, 24, 1, 31, 39, 40], [.tmp 4],
  .seq (.reg (straight [⟨some 4, none, .pur .mov [.const (.int .i64 0)]⟩]) [4])
  (.seq (.seq (.reg (straight [⟨some 9, none, .pur .mov [.tmp 0]⟩, ⟨some 10, none, .pur (.len false) [.tmp 9]⟩, ⟨some 11, none, .eff (.call 97) [.tmp 10, .const (.int .i64 200)]⟩, ⟨some 5, none, .pur .mov [.tmp 11]⟩]) [5])
  (.seq (.reg (straight [⟨some 12, none, .pur .mov [.tmp 5]⟩, ⟨some 13, none, .pur (.bin .neq) [.tmp 12, .const (.int .i64 0)]⟩]) [13])
  (.cond (.tmp 13) (.seq (.reg (straight [⟨some 14, none, .pur .mov [.tmp 5]⟩, ⟨some 4, none, .pur .mov [.tmp 14]⟩]) [4])
  (.ret)) (.skip))))
  (.seq (.seq (.reg (straight [⟨some 15, none, .pur .mov [.tmp 0]⟩, ⟨some 16, none, .pur (.len false) [.tmp 15]⟩, ⟨some 17, none, .pur .mov [.const (.int .i64 0)]⟩]) [15, 16, 17])
  (.block 0 (.loop S_prog_function_L1)))
  (.seq (.seq (.reg (straight [⟨some 33, none, .pur .mov [.tmp 0]⟩, ⟨some 34, none, .pur .mov [.tmp 0]⟩, ⟨some 35, none, .pur (.len false) [.tmp 34]⟩, ⟨some 36, none, .pur (.bin .sub) [.tmp 35, .const (.int .i64 1)]⟩, ⟨some 37, none, .pur (.ixa 4) [.tmp 33, .tmp 36]⟩, ⟨some 38, none, .pur (.fla 0) [.tmp 37]⟩, ⟨some 39, none, .ld none (.tmp 38)⟩]) [39])
  (.block 2 (.seq (.seq (.reg (straight [⟨some 41, none, .pur (.bin .eql) [.tmp 39, .const (.int .i64 0)]⟩, ⟨some 40, none, .pur .mov [.tmp 41]⟩]) [40])
  (.cond (.tmp 40) (.skip) (.seq (.reg (straight [⟨some 42, none, .pur (.bin .eql) [.tmp 39, .const (.int .i64 18)]⟩, ⟨some 40, none, .pur .mov [.tmp 42]⟩]) [40])
  (.cond (.tmp 40) (.skip) (.reg (straight [⟨some 43, none, .pur (.bin .eql) [.tmp 39, .const (.int .i64 25)]⟩, ⟨some 40, none, .pur .mov [.tmp 43]⟩]) [40])))))
  (.cond (.tmp 40) (.seq (.reg (straight [⟨some 4, none, .pur .mov [.const (.int .i64 0)]⟩]) [4])
  (.ret)) (.skip)))))
  (.seq (.reg (straight [⟨some 4, none, .pur .mov [.const (.int .i64 12)]⟩]) [4])
  (.ret)))))⟩
theorem K_prog_function : compF Try.prog 61 = some S_prog_function := by kernel_rfl

-- 84
def S_store_Store_word : Fun := ⟨33, [6, 1, 0, 14, 19, 2], [.tmp 6],
  .seq (.reg (straight [⟨some 6, none, .pur .mov [.const (.pointer none)]⟩]) [6])
  (.seq (.seq (.reg (straight [⟨some 7, none, .pur .mov [.tmp 1]⟩, ⟨some 8, none, .pur (.bin .lss) [.tmp 7, .const (.int .i64 0)]⟩, ⟨some 9, none, .pur .mov [.tmp 8]⟩, ⟨some 10, some (9, false), .pur .mov [.tmp 1]⟩, ⟨some 11, some (9, false), .pur .mov [.tmp 0]⟩, ⟨some 12, some (9, false), .eff (.call 107) [.tmp 11]⟩, ⟨some 13, some (9, false), .pur (.bin .geq) [.tmp 10, .tmp 12]⟩, ⟨some 14, none, .pur .pick [.tmp 9, .const (.bool true), .tmp 13]⟩]) [14])
  (.cond (.tmp 14) (.seq (.reg (straight [⟨some 6, none, .pur .mov [.const (.pointer none)]⟩]) [6])
  (.ret)) (.skip)))
  (.seq (.seq (.reg (straight [⟨some 15, none, .pur .mov [.tmp 0]⟩, ⟨some 16, none, .pur .nilc [.tmp 15]⟩, ⟨some 17, none, .pur (.fla 1) [.tmp 16]⟩, ⟨some 18, none, .ld none (.tmp 17)⟩, ⟨some 19, none, .pur (.eqn true 2) [.tmp 18]⟩]) [19])
  (.cond (.tmp 19) (.reg (straight [⟨some 20, none, .pur .mov [.tmp 0]⟩, ⟨some 21, none, .pur .nilc [.tmp 20]⟩, ⟨some 22, none, .pur (.fla 1) [.tmp 21]⟩, ⟨some 23, none, .ld none (.tmp 22)⟩, ⟨some 24, none, .pur .mov [.tmp 1]⟩, ⟨some 25, none, .pur .mov [.tmp 2]⟩, ⟨some 26, none, .eff .callv [.tmp 23, .tmp 24, .tmp 25]⟩]) []) (.skip)))
  (.seq (.reg (straight [⟨some 27, none, .pur .mov [.tmp 0]⟩, ⟨some 28, none, .pur .nilc [.tmp 27]⟩, ⟨some 29, none, .pur (.fla 0) [.tmp 28]⟩, ⟨some 30, none, .ld none (.tmp 29)⟩, ⟨some 31, none, .pur .mov [.tmp 1]⟩, ⟨some 32, none, .pur (.ixa 1) [.tmp 30, .tmp 31]⟩, ⟨some 6, none, .pur .mov [.tmp 32]⟩]) [6])
  (.ret))))⟩
theorem K_store_Store_word : compF Try.prog 84 = some S_store_Store_word := by kernel_rfl

-- 85
def S_serial_eval_top : Fun := ⟨14, [2, 0], [.tmp 2],
  .seq (.reg (straight [⟨some 2, none, .pur .mov [.const (.pointer none)]⟩]) [2])
  (.seq (.reg (straight [⟨some 3, none, .pur .mov [.tmp 0]⟩, ⟨some 4, none, .pur .nilc [.tmp 3]⟩, ⟨some 5, none, .pur (.fla 2) [.tmp 4]⟩, ⟨some 6, none, .ld none (.tmp 5)⟩, ⟨some 7, none, .pur .mov [.tmp 0]⟩, ⟨some 8, none, .pur .nilc [.tmp 7]⟩, ⟨some 9, none, .pur (.fla 2) [.tmp 8]⟩, ⟨some 10, none, .ld none (.tmp 9)⟩, ⟨some 11, none, .pur (.len false) [.tmp 10]⟩, ⟨some 12, none, .pur (.bin .sub) [.tmp 11, .const (.int .i64 1)]⟩, ⟨some 13, none, .pur (.ixa 15) [.tmp 6, .tmp 12]⟩, ⟨some 2, none, .pur .mov [.tmp 13]⟩]) [2])
  (.ret))⟩
theorem K_serial_eval_top : compF Try.prog 85 = some S_serial_eval_top := by kernel_rfl

-- 86
def S_step_Do : Fun := ⟨92, [6, 7, 8, 9, 0, 2, 5, 1, 3, 17, 10, 27, 39, 13, 58, 12, 68, 74, 11], [.tmp 6, .cell 7 (some 8), .cell 8 (some 5), .tmp 9],
  .seq (.reg (straight [⟨some 3, none, .eff (.box 78) [.tmp 0]⟩, ⟨some 5, none, .eff (.box 97) [.tmp 2]⟩, ⟨some 6, none, .pur .mov [.const (.int .i64 0)]⟩, ⟨some 7, none, .eff (.new 97 [.int .i64 0, .int .i64 0, .int .i64 0, .int .i64 0, .int .i64 0, .int .i64 0, .int .i64 0, .int .i64 0]) []⟩, ⟨some 8, none, .eff (.new 173 [.int .i64 0, .int .i64 0, .int .i64 0, .int .i64 0, .int .i64 0]) []⟩, ⟨some 9, none, .pur .mov [.const (.int .i64 0)]⟩]) [3, 5, 6, 7, 8, 9])
  (.seq (.reg (straight [⟨some 14, none, .ld (some 8) (.tmp 5)⟩, ⟨some 15, none, .pur .mov [.tmp 1]⟩, ⟨some 16, none, .pur (.bin .add) [.tmp 15, .const (.int .i64 1)]⟩, ⟨some 10, none, .eff (.new 193 [.int .i64 0, .int .i64 0, .int .i64 0, .int .i64 0, .int .i64 0, .int .i64 0, .int .i64 0, .int .i64 0]) []⟩, ⟨none, none, .eff (.st 8) [.tmp 10, .tmp 14]⟩, ⟨some 11, none, .pur .mov [.tmp 16]⟩]) [10, 11])
  (.seq (.block 0 (.seq (.reg (straight [⟨some 18, none, .pur (.fla 0) [.tmp 3]⟩, ⟨some 19, none, .ld none (.tmp 18)⟩, ⟨some 20, none, .pur (.bin .eql) [.tmp 19, .const (.int .i64 1)]⟩, ⟨some 17, none, .pur .mov [.tmp 20]⟩]) [17])
  (.cond (.tmp 17) (.reg (.run ⟨some 21, none, .pur (.fla 1) [.tmp 3]⟩ (.run ⟨some 22, none, .ld none (.tmp 21)⟩ (.run ⟨some 24, none, .pur (.fla 2) [.tmp 3]⟩ (.run ⟨some 25, none, .ld none (.tmp 24)⟩ (.eff ⟨some 23, none, .eff (.call 108) [.tmp 22]⟩ [⟨some 25, none, .ld none (.tmp 24)⟩] (.run ⟨some 26, none, .pur (.ixaA 8 1) [.tmp 10, .tmp 23]⟩ (.eff ⟨none, none, .eff (.st 1) [.tmp 26, .tmp 25]⟩ [] .done))))))) []) (.seq (.reg (straight [⟨some 28, none, .pur (.fla 0) [.tmp 3]⟩, ⟨some 29, none, .ld none (.tmp 28)⟩, ⟨some 30, none, .pur (.bin .eql) [.tmp 29, .const (.int .i64 2)]⟩, ⟨some 27, none, .pur .mov [.tmp 30]⟩]) [27])
  (.cond (.tmp 27) (.reg (.run ⟨some 31, none, .pur (.fla 1) [.tmp 3]⟩ (.run ⟨some 32, none, .ld none (.tmp 31)⟩ (.run ⟨some 34, none, .ld (some 8) (.tmp 10)⟩ (.run ⟨some 35, none, .pur (.fla 2) [.tmp 3]⟩ (.run ⟨some 36, none, .ld none (.tmp 35)⟩ (.eff ⟨some 33, none, .eff (.call 108) [.tmp 32]⟩ [⟨some 36, none, .ld none (.tmp 35)⟩, ⟨some 34, none, .ld (some 8) (.tmp 10)⟩] (.eff ⟨some 37, none, .eff (.call 109) [.tmp 34, .tmp 36]⟩ [] (.run ⟨some 38, none, .pur (.ixaA 8 1) [.tmp 10, .tmp 33]⟩ (.eff ⟨none, none, .eff (.st 1) [.tmp 38, .tmp 37]⟩ [] .done))))))))) []) (.seq (.reg (straight [⟨some 40, none, .pur (.fla 0) [.tmp 3]⟩, ⟨some 41, none, .ld none (.tmp 40)⟩, ⟨some 42, none, .eff (.call 110) [.tmp 41]⟩, ⟨some 39, none, .pur .mov [.tmp 42]⟩]) [39])
  (.cond (.tmp 39) (.seq (.reg (.run ⟨some 44, none, .pur (.fla 0) [.tmp 3]⟩ (.run ⟨some 45, none, .ld none (.tmp 44)⟩ (.run ⟨some 46, none, .ld (some 8) (.tmp 10)⟩ (.run ⟨some 47, none, .pur (.fla 2) [.tmp 3]⟩ (.run ⟨some 48, none, .ld none (.tmp 47)⟩ (.run ⟨some 50, none, .ld (some 8) (.tmp 10)⟩ (.run ⟨some 51, none, .pur (.fla 3) [.tmp 3]⟩ (.run ⟨some 52, none, .ld none (.tmp 51)⟩ (.eff ⟨some 49, none, .eff (.call 109) [.tmp 46, .tmp 48]⟩ [⟨some 52, none, .ld none (.tmp 51)⟩, ⟨some 50, none, .ld (some 8) (.tmp 10)⟩, ⟨some 45, none, .ld none (.tmp 44)⟩] (.eff ⟨some 53, none, .eff (.call 109) [.tmp 50, .tmp 52]⟩ [⟨some 45, none, .ld none (.tmp 44)⟩] (.eff ⟨some 54, none, .eff (.call 111) [.tmp 45, .tmp 49, .tmp 53]⟩ [] (.run ⟨some 43, none, .pur .mov [.tmp 54]⟩ (.run ⟨some 55, none, .pur (.ext 0) [.tmp 43]⟩ (.run ⟨some 56, none, .pur (.ext 1) [.tmp 43]⟩ (.run ⟨some 12, none, .pur .mov [.tmp 55]⟩ (.run ⟨some 13, none, .pur .mov [.tmp 56]⟩ .done)))))))))))))))) [12, 13])
  (.seq (.seq (.reg (straight [⟨some 57, none, .pur .mov [.tmp 13]⟩, ⟨some 58, none, .pur (.bin .neq) [.tmp 57, .const (.int .i64 0)]⟩]) [58])
  (.cond (.tmp 58) (.seq (.reg (.run ⟨some 59, none, .pur .mov [.tmp 1]⟩ (.run ⟨some 60, none, .ld (some 8) (.tmp 5)⟩ (.run ⟨some 61, none, .pur (.bld [.int .i64 0, .int .i64 0, .int .i64 0, .int .i64 0, .int .i64 0] []) []⟩ (.run ⟨some 62, none, .pur .mov [.tmp 13]⟩ (.run ⟨some 6, none, .pur .mov [.tmp 59]⟩ (.eff ⟨none, none, .eff (.st 8) [.tmp 7, .tmp 60]⟩ [] (.eff ⟨none, none, .eff (.st 5) [.tmp 8, .tmp 61]⟩ [] (.run ⟨some 9, none, .pur .mov [.tmp 62]⟩ .done)))))))) [6, 9])
  (.ret)) (.skip)))
  (.reg (straight [⟨some 63, none, .pur (.fla 1) [.tmp 3]⟩, ⟨some 64, none, .ld none (.tmp 63)⟩, ⟨some 65, none, .eff (.call 108) [.tmp 64]⟩, ⟨some 66, none, .pur .mov [.tmp 12]⟩, ⟨some 67, none, .pur (.ixaA 8 1) [.tmp 10, .tmp 65]⟩, ⟨none, none, .eff (.st 1) [.tmp 67, .tmp 66]⟩]) []))) (.seq (.reg (straight [⟨some 69, none, .pur (.fla 0) [.tmp 3]⟩, ⟨some 70, none, .ld none (.tmp 69)⟩, ⟨some 71, none, .pur (.bin .eql) [.tmp 70, .const (.int .i64 18)]⟩, ⟨some 68, none, .pur .mov [.tmp 71]⟩]) [68])
  (.cond (.tmp 68) (.reg (straight [⟨some 72, none, .pur (.fla 1) [.tmp 3]⟩, ⟨some 73, none, .ld none (.tmp 72)⟩, ⟨some 11, none, .pur .mov [.tmp 73]⟩]) [11]) (.seq (.reg (straight [⟨some 75, none, .pur (.fla 0) [.tmp 3]⟩, ⟨some 76, none, .ld none (.tmp 75)⟩, ⟨some 77, none, .pur (.bin .eql) [.tmp 76, .const (.int .i64 19)]⟩, ⟨some 78, none, .pur .mov [.tmp 77]⟩, ⟨some 79, some (78, true), .ld (some 8) (.tmp 10)⟩, ⟨some 80, some (78, true), .pur (.fla 1) [.tmp 3]⟩, ⟨some 81, some (78, true), .ld none (.tmp 80)⟩, ⟨some 82, some (78, true), .eff (.call 109) [.tmp 79, .tmp 81]⟩, ⟨some 83, some (78, true), .pur (.bin .eql) [.tmp 82, .const (.int .i64 0)]⟩, ⟨some 84, none, .pur .pick [.tmp 78, .tmp 83, .const (.bool false)]⟩, ⟨some 74, none, .pur .mov [.tmp 84]⟩]) [74])
  (.cond (.tmp 74) (.reg (straight [⟨some 85, none, .pur (.fla 2) [.tmp 3]⟩, ⟨some 86, none, .ld none (.tmp 85)⟩, ⟨some 11, none, .pur .mov [.tmp 86]⟩]) [11]) (.skip))))))))))))
  (.seq (.reg (.run ⟨some 87, none, .pur .mov [.tmp 11]⟩ (.run ⟨some 88, none, .ld (some 8) (.tmp 10)⟩ (.run ⟨some 89, none, .ld (some 4) (.tmp 3)⟩ (.run ⟨some 90, none, .ld (some 8) (.tmp 5)⟩ (.eff ⟨some 91, none, .eff (.call 112) [.tmp 89, .tmp 90]⟩ [⟨some 88, none, .ld (some 8) (.tmp 10)⟩] (.run ⟨some 6, none, .pur .mov [.tmp 87]⟩ (.eff ⟨none, none, .eff (.st 8) [.tmp 7, .tmp 88]⟩ [] (.eff ⟨none, none, .eff (.st 5) [.tmp 8, .tmp 91]⟩ [] (.run ⟨some 9, none, .pur .mov [.const (.int .i64 0)]⟩ .done))))))))) [6, 9])
  (.ret))))⟩
theorem K_step_Do : compF Try.prog 86 = some S_step_Do := by kernel_rfl

-- 87
def S_step_Ends : Fun := ⟨11, [2, 0, 1], [.tmp 2],
  .seq (.reg (straight [⟨some 1, none, .eff (.box 173) [.tmp 0]⟩, ⟨some 2, none, .pur .mov [.const (.bool false)]⟩]) [1, 2])
  (.seq (.reg (straight [⟨some 3, none, .pur (.fla 0) [.tmp 1]⟩, ⟨some 4, none, .ld none (.tmp 3)⟩, ⟨some 5, none, .pur (.bin .geq) [.tmp 4, .const (.int .i64 7)]⟩, ⟨some 6, none, .pur .mov [.tmp 5]⟩, ⟨some 7, some (6, true), .pur (.fla 0) [.tmp 1]⟩, ⟨some 8, some (6, true), .ld none (.tmp 7)⟩, ⟨some 9, some (6, true), .pur (.bin .leq) [.tmp 8, .const (.int .i64 12)]⟩, ⟨some 10, none, .pur .pick [.tmp 6, .tmp 9, .const (.bool false)]⟩, ⟨some 2, none, .pur .mov [.tmp 10]⟩]) [2])
  (.ret))⟩
theorem K_step_Ends : compF Try.prog 87 = some S_step_Ends := by kernel_rfl

-- 88
def S_serial_eval_mark : Fun := ⟨18, [0, 1, 2], [],
  .reg (straight [⟨some 6, none, .pur .mov [.tmp 0]⟩, ⟨some 7, none, .pur .mov [.tmp 0]⟩, ⟨some 8, none, .pur .nilc [.tmp 7]⟩, ⟨some 9, none, .pur (.fla 4) [.tmp 8]⟩, ⟨some 10, none, .ld none (.tmp 9)⟩, ⟨some 11, none, .pur .mov [.tmp 1]⟩, ⟨some 12, none, .pur .mov [.tmp 2]⟩, ⟨some 13, none, .pur (.bld [.int .i64 0, .int .i64 0, .int .i64 0] [(0, 1), (1, 1)]) [.tmp 11, .tmp 12]⟩, ⟨some 14, none, .eff (.bsl 38 3) [.tmp 13]⟩, ⟨some 15, none, .eff (.app 38 3 24 [.int .i64 0, .int .i64 0, .int .i64 0]) [.tmp 10, .tmp 14]⟩, ⟨some 16, none, .pur .nilc [.tmp 6]⟩, ⟨some 17, none, .pur (.fla 4) [.tmp 16]⟩, ⟨none, none, .eff (.st 1) [.tmp 17, .tmp 15]⟩]) []⟩
theorem K_serial_eval_mark : compF Try.prog 88 = some S_serial_eval_mark := by kernel_rfl

-- 89
def S_step_Asks : Fun := ⟨11, [2, 0, 1], [.tmp 2],
  .seq (.reg (straight [⟨some 1, none, .eff (.box 173) [.tmp 0]⟩, ⟨some 2, none, .pur .mov [.const (.bool false)]⟩]) [1, 2])
  (.seq (.reg (straight [⟨some 3, none, .pur (.fla 0) [.tmp 1]⟩, ⟨some 4, none, .ld none (.tmp 3)⟩, ⟨some 5, none, .pur (.bin .geq) [.tmp 4, .const (.int .i64 1)]⟩, ⟨some 6, none, .pur .mov [.tmp 5]⟩, ⟨some 7, some (6, true), .pur (.fla 0) [.tmp 1]⟩, ⟨some 8, some (6, true), .ld none (.tmp 7)⟩, ⟨some 9, some (6, true), .pur (.bin .leq) [.tmp 8, .const (.int .i64 4)]⟩, ⟨some 10, none, .pur .pick [.tmp 6, .tmp 9, .const (.bool false)]⟩, ⟨some 2, none, .pur .mov [.tmp 10]⟩]) [2])
  (.ret))⟩
theorem K_step_Asks : compF Try.prog 89 = some S_step_Asks := by kernel_rfl

-- 90
def S_serial_eval_ask : Fun := ⟨88, [3, 4, 9, 14, 15, 0, 27, 38, 52, 11, 69, 12, 1, 2, 8, 10], [],
  .seq (.reg (straight [⟨some 8, none, .eff (.box 97) [.tmp 3]⟩, ⟨some 9, none, .eff (.box 173) [.tmp 4]⟩]) [8, 9])
  (.seq (.reg (straight [⟨some 10, none, .pur .mov [.const (.int .i64 0)]⟩]) [10])
  (.seq (.reg (straight [⟨some 11, none, .pur .mov [.const (.bool false)]⟩]) [11])
  (.seq (.reg (straight [⟨some 12, none, .pur .mov [.const (.int .i64 2)]⟩]) [12])
  (.seq (.seq (.reg (straight [⟨some 13, none, .pur (.fla 0) [.tmp 9]⟩, ⟨some 14, none, .ld none (.tmp 13)⟩]) [14])
  (.block 0 (.seq (.reg (straight [⟨some 16, none, .pur (.bin .eql) [.tmp 14, .const (.int .i64 1)]⟩, ⟨some 15, none, .pur .mov [.tmp 16]⟩]) [15])
  (.cond (.tmp 15) (.seq (.reg (.run ⟨some 18, none, .pur .mov [.tmp 0]⟩ (.run ⟨some 19, none, .pur .nilc [.tmp 18]⟩ (.run ⟨some 20, none, .pur (.fla 3) [.tmp 19]⟩ (.run ⟨some 21, none, .ld none (.tmp 20)⟩ (.run ⟨some 22, none, .pur (.fla 1) [.tmp 9]⟩ (.run ⟨some 23, none, .ld none (.tmp 22)⟩ (.eff ⟨some 24, none, .eff (.call 113) [.tmp 21, .tmp 23]⟩ [] (.run ⟨some 17, none, .pur .mov [.tmp 24]⟩ (.run ⟨some 25, none, .pur (.ext 0) [.tmp 17]⟩ (.run ⟨some 26, none, .pur (.ext 1) [.tmp 17]⟩ (.run ⟨some 10, none, .pur .mov [.tmp 25]⟩ (.run ⟨some 11, none, .pur .mov [.tmp 26]⟩ .done)))))))))))) [10, 11])
  (.reg (straight [⟨some 12, none, .pur .mov [.const (.int .i64 1)]⟩]) [12])) (.seq (.reg (straight [⟨some 28, none, .pur (.bin .eql) [.tmp 14, .const (.int .i64 2)]⟩, ⟨some 27, none, .pur .mov [.tmp 28]⟩]) [27])
  (.cond (.tmp 27) (.reg (.run ⟨some 29, none, .pur .mov [.tmp 0]⟩ (.run ⟨some 30, none, .pur .nilc [.tmp 29]⟩ (.run ⟨some 31, none, .pur (.fla 3) [.tmp 30]⟩ (.run ⟨some 32, none, .ld none (.tmp 31)⟩ (.run ⟨some 33, none, .pur (.fla 1) [.tmp 9]⟩ (.run ⟨some 34, none, .ld none (.tmp 33)⟩ (.run ⟨some 35, none, .pur (.fla 2) [.tmp 9]⟩ (.run ⟨some 36, none, .ld none (.tmp 35)⟩ (.eff ⟨some 37, none, .eff (.call 52) [.tmp 32, .tmp 34, .tmp 36]⟩ [] (.run ⟨some 11, none, .pur .mov [.tmp 37]⟩ .done)))))))))) [11]) (.seq (.reg (straight [⟨some 39, none, .pur (.bin .eql) [.tmp 14, .const (.int .i64 3)]⟩, ⟨some 38, none, .pur .mov [.tmp 39]⟩]) [38])
  (.cond (.tmp 38) (.reg (.run ⟨some 41, none, .pur .mov [.tmp 0]⟩ (.run ⟨some 42, none, .pur .nilc [.tmp 41]⟩ (.run ⟨some 43, none, .pur (.fla 3) [.tmp 42]⟩ (.run ⟨some 44, none, .ld none (.tmp 43)⟩ (.run ⟨some 45, none, .pur (.fla 1) [.tmp 9]⟩ (.run ⟨some 46, none, .ld none (.tmp 45)⟩ (.run ⟨some 47, none, .pur (.fla 2) [.tmp 9]⟩ (.run ⟨some 48, none, .ld none (.tmp 47)⟩ (.eff ⟨some 49, none, .eff (.call 114) [.tmp 44, .tmp 46, .tmp 48]⟩ [] (.run ⟨some 40, none, .pur .mov [.tmp 49]⟩ (.run ⟨some 50, none, .pur (.ext 0) [.tmp 40]⟩ (.run ⟨some 51, none, .pur (.ext 1) [.tmp 40]⟩ (.run ⟨some 10, none, .pur .mov [.tmp 50]⟩ (.run ⟨some 11, none, .pur .mov [.tmp 51]⟩ .done)))))))))))))) [10, 11]) (.seq (.reg (straight [⟨some 53, none, .pur (.bin .eql) [.tmp 14, .const (.int .i64 4)]⟩, ⟨some 52, none, .pur .mov [.tmp 53]⟩]) [52])
  (.cond (.tmp 52) (.reg (.run ⟨some 55, none, .pur .mov [.tmp 0]⟩ (.run ⟨some 56, none, .pur .nilc [.tmp 55]⟩ (.run ⟨some 57, none, .pur (.fla 3) [.tmp 56]⟩ (.run ⟨some 58, none, .ld none (.tmp 57)⟩ (.run ⟨some 59, none, .pur (.fla 1) [.tmp 9]⟩ (.run ⟨some 60, none, .ld none (.tmp 59)⟩ (.run ⟨some 61, none, .pur (.fla 2) [.tmp 9]⟩ (.run ⟨some 62, none, .ld none (.tmp 61)⟩ (.run ⟨some 63, none, .pur (.fla 3) [.tmp 9]⟩ (.run ⟨some 64, none, .ld none (.tmp 63)⟩ (.eff ⟨some 65, none, .eff (.call 115) [.tmp 58, .tmp 60, .tmp 62, .tmp 64]⟩ [] (.run ⟨some 54, none, .pur .mov [.tmp 65]⟩ (.run ⟨some 66, none, .pur (.ext 0) [.tmp 54]⟩ (.run ⟨some 67, none, .pur (.ext 1) [.tmp 54]⟩ (.run ⟨some 10, none, .pur .mov [.tmp 66]⟩ (.run ⟨some 11, none, .pur .mov [.tmp 67]⟩ .done)))))))))))))))) [10, 11]) (.skip)))))))))))
  (.seq (.seq (.reg (straight [⟨some 68, none, .pur .mov [.tmp 11]⟩, ⟨some 69, none, .pur .not [.tmp 68]⟩]) [69])
  (.cond (.tmp 69) (.seq (.reg (straight [⟨some 70, none, .pur .mov [.tmp 0]⟩, ⟨some 71, none, .eff (.call 55) [.tmp 70, .const (.int .i64 4), .const (.int .i64 2)]⟩]) [])
  (.ret)) (.skip)))
  (.seq (.reg (straight [⟨some 72, none, .pur .mov [.tmp 0]⟩, ⟨some 73, none, .pur .mov [.tmp 12]⟩, ⟨some 74, none, .pur (.fla 1) [.tmp 9]⟩, ⟨some 75, none, .ld none (.tmp 74)⟩, ⟨some 76, none, .eff (.call 88) [.tmp 72, .tmp 73, .tmp 75]⟩]) [])
  (.reg (straight [⟨some 77, none, .pur .mov [.tmp 1]⟩, ⟨some 78, none, .pur .mov [.tmp 1]⟩, ⟨some 79, none, .pur .mov [.tmp 2]⟩, ⟨some 80, none, .ld (some 8) (.tmp 8)⟩, ⟨some 81, none, .ld (some 5) (.tmp 9)⟩, ⟨some 82, none, .pur .mov [.tmp 10]⟩, ⟨some 83, none, .eff (.call 116) [.tmp 80, .tmp 81, .tmp 82]⟩, ⟨some 84, none, .pur .nilc [.tmp 77]⟩, ⟨some 85, none, .pur (.fla 2) [.tmp 84]⟩, ⟨none, none, .eff (.st 1) [.tmp 85, .tmp 79]⟩, ⟨some 86, none, .pur .nilc [.tmp 78]⟩, ⟨some 87, none, .pur (.fla 3) [.tmp 86]⟩, ⟨none, none, .eff (.st 8) [.tmp 87, .tmp 83]⟩]) [])))))))⟩
theorem K_serial_eval_ask : compF Try.prog 90 = some S_serial_eval_ask := by kernel_rfl

-- 91
def S_serial_eval_goOn : Fun := ⟨53, [3, 1, 7, 16, 0, 8, 24, 2, 44], [],
  .seq (.reg (straight [⟨some 7, none, .eff (.box 173) [.tmp 3]⟩]) [7])
  (.seq (.reg (.run ⟨some 9, none, .pur .mov [.tmp 1]⟩ (.run ⟨some 10, none, .pur .nilc [.tmp 9]⟩ (.run ⟨some 11, none, .pur (.fla 13) [.tmp 10]⟩ (.run ⟨some 12, none, .ld none (.tmp 11)⟩ (.run ⟨some 13, none, .pur (.fla 2) [.tmp 7]⟩ (.run ⟨some 14, none, .ld none (.tmp 13)⟩ (.eff ⟨some 15, none, .eff (.call 117) [.tmp 12, .tmp 14]⟩ [] (.run ⟨some 8, none, .pur .mov [.tmp 15]⟩ .done)))))))) [8])
  (.seq (.block 0 (.seq (.reg (straight [⟨some 17, none, .pur .mov [.tmp 1]⟩, ⟨some 18, none, .pur .nilc [.tmp 17]⟩, ⟨some 19, none, .pur (.fla 0) [.tmp 18]⟩, ⟨some 20, none, .ld none (.tmp 19)⟩, ⟨some 21, none, .pur (.bin .neq) [.tmp 20, .const (.int .i64 2)]⟩, ⟨some 16, none, .pur .mov [.tmp 21]⟩]) [16])
  (.cond (.tmp 16) (.seq (.reg (straight [⟨some 22, none, .pur .mov [.tmp 0]⟩, ⟨some 23, none, .eff (.call 55) [.tmp 22, .const (.int .i64 4), .const (.int .i64 4)]⟩]) [])
  (.ret)) (.seq (.reg (straight [⟨some 25, none, .pur .mov [.tmp 8]⟩, ⟨some 26, none, .pur (.bin .neq) [.tmp 25, .const (.int .i64 0)]⟩, ⟨some 24, none, .pur .mov [.tmp 26]⟩]) [24])
  (.cond (.tmp 24) (.seq (.reg (straight [⟨some 27, none, .pur .mov [.tmp 0]⟩, ⟨some 28, none, .pur .mov [.tmp 8]⟩, ⟨some 29, none, .eff (.call 55) [.tmp 27, .const (.int .i64 4), .tmp 28]⟩]) [])
  (.ret)) (.skip))))))
  (.seq (.reg (straight [⟨some 30, none, .pur .mov [.tmp 0]⟩, ⟨some 31, none, .pur .mov [.tmp 1]⟩, ⟨some 32, none, .eff (.call 118) [.tmp 30, .tmp 31]⟩]) [])
  (.seq (.reg (.run ⟨some 33, none, .pur .mov [.tmp 1]⟩ (.run ⟨some 34, none, .pur .mov [.tmp 1]⟩ (.run ⟨some 35, none, .pur .mov [.tmp 2]⟩ (.run ⟨some 36, none, .pur (.fla 2) [.tmp 7]⟩ (.run ⟨some 37, none, .ld none (.tmp 36)⟩ (.run ⟨some 38, none, .pur .nilc [.tmp 33]⟩ (.run ⟨some 39, none, .pur (.fla 2) [.tmp 38]⟩ (.eff ⟨none, none, .eff (.st 1) [.tmp 39, .tmp 35]⟩ [⟨some 37, none, .ld none (.tmp 36)⟩] (.run ⟨some 40, none, .pur .nilc [.tmp 34]⟩ (.run ⟨some 41, none, .pur (.fla 13) [.tmp 40]⟩ (.eff ⟨none, none, .eff (.st 1) [.tmp 41, .tmp 37]⟩ [] .done))))))))))) [])
  (.seq (.reg (straight [⟨some 42, none, .pur (.fla 0) [.tmp 7]⟩, ⟨some 43, none, .ld none (.tmp 42)⟩, ⟨some 44, none, .pur (.bin .eql) [.tmp 43, .const (.int .i64 9)]⟩]) [44])
  (.cond (.tmp 44) (.reg (straight [⟨some 45, none, .pur .mov [.tmp 0]⟩, ⟨some 46, none, .pur (.fla 2) [.tmp 7]⟩, ⟨some 47, none, .ld none (.tmp 46)⟩, ⟨some 48, none, .eff (.call 88) [.tmp 45, .const (.int .i64 11), .tmp 47]⟩]) []) (.reg (straight [⟨some 49, none, .pur .mov [.tmp 0]⟩, ⟨some 50, none, .pur (.fla 2) [.tmp 7]⟩, ⟨some 51, none, .ld none (.tmp 50)⟩, ⟨some 52, none, .eff (.call 88) [.tmp 49, .const (.int .i64 12), .tmp 51]⟩]) [])))))))⟩
theorem K_serial_eval_goOn : compF Try.prog 91 = some S_serial_eval_goOn := by kernel_rfl

-- 92
def S_serial_eval_leave : Fun := ⟨44, [1, 5, 0, 13, 4], [],
  .seq (.block 0 (.seq (.reg (straight [⟨some 6, none, .pur .mov [.tmp 1]⟩, ⟨some 7, none, .pur .nilc [.tmp 6]⟩, ⟨some 8, none, .pur (.fla 0) [.tmp 7]⟩, ⟨some 9, none, .ld none (.tmp 8)⟩, ⟨some 10, none, .pur (.bin .neq) [.tmp 9, .const (.int .i64 2)]⟩, ⟨some 5, none, .pur .mov [.tmp 10]⟩]) [5])
  (.cond (.tmp 5) (.seq (.reg (straight [⟨some 11, none, .pur .mov [.tmp 0]⟩, ⟨some 12, none, .eff (.call 55) [.tmp 11, .const (.int .i64 4), .const (.int .i64 4)]⟩]) [])
  (.ret)) (.seq (.reg (straight [⟨some 14, none, .pur .mov [.tmp 1]⟩, ⟨some 15, none, .pur .nilc [.tmp 14]⟩, ⟨some 16, none, .pur (.fla 13) [.tmp 15]⟩, ⟨some 17, none, .ld none (.tmp 16)⟩, ⟨some 18, none, .pur (.bin .neq) [.tmp 17, .const (.int .i64 0)]⟩, ⟨some 13, none, .pur .mov [.tmp 18]⟩]) [13])
  (.cond (.tmp 13) (.seq (.reg (straight [⟨some 19, none, .pur .mov [.tmp 0]⟩, ⟨some 20, none, .eff (.call 55) [.tmp 19, .const (.int .i64 4), .const (.int .i64 5)]⟩]) [])
  (.ret)) (.skip))))))
  (.seq (.reg (straight [⟨some 21, none, .pur .mov [.tmp 0]⟩, ⟨some 22, none, .pur .mov [.tmp 1]⟩, ⟨some 23, none, .eff (.call 118) [.tmp 21, .tmp 22]⟩]) [])
  (.seq (.reg (straight [⟨some 24, none, .pur .mov [.tmp 0]⟩, ⟨some 25, none, .pur .mov [.tmp 1]⟩, ⟨some 26, none, .pur .nilc [.tmp 25]⟩, ⟨some 27, none, .pur (.fla 12) [.tmp 26]⟩, ⟨some 28, none, .ld none (.tmp 27)⟩, ⟨some 29, none, .eff (.call 88) [.tmp 24, .const (.int .i64 10), .tmp 28]⟩]) [])
  (.seq (.reg (straight [⟨some 30, none, .pur .mov [.tmp 0]⟩, ⟨some 31, none, .eff (.call 119) [.tmp 30]⟩]) [])
  (.seq (.reg (straight [⟨some 32, none, .pur .mov [.tmp 0]⟩, ⟨some 33, none, .eff (.call 119) [.tmp 32]⟩, ⟨some 4, none, .eff (.new 135 [.int .i64 0, .int .i64 0, .int .i64 0, .int .i64 0, .int .i64 0, .int .i64 0, .int .i64 0, .int .i64 0, .int .i64 0, .int .i64 0, .int .i64 0, .bool false, .int .i64 0, .int .i64 0, .int .i64 0]) []⟩, ⟨none, none, .eff (.st 15) [.tmp 4, .tmp 33]⟩]) [4])
  (.seq (.reg (straight [⟨some 34, none, .pur .mov [.tmp 0]⟩, ⟨some 35, none, .pur (.fla 14) [.tmp 4]⟩, ⟨some 36, none, .ld none (.tmp 35)⟩, ⟨some 37, none, .eff (.call 88) [.tmp 34, .const (.int .i64 8), .tmp 36]⟩]) [])
  (.reg (.run ⟨some 38, none, .pur .mov [.tmp 0]⟩ (.run ⟨some 40, none, .pur (.fla 3) [.tmp 4]⟩ (.run ⟨some 41, none, .ld (some 8) (.tmp 40)⟩ (.eff ⟨some 39, none, .eff (.call 85) [.tmp 38]⟩ [⟨some 41, none, .ld (some 8) (.tmp 40)⟩] (.run ⟨some 42, none, .pur .nilc [.tmp 39]⟩ (.run ⟨some 43, none, .pur (.fla 3) [.tmp 42]⟩ (.eff ⟨none, none, .eff (.st 8) [.tmp 43, .tmp 41]⟩ [] .done))))))) []))))))⟩
theorem K_serial_eval_leave : compF Try.prog 92 = some S_serial_eval_leave := by kernel_rfl

-- 93
def S_serial_eval_back : Fun := ⟨36, [1, 8, 0, 27], [],
  .block 0 (.seq (.reg (straight [⟨some 9, none, .pur .mov [.tmp 1]⟩, ⟨some 10, none, .pur .nilc [.tmp 9]⟩, ⟨some 11, none, .pur (.fla 0) [.tmp 10]⟩, ⟨some 12, none, .ld none (.tmp 11)⟩, ⟨some 13, none, .pur (.bin .eql) [.tmp 12, .const (.int .i64 2)]⟩, ⟨some 8, none, .pur .mov [.tmp 13]⟩]) [8])
  (.cond (.tmp 8) (.seq (.reg (straight [⟨some 14, none, .pur .mov [.tmp 0]⟩, ⟨some 15, none, .pur .mov [.tmp 1]⟩, ⟨some 16, none, .eff (.call 118) [.tmp 14, .tmp 15]⟩]) [])
  (.seq (.reg (straight [⟨some 17, none, .pur .mov [.tmp 0]⟩, ⟨some 18, none, .pur .mov [.tmp 1]⟩, ⟨some 19, none, .pur .nilc [.tmp 18]⟩, ⟨some 20, none, .pur (.fla 12) [.tmp 19]⟩, ⟨some 21, none, .ld none (.tmp 20)⟩, ⟨some 22, none, .eff (.call 88) [.tmp 17, .const (.int .i64 10), .tmp 21]⟩]) [])
  (.seq (.reg (straight [⟨some 23, none, .pur .mov [.tmp 0]⟩, ⟨some 24, none, .eff (.call 119) [.tmp 23]⟩]) [])
  (.reg (straight [⟨some 25, none, .pur .mov [.tmp 0]⟩, ⟨some 26, none, .eff (.call 120) [.tmp 25]⟩]) [])))) (.seq (.reg (straight [⟨some 28, none, .pur .mov [.tmp 0]⟩, ⟨some 29, none, .pur .nilc [.tmp 28]⟩, ⟨some 30, none, .pur (.fla 2) [.tmp 29]⟩, ⟨some 31, none, .ld none (.tmp 30)⟩, ⟨some 32, none, .pur (.len false) [.tmp 31]⟩, ⟨some 33, none, .pur (.bin .eql) [.tmp 32, .const (.int .i64 1)]⟩, ⟨some 27, none, .pur .mov [.tmp 33]⟩]) [27])
  (.cond (.tmp 27) (.reg (straight [⟨some 34, none, .pur .mov [.tmp 0]⟩, ⟨some 35, none, .eff (.call 55) [.tmp 34, .const (.int .i64 1), .const (.int .i64 0)]⟩]) []) (.seq (.reg (straight [⟨some 4, none, .pur .mov [.tmp 0]⟩, ⟨some 5, none, .eff (.call 88) [.tmp 4, .const (.int .i64 5), .const (.int .i64 0)]⟩]) [])
  (.reg (straight [⟨some 6, none, .pur .mov [.tmp 0]⟩, ⟨some 7, none, .eff (.call 119) [.tmp 6]⟩]) []))))))⟩
theorem K_serial_eval_back : compF Try.prog 93 = some S_serial_eval_back := by kernel_rfl

-- 94
def S_serial_eval_begins : Fun := ⟨73, [2, 5, 7, 8, 0, 27, 1, 43], [],
  .seq (.reg (straight [⟨some 5, none, .eff (.box 173) [.tmp 2]⟩]) [5])
  (.seq (.reg (straight [⟨some 6, none, .pur (.fla 0) [.tmp 5]⟩, ⟨some 7, none, .ld none (.tmp 6)⟩]) [7])
  (.block 0 (.seq (.reg (straight [⟨some 9, none, .pur (.bin .eql) [.tmp 7, .const (.int .i64 5)]⟩, ⟨some 8, none, .pur .mov [.tmp 9]⟩]) [8])
  (.cond (.tmp 8) (.seq (.reg (.run ⟨some 10, none, .pur .mov [.tmp 0]⟩ (.run ⟨some 11, none, .pur .mov [.tmp 0]⟩ (.run ⟨some 12, none, .pur .nilc [.tmp 11]⟩ (.run ⟨some 13, none, .pur (.fla 6) [.tmp 12]⟩ (.run ⟨some 14, none, .pur (.fla 2) [.tmp 13]⟩ (.run ⟨some 15, none, .ld none (.tmp 14)⟩ (.run ⟨some 16, none, .pur (.fla 2) [.tmp 5]⟩ (.run ⟨some 17, none, .ld none (.tmp 16)⟩ (.eff ⟨some 18, none, .eff (.bsl 3 1) [.tmp 17]⟩ [⟨some 15, none, .ld none (.tmp 14)⟩] (.eff ⟨some 19, none, .eff (.app 3 1 8 [.int .i64 0]) [.tmp 15, .tmp 18]⟩ [] (.run ⟨some 20, none, .pur .nilc [.tmp 10]⟩ (.run ⟨some 21, none, .pur (.fla 6) [.tmp 20]⟩ (.run ⟨some 22, none, .pur (.fla 2) [.tmp 21]⟩ (.eff ⟨none, none, .eff (.st 1) [.tmp 22, .tmp 19]⟩ [] .done)))))))))))))) [])
  (.reg (straight [⟨some 23, none, .pur .mov [.tmp 0]⟩, ⟨some 24, none, .pur (.fla 2) [.tmp 5]⟩, ⟨some 25, none, .ld none (.tmp 24)⟩, ⟨some 26, none, .eff (.call 88) [.tmp 23, .const (.int .i64 3), .tmp 25]⟩]) [])) (.seq (.reg (straight [⟨some 28, none, .pur (.bin .eql) [.tmp 7, .const (.int .i64 6)]⟩, ⟨some 27, none, .pur .mov [.tmp 28]⟩]) [27])
  (.cond (.tmp 27) (.seq (.reg (straight [⟨some 29, none, .pur .mov [.tmp 1]⟩, ⟨some 30, none, .pur .nilc [.tmp 29]⟩, ⟨some 31, none, .pur (.fla 11) [.tmp 30]⟩, ⟨none, none, .eff (.st 1) [.tmp 31, .const (.bool true)]⟩]) [])
  (.seq (.reg (straight [⟨some 32, none, .pur .mov [.tmp 0]⟩, ⟨some 33, none, .eff (.call 88) [.tmp 32, .const (.int .i64 4), .const (.int .i64 0)]⟩]) [])
  (.reg (.run ⟨some 34, none, .pur .mov [.tmp 0]⟩ (.run ⟨some 35, none, .pur (.fla 2) [.tmp 5]⟩ (.run ⟨some 36, none, .ld none (.tmp 35)⟩ (.run ⟨some 37, none, .pur .mov [.tmp 1]⟩ (.run ⟨some 38, none, .pur .nilc [.tmp 37]⟩ (.run ⟨some 39, none, .pur (.fla 3) [.tmp 38]⟩ (.run ⟨some 40, none, .ld (some 8) (.tmp 39)⟩ (.run ⟨some 41, none, .pur (.bld [.int .i64 0, .int .i64 0, .int .i64 0, .int .i64 0, .int .i64 0, .int .i64 0, .int .i64 0, .int .i64 0, .int .i64 0, .int .i64 0, .int .i64 0, .bool false, .int .i64 0, .int .i64 0, .int .i64 0] [(0, 1), (1, 1), (3, 8)]) [.const (.int .i64 1), .tmp 36, .tmp 40]⟩ (.eff ⟨some 42, none, .eff (.call 53) [.tmp 34, .tmp 41]⟩ [] .done))))))))) []))) (.seq (.reg (straight [⟨some 44, none, .pur (.bin .eql) [.tmp 7, .const (.int .i64 8)]⟩, ⟨some 43, none, .pur .mov [.tmp 44]⟩]) [43])
  (.cond (.tmp 43) (.seq (.reg (straight [⟨some 45, none, .pur .mov [.tmp 0]⟩, ⟨some 46, none, .pur .nilc [.tmp 45]⟩, ⟨some 47, none, .pur (.fla 5) [.tmp 46]⟩, ⟨some 48, none, .ld none (.tmp 47)⟩, ⟨some 49, none, .pur (.bin .add) [.tmp 48, .const (.int .i64 1)]⟩, ⟨some 50, none, .pur .nilc [.tmp 45]⟩, ⟨some 51, none, .pur (.fla 5) [.tmp 50]⟩, ⟨none, none, .eff (.st 1) [.tmp 51, .tmp 49]⟩]) [])
  (.seq (.reg (straight [⟨some 52, none, .pur .mov [.tmp 0]⟩, ⟨some 53, none, .pur .mov [.tmp 0]⟩, ⟨some 54, none, .pur .nilc [.tmp 53]⟩, ⟨some 55, none, .pur (.fla 5) [.tmp 54]⟩, ⟨some 56, none, .ld none (.tmp 55)⟩, ⟨some 57, none, .eff (.call 88) [.tmp 52, .const (.int .i64 7), .tmp 56]⟩]) [])
  (.seq (.reg (.run ⟨some 58, none, .pur .mov [.tmp 0]⟩ (.run ⟨some 59, none, .pur (.fla 2) [.tmp 5]⟩ (.run ⟨some 60, none, .ld none (.tmp 59)⟩ (.run ⟨some 61, none, .pur .mov [.tmp 1]⟩ (.run ⟨some 62, none, .pur .nilc [.tmp 61]⟩ (.run ⟨some 63, none, .pur (.fla 3) [.tmp 62]⟩ (.run ⟨some 64, none, .ld (some 8) (.tmp 63)⟩ (.run ⟨some 65, none, .pur .mov [.tmp 0]⟩ (.run ⟨some 66, none, .pur .nilc [.tmp 65]⟩ (.run ⟨some 67, none, .pur (.fla 5) [.tmp 66]⟩ (.run ⟨some 68, none, .ld none (.tmp 67)⟩ (.run ⟨some 69, none, .pur (.bld [.int .i64 0, .int .i64 0, .int .i64 0, .int .i64 0, .int .i64 0, .int .i64 0, .int .i64 0, .int .i64 0, .int .i64 0, .int .i64 0, .int .i64 0, .bool false, .int .i64 0, .int .i64 0, .int .i64 0] [(0, 1), (1, 1), (3, 8), (14, 1)]) [.const (.int .i64 3), .tmp 60, .tmp 64, .tmp 68]⟩ (.eff ⟨some 70, none, .eff (.call 53) [.tmp 58, .tmp 69]⟩ [] .done))))))))))))) [])
  (.reg (straight [⟨some 71, none, .pur .mov [.tmp 0]⟩, ⟨some 72, none, .eff (.call 120) [.tmp 71]⟩]) [])))) (.skip)))))))))⟩
theorem K_serial_eval_begins : compF Try.prog 94 = some S_serial_eval_begins := by kernel_rfl

-- 95
def S_slices_Clone_int_int : Fun := ⟨8, [2, 0, 4], [.tmp 2],
  .seq (.reg (straight [⟨some 2, none, .pur .mov [.const (.slice none 0 0)]⟩]) [2])
  (.seq (.seq (.reg (straight [⟨some 3, none, .pur .mov [.tmp 0]⟩, ⟨some 4, none, .pur (.eqn false 1) [.tmp 3]⟩]) [4])
  (.cond (.tmp 4) (.seq (.reg (straight [⟨some 2, none, .pur .mov [.const (.slice none 0 0)]⟩]) [2])
  (.ret)) (.skip)))
  (.seq (.reg (straight [⟨some 5, none, .eff (.bsl 3 1) []⟩, ⟨some 6, none, .pur .mov [.tmp 0]⟩, ⟨some 7, none, .eff (.app 3 1 8 [.int .i64 0]) [.tmp 5, .tmp 6]⟩, ⟨some 2, none, .pur .mov [.tmp 7]⟩]) [2])
  (.ret)))⟩
theorem K_slices_Clone_int_int : compF Try.prog 95 = some S_slices_Clone_int_int := by kernel_rfl

-- 97
def S_prog_many : Fun := ⟨12, [4, 0, 5, 1, 8], [.tmp 4],
  .seq (.reg (straight [⟨some 4, none, .pur .mov [.const (.int .i64 0)]⟩]) [4])
  (.seq (.block 0 (.seq (.reg (straight [⟨some 6, none, .pur .mov [.tmp 0]⟩, ⟨some 7, none, .pur (.bin .eql) [.tmp 6, .const (.int .i64 0)]⟩, ⟨some 5, none, .pur .mov [.tmp 7]⟩]) [5])
  (.cond (.tmp 5) (.seq (.reg (straight [⟨some 4, none, .pur .mov [.const (.int .i64 7)]⟩]) [4])
  (.ret)) (.seq (.reg (straight [⟨some 9, none, .pur .mov [.tmp 0]⟩, ⟨some 10, none, .pur .mov [.tmp 1]⟩, ⟨some 11, none, .pur (.bin .gtr) [.tmp 9, .tmp 10]⟩, ⟨some 8, none, .pur .mov [.tmp 11]⟩]) [8])
  (.cond (.tmp 8) (.seq (.reg (straight [⟨some 4, none, .pur .mov [.const (.int .i64 9)]⟩]) [4])
  (.ret)) (.skip))))))
  (.seq (.reg (straight [⟨some 4, none, .pur .mov [.const (.int .i64 0)]⟩]) [4])
  (.ret)))⟩
theorem K_prog_many : compF Try.prog 97 = some S_prog_many := by kernel_rfl

-- 98
def S_ins_Check_L1 : SCode :=
  .seq (.reg (straight [⟨some 24, none, .pur (.bin .lss) [.tmp 23, .tmp 22]⟩]) [24])
  (.seq (.cond (.tmp 24) (.skip) (.exit 0))
  (.seq (.block 1 (.seq (.reg (straight [⟨some 25, none, .pur .mov [.tmp 23]⟩, ⟨some 5, none, .pur .mov [.tmp 25]⟩]) [5])
  (.seq (.reg (.run ⟨some 26, none, .pur .mov [.tmp 3]⟩ (.run ⟨some 27, none, .pur .mov [.tmp 5]⟩ (.run ⟨some 28, none, .pur .ixs [.tmp 26, .tmp 27]⟩ (.run ⟨some 29, none, .pur .mov [.tmp 5]⟩ (.run ⟨some 30, none, .pur (.ixaA 3 1) [.tmp 4, .tmp 29]⟩ (.run ⟨some 31, none, .ld none (.tmp 30)⟩ (.eff ⟨some 32, none, .eff (.call 123) [.tmp 28, .tmp 31]⟩ [] (.run ⟨some 33, none, .pur .not [.tmp 32]⟩ .done)))))))) [33])
  (.cond (.tmp 33) (.seq (.reg (straight [⟨some 2, none, .pur .mov [.const (.int .i64 3)]⟩]) [2])
  (.ret)) (.skip)))))
  (.reg (straight [⟨some 34, none, .pur (.bin .add) [.tmp 23, .const (.int .i64 1)]⟩, ⟨some 23, none, .pur .mov [.tmp 34]⟩]) [23])))
def S_ins_Check_L2 : SCode :=
  .seq (.reg (straight [⟨some 40, none, .pur (.bin .lss) [.tmp 39, .tmp 38]⟩]) [40])
  (.seq (.cond (.tmp 40) (.skip) (.exit 2))
  (.seq (.block 3 (.seq (.reg (straight [⟨some 41, none, .pur (.ixa 1) [.tmp 37, .tmp 39]⟩, ⟨some 42, none, .ld none (.tmp 41)⟩, ⟨some 7, none, .pur .mov [.tmp 42]⟩]) [7])
  (.seq (.reg (straight [⟨some 43, none, .pur .mov [.tmp 7]⟩, ⟨some 44, none, .pur (.bin .neq) [.tmp 43, .const (.int .i64 0)]⟩]) [44])
  (.cond (.tmp 44) (.seq (.reg (straight [⟨some 2, none, .pur .mov [.const (.int .i64 4)]⟩]) [2])
  (.ret)) (.skip)))))
  (.reg (straight [⟨some 45, none, .pur (.bin .add) [.tmp 39, .const (.int .i64 1)]⟩, ⟨some 39, none, .pur .mov [.tmp 45]⟩]) [39])))
def S_ins_Check : Fun := ⟨46, [2, 0, 1, 15, 3, 23, 22, 24, 5, 4, 33, 39, 38, 40, 37, 7, 44], [.tmp 2],
  .seq (.reg (straight [⟨some 1, none, .eff (.box 78) [.tmp 0]⟩, ⟨some 2, none, .pur .mov [.const (.int .i64 0)]⟩]) [1, 2])
  (.seq (.seq (.reg (straight [⟨some 8, none, .pur (.fla 0) [.tmp 1]⟩, ⟨some 9, none, .ld none (.tmp 8)⟩, ⟨some 10, none, .pur (.bin .lss) [.tmp 9, .const (.int .i64 0)]⟩, ⟨some 11, none, .pur .mov [.tmp 10]⟩, ⟨some 12, some (11, false), .pur (.fla 0) [.tmp 1]⟩, ⟨some 13, some (11, false), .ld none (.tmp 12)⟩, ⟨some 14, some (11, false), .pur (.bin .geq) [.tmp 13, .const (.int .i64 26)]⟩, ⟨some 15, none, .pur .pick [.tmp 11, .const (.bool true), .tmp 14]⟩]) [15])
  (.cond (.tmp 15) (.seq (.reg (straight [⟨some 2, none, .pur .mov [.const (.int .i64 5)]⟩]) [2])
  (.ret)) (.skip)))
  (.seq (.reg (.run ⟨some 16, none, .pur (.fla 0) [.tmp 1]⟩ (.run ⟨some 17, none, .ld none (.tmp 16)⟩ (.run ⟨some 19, none, .ld (some 4) (.tmp 1)⟩ (.both (.eff ⟨some 18, none, .eff (.call 121) [.tmp 17]⟩ [⟨some 19, none, .ld (some 4) (.tmp 1)⟩] (.both (.eff ⟨some 20, none, .eff (.call 122) [.tmp 19]⟩ [] (.eff ⟨some 4, none, .eff (.new 202 [.int .i64 0, .int .i64 0, .int .i64 0]) []⟩ [] (.run ⟨some 3, none, .pur .mov [.tmp 18]⟩ (.eff ⟨none, none, .eff (.st 3) [.tmp 4, .tmp 20]⟩ [] .done)))) (.eff ⟨some 4, none, .eff (.new 202 [.int .i64 0, .int .i64 0, .int .i64 0]) []⟩ [⟨some 19, none, .ld (some 4) (.tmp 1)⟩] (.eff ⟨some 20, none, .eff (.call 122) [.tmp 19]⟩ [] (.run ⟨some 3, none, .pur .mov [.tmp 18]⟩ (.eff ⟨none, none, .eff (.st 3) [.tmp 4, .tmp 20]⟩ [] .done)))))) (.eff ⟨some 4, none, .eff (.new 202 [.int .i64 0, .int .i64 0, .int .i64 0]) []⟩ [⟨some 19, none, .ld (some 4) (.tmp 1)⟩, ⟨some 17, none, .ld none (.tmp 16)⟩] (.eff ⟨some 18, none, .eff (.call 121) [.tmp 17]⟩ [⟨some 19, none, .ld (some 4) (.tmp 1)⟩] (.eff ⟨some 20, none, .eff (.call 122) [.tmp 19]⟩ [] (.run ⟨some 3, none, .pur .mov [.tmp 18]⟩ (.eff ⟨none, none, .eff (.st 3) [.tmp 4, .tmp 20]⟩ [] .done))))))))) [4, 3])
  (.seq (.seq (.reg (straight [⟨some 21, none, .pur .mov [.tmp 3]⟩, ⟨some 22, none, .pur (.len true) [.tmp 21]⟩, ⟨some 23, none, .pur .mov [.const (.int .i64 0)]⟩]) [22, 23])
  (.block 0 (.loop S_ins_Check_L1)))
  (.seq (.seq (.reg (straight [⟨some 35, none, .pur .mov [.tmp 3]⟩, ⟨some 36, none, .pur (.len true) [.tmp 35]⟩, ⟨some 37, none, .pur (.slcA 3 1 true false) [.tmp 4, .tmp 36]⟩, ⟨some 38, none, .pur (.len false) [.tmp 37]⟩, ⟨some 39, none, .pur .mov [.const (.int .i64 0)]⟩]) [37, 38, 39])
  (.block 2 (.loop S_ins_Check_L2)))
  (.seq (.reg (straight [⟨some 2, none, .pur .mov [.const (.int .i64 0)]⟩]) [2])
  (.ret))))))⟩
theorem K_ins_Check : compF Try.prog 98 = some S_ins_Check := by kernel_rfl

-- 99
def S_prog_leads : Fun := ⟨28, [6, 0, 3, 8, 9, 1, 15, 21, 2], [.tmp 6],
  .seq (.reg (straight [⟨some 3, none, .eff (.box 78) [.tmp 0]⟩, ⟨some 6, none, .pur .mov [.const (.bool false)]⟩]) [3, 6])
  (.seq (.seq (.reg (straight [⟨some 7, none, .pur (.fla 0) [.tmp 3]⟩, ⟨some 8, none, .ld none (.tmp 7)⟩]) [8])
  (.block 0 (.seq (.reg (straight [⟨some 10, none, .pur (.bin .eql) [.tmp 8, .const (.int .i64 18)]⟩, ⟨some 9, none, .pur .mov [.tmp 10]⟩]) [9])
  (.cond (.tmp 9) (.seq (.reg (straight [⟨some 11, none, .pur (.fla 1) [.tmp 3]⟩, ⟨some 12, none, .ld none (.tmp 11)⟩, ⟨some 13, none, .pur .mov [.tmp 1]⟩, ⟨some 14, none, .pur (.bin .lss) [.tmp 12, .tmp 13]⟩, ⟨some 6, none, .pur .mov [.tmp 14]⟩]) [6])
  (.ret)) (.seq (.reg (straight [⟨some 16, none, .pur (.bin .eql) [.tmp 8, .const (.int .i64 19)]⟩, ⟨some 15, none, .pur .mov [.tmp 16]⟩]) [15])
  (.cond (.tmp 15) (.seq (.reg (straight [⟨some 17, none, .pur (.fla 2) [.tmp 3]⟩, ⟨some 18, none, .ld none (.tmp 17)⟩, ⟨some 19, none, .pur .mov [.tmp 1]⟩, ⟨some 20, none, .pur (.bin .lss) [.tmp 18, .tmp 19]⟩, ⟨some 6, none, .pur .mov [.tmp 20]⟩]) [6])
  (.ret)) (.seq (.seq (.reg (straight [⟨some 22, none, .pur (.bin .eql) [.tmp 8, .const (.int .i64 20)]⟩, ⟨some 21, none, .pur .mov [.tmp 22]⟩]) [21])
  (.cond (.tmp 21) (.skip) (.reg (straight [⟨some 23, none, .pur (.bin .eql) [.tmp 8, .const (.int .i64 22)]⟩, ⟨some 21, none, .pur .mov [.tmp 23]⟩]) [21])))
  (.cond (.tmp 21) (.seq (.reg (straight [⟨some 24, none, .pur (.fla 1) [.tmp 3]⟩, ⟨some 25, none, .ld none (.tmp 24)⟩, ⟨some 26, none, .pur .mov [.tmp 2]⟩, ⟨some 27, none, .pur (.bin .lss) [.tmp 25, .tmp 26]⟩, ⟨some 6, none, .pur .mov [.tmp 27]⟩]) [6])
  (.ret)) (.skip)))))))))
  (.seq (.reg (straight [⟨some 6, none, .pur .mov [.const (.bool true)]⟩]) [6])
  (.ret)))⟩
theorem K_prog_leads : compF Try.prog 99 = some S_prog_leads := by kernel_rfl

-- 107
def S_store_Store_Size : Fun := ⟨10, [2, 0, 4], [.tmp 2],
  .seq (.reg (straight [⟨some 2, none, .pur .mov [.const (.int .i64 0)]⟩]) [2])
  (.seq (.seq (.reg (straight [⟨some 3, none, .pur .mov [.tmp 0]⟩, ⟨some 4, none, .pur (.eqn false 0) [.tmp 3]⟩]) [4])
  (.cond (.tmp 4) (.seq (.reg (straight [⟨some 2, none, .pur .mov [.const (.int .i64 0)]⟩]) [2])
  (.ret)) (.skip)))
  (.seq (.reg (straight [⟨some 5, none, .pur .mov [.tmp 0]⟩, ⟨some 6, none, .pur .nilc [.tmp 5]⟩, ⟨some 7, none, .pur (.fla 0) [.tmp 6]⟩, ⟨some 8, none, .ld none (.tmp 7)⟩, ⟨some 9, none, .pur (.len false) [.tmp 8]⟩, ⟨some 2, none, .pur .mov [.tmp 9]⟩]) [2])
  (.ret)))⟩
theorem K_store_Store_Size : compF Try.prog 107 = some S_store_Store_Size := by kernel_rfl

-- 108
def S_step_held : Fun := ⟨6, [2, 0], [.tmp 2],
  .seq (.reg (straight [⟨some 2, none, .pur .mov [.const (.int .i64 0)]⟩]) [2])
  (.seq (.reg (straight [⟨some 3, none, .pur .mov [.tmp 0]⟩, ⟨some 4, none, .pur (.minmax true) [.tmp 3, .const (.int .i64 0)]⟩, ⟨some 5, none, .pur (.minmax false) [.tmp 4, .const (.int .i64 7)]⟩, ⟨some 2, none, .pur .mov [.tmp 5]⟩]) [2])
  (.ret))⟩
theorem K_step_held : compF Try.prog 108 = some S_step_held := by kernel_rfl

-- 109
def S_step_file_at : Fun := ⟨9, [4, 0, 1, 2], [.tmp 4],
  .seq (.reg (straight [⟨some 2, none, .eff (.box 193) [.tmp 0]⟩, ⟨some 4, none, .pur .mov [.const (.int .i64 0)]⟩]) [2, 4])
  (.seq (.reg (straight [⟨some 5, none, .pur .mov [.tmp 1]⟩, ⟨some 6, none, .eff (.call 108) [.tmp 5]⟩, ⟨some 7, none, .pur (.ixaA 8 1) [.tmp 2, .tmp 6]⟩, ⟨some 8, none, .ld none (.tmp 7)⟩, ⟨some 4, none, .pur .mov [.tmp 8]⟩]) [4])
  (.ret))⟩
theorem K_step_file_at : compF Try.prog 109 = some S_step_file_at := by kernel_rfl

-- 110
def S_wrap_Known : Fun := ⟨9, [2, 0], [.tmp 2],
  .seq (.reg (straight [⟨some 2, none, .pur .mov [.const (.bool false)]⟩]) [2])
  (.seq (.reg (straight [⟨some 3, none, .pur .mov [.tmp 0]⟩, ⟨some 4, none, .pur (.bin .geq) [.tmp 3, .const (.int .i64 3)]⟩, ⟨some 5, none, .pur .mov [.tmp 4]⟩, ⟨some 6, some (5, true), .pur .mov [.tmp 0]⟩, ⟨some 7, some (5, true), .pur (.bin .leq) [.tmp 6, .const (.int .i64 12)]⟩, ⟨some 8, none, .pur .pick [.tmp 5, .tmp 7, .const (.bool false)]⟩, ⟨some 2, none, .pur .mov [.tmp 8]⟩]) [2])
  (.ret))⟩
theorem K_wrap_Known : compF Try.prog 110 = some S_wrap_Known := by kernel_rfl

-- 111
def S_wrap_Do : Fun := ⟨61, [6, 7, 0, 8, 9, 1, 2, 14, 19, 24, 33, 39, 45, 50, 55], [.tmp 6, .tmp 7],
  .seq (.reg (straight [⟨some 6, none, .pur .mov [.const (.int .i64 0)]⟩, ⟨some 7, none, .pur .mov [.const (.int .i64 0)]⟩]) [6, 7])
  (.seq (.seq (.reg (straight [⟨some 8, none, .pur .mov [.tmp 0]⟩]) [8])
  (.block 0 (.seq (.reg (straight [⟨some 10, none, .pur (.bin .eql) [.tmp 8, .const (.int .i64 3)]⟩, ⟨some 9, none, .pur .mov [.tmp 10]⟩]) [9])
  (.cond (.tmp 9) (.reg (straight [⟨some 11, none, .pur .mov [.tmp 1]⟩, ⟨some 12, none, .pur .mov [.tmp 2]⟩, ⟨some 13, none, .pur (.bin .add) [.tmp 11, .tmp 12]⟩, ⟨some 1, none, .pur .mov [.tmp 13]⟩]) [1]) (.seq (.reg (straight [⟨some 15, none, .pur (.bin .eql) [.tmp 8, .const (.int .i64 4)]⟩, ⟨some 14, none, .pur .mov [.tmp 15]⟩]) [14])
  (.cond (.tmp 14) (.reg (straight [⟨some 16, none, .pur .mov [.tmp 1]⟩, ⟨some 17, none, .pur .mov [.tmp 2]⟩, ⟨some 18, none, .pur (.bin .sub) [.tmp 16, .tmp 17]⟩, ⟨some 1, none, .pur .mov [.tmp 18]⟩]) [1]) (.seq (.reg (straight [⟨some 20, none, .pur (.bin .eql) [.tmp 8, .const (.int .i64 5)]⟩, ⟨some 19, none, .pur .mov [.tmp 20]⟩]) [19])
  (.cond (.tmp 19) (.reg (straight [⟨some 21, none, .pur .mov [.tmp 1]⟩, ⟨some 22, none, .pur .mov [.tmp 2]⟩, ⟨some 23, none, .pur (.bin .mul) [.tmp 21, .tmp 22]⟩, ⟨some 1, none, .pur .mov [.tmp 23]⟩]) [1]) (.seq (.seq (.reg (straight [⟨some 25, none, .pur (.bin .eql) [.tmp 8, .const (.int .i64 6)]⟩, ⟨some 24, none, .pur .mov [.tmp 25]⟩]) [24])
  (.cond (.tmp 24) (.skip) (.reg (straight [⟨some 26, none, .pur (.bin .eql) [.tmp 8, .const (.int .i64 7)]⟩, ⟨some 24, none, .pur .mov [.tmp 26]⟩]) [24])))
  (.cond (.tmp 24) (.seq (.reg (straight [⟨some 27, none, .pur .mov [.tmp 0]⟩, ⟨some 28, none, .pur .mov [.tmp 1]⟩, ⟨some 29, none, .pur .mov [.tmp 2]⟩, ⟨some 30, none, .eff (.call 131) [.tmp 27, .tmp 28, .tmp 29]⟩, ⟨some 31, none, .pur (.ext 0) [.tmp 30]⟩, ⟨some 32, none, .pur (.ext 1) [.tmp 30]⟩, ⟨some 6, none, .pur .mov [.tmp 31]⟩, ⟨some 7, none, .pur .mov [.tmp 32]⟩]) [6, 7])
  (.ret)) (.seq (.reg (straight [⟨some 34, none, .pur (.bin .eql) [.tmp 8, .const (.int .i64 8)]⟩, ⟨some 33, none, .pur .mov [.tmp 34]⟩]) [33])
  (.cond (.tmp 33) (.reg (straight [⟨some 35, none, .pur .mov [.tmp 1]⟩, ⟨some 36, none, .pur .mov [.tmp 2]⟩, ⟨some 37, none, .pur (.bin .lss) [.tmp 35, .tmp 36]⟩, ⟨some 38, none, .eff (.call 132) [.tmp 37]⟩, ⟨some 1, none, .pur .mov [.tmp 38]⟩]) [1]) (.seq (.reg (straight [⟨some 40, none, .pur (.bin .eql) [.tmp 8, .const (.int .i64 9)]⟩, ⟨some 39, none, .pur .mov [.tmp 40]⟩]) [39])
  (.cond (.tmp 39) (.reg (straight [⟨some 41, none, .pur .mov [.tmp 1]⟩, ⟨some 42, none, .pur .mov [.tmp 2]⟩, ⟨some 43, none, .pur (.bin .eql) [.tmp 41, .tmp 42]⟩, ⟨some 44, none, .eff (.call 132) [.tmp 43]⟩, ⟨some 1, none, .pur .mov [.tmp 44]⟩]) [1]) (.seq (.reg (straight [⟨some 46, none, .pur (.bin .eql) [.tmp 8, .const (.int .i64 10)]⟩, ⟨some 45, none, .pur .mov [.tmp 46]⟩]) [45])
  (.cond (.tmp 45) (.reg (straight [⟨some 47, none, .pur .mov [.tmp 1]⟩, ⟨some 48, none, .pur .mov [.tmp 2]⟩, ⟨some 49, none, .pur (.bin .and) [.tmp 47, .tmp 48]⟩, ⟨some 1, none, .pur .mov [.tmp 49]⟩]) [1]) (.seq (.reg (straight [⟨some 51, none, .pur (.bin .eql) [.tmp 8, .const (.int .i64 11)]⟩, ⟨some 50, none, .pur .mov [.tmp 51]⟩]) [50])
  (.cond (.tmp 50) (.reg (straight [⟨some 52, none, .pur .mov [.tmp 1]⟩, ⟨some 53, none, .pur .mov [.tmp 2]⟩, ⟨some 54, none, .pur (.bin .or) [.tmp 52, .tmp 53]⟩, ⟨some 1, none, .pur .mov [.tmp 54]⟩]) [1]) (.seq (.reg (straight [⟨some 56, none, .pur (.bin .eql) [.tmp 8, .const (.int .i64 12)]⟩, ⟨some 55, none, .pur .mov [.tmp 56]⟩]) [55])
  (.cond (.tmp 55) (.reg (straight [⟨some 57, none, .pur .mov [.tmp 1]⟩, ⟨some 58, none, .pur .mov [.tmp 2]⟩, ⟨some 59, none, .pur (.bin .xor) [.tmp 57, .tmp 58]⟩, ⟨some 1, none, .pur .mov [.tmp 59]⟩]) [1]) (.reg (straight [⟨some 1, none, .pur .mov [.const (.int .i64 0)]⟩]) [1])))))))))))))))))))))
  (.seq (.reg (straight [⟨some 60, none, .pur .mov [.tmp 1]⟩, ⟨some 6, none, .pur .mov [.tmp 60]⟩, ⟨some 7, none, .pur .mov [.const (.int .i64 0)]⟩]) [6, 7])
  (.ret)))⟩
theorem K_wrap_Do : compF Try.prog 111 = some S_wrap_Do := by kernel_rfl

-- 112
def S_step_of : Fun := ⟨83, [4, 0, 1, 3, 2, 21, 22, 6, 29, 5, 34, 7, 42, 51, 55, 60, 63, 68, 72, 76, 79], [.cell 4 (some 5)],
  .seq (.reg (straight [⟨some 2, none, .eff (.box 78) [.tmp 0]⟩, ⟨some 3, none, .eff (.box 193) [.tmp 1]⟩, ⟨some 4, none, .eff (.new 173 [.int .i64 0, .int .i64 0, .int .i64 0, .int .i64 0, .int .i64 0]) []⟩]) [2, 3, 4])
  (.seq (.reg (.run ⟨some 8, none, .ld (some 8) (.tmp 3)⟩ (.run ⟨some 9, none, .pur (.fla 1) [.tmp 2]⟩ (.run ⟨some 10, none, .ld none (.tmp 9)⟩ (.run ⟨some 12, none, .ld (some 8) (.tmp 3)⟩ (.run ⟨some 13, none, .pur (.fla 2) [.tmp 2]⟩ (.run ⟨some 14, none, .ld none (.tmp 13)⟩ (.run ⟨some 16, none, .ld (some 8) (.tmp 3)⟩ (.run ⟨some 17, none, .pur (.fla 3) [.tmp 2]⟩ (.run ⟨some 18, none, .ld none (.tmp 17)⟩ (.eff ⟨some 11, none, .eff (.call 109) [.tmp 8, .tmp 10]⟩ [⟨some 18, none, .ld none (.tmp 17)⟩, ⟨some 16, none, .ld (some 8) (.tmp 3)⟩, ⟨some 14, none, .ld none (.tmp 13)⟩, ⟨some 12, none, .ld (some 8) (.tmp 3)⟩] (.eff ⟨some 15, none, .eff (.call 109) [.tmp 12, .tmp 14]⟩ [⟨some 18, none, .ld none (.tmp 17)⟩, ⟨some 16, none, .ld (some 8) (.tmp 3)⟩] (.eff ⟨some 19, none, .eff (.call 109) [.tmp 16, .tmp 18]⟩ [] (.run ⟨some 5, none, .pur .mov [.tmp 11]⟩ (.run ⟨some 6, none, .pur .mov [.tmp 15]⟩ (.run ⟨some 7, none, .pur .mov [.tmp 19]⟩ .done))))))))))))))) [5, 6, 7])
  (.seq (.seq (.reg (straight [⟨some 20, none, .pur (.fla 0) [.tmp 2]⟩, ⟨some 21, none, .ld none (.tmp 20)⟩]) [21])
  (.block 0 (.seq (.reg (straight [⟨some 23, none, .pur (.bin .eql) [.tmp 21, .const (.int .i64 13)]⟩, ⟨some 22, none, .pur .mov [.tmp 23]⟩]) [22])
  (.cond (.tmp 22) (.seq (.reg (straight [⟨some 24, none, .pur .mov [.tmp 6]⟩, ⟨some 25, none, .pur (.fla 1) [.tmp 2]⟩, ⟨some 26, none, .ld none (.tmp 25)⟩, ⟨some 27, none, .eff (.call 108) [.tmp 26]⟩, ⟨some 28, none, .pur (.bld [.int .i64 0, .int .i64 0, .int .i64 0, .int .i64 0, .int .i64 0] [(0, 1), (1, 1), (4, 1)]) [.const (.int .i64 1), .tmp 24, .tmp 27]⟩, ⟨none, none, .eff (.st 5) [.tmp 4, .tmp 28]⟩]) [])
  (.ret)) (.seq (.reg (straight [⟨some 30, none, .pur (.bin .eql) [.tmp 21, .const (.int .i64 14)]⟩, ⟨some 29, none, .pur .mov [.tmp 30]⟩]) [29])
  (.cond (.tmp 29) (.seq (.reg (straight [⟨some 31, none, .pur .mov [.tmp 5]⟩, ⟨some 32, none, .pur .mov [.tmp 6]⟩, ⟨some 33, none, .pur (.bld [.int .i64 0, .int .i64 0, .int .i64 0, .int .i64 0, .int .i64 0] [(0, 1), (1, 1), (2, 1)]) [.const (.int .i64 2), .tmp 31, .tmp 32]⟩, ⟨none, none, .eff (.st 5) [.tmp 4, .tmp 33]⟩]) [])
  (.ret)) (.seq (.reg (straight [⟨some 35, none, .pur (.bin .eql) [.tmp 21, .const (.int .i64 15)]⟩, ⟨some 34, none, .pur .mov [.tmp 35]⟩]) [34])
  (.cond (.tmp 34) (.seq (.reg (straight [⟨some 36, none, .pur .mov [.tmp 6]⟩, ⟨some 37, none, .pur .mov [.tmp 7]⟩, ⟨some 38, none, .pur (.fla 1) [.tmp 2]⟩, ⟨some 39, none, .ld none (.tmp 38)⟩, ⟨some 40, none, .eff (.call 108) [.tmp 39]⟩, ⟨some 41, none, .pur (.bld [.int .i64 0, .int .i64 0, .int .i64 0, .int .i64 0, .int .i64 0] [(0, 1), (1, 1), (2, 1), (4, 1)]) [.const (.int .i64 3), .tmp 36, .tmp 37, .tmp 40]⟩, ⟨none, none, .eff (.st 5) [.tmp 4, .tmp 41]⟩]) [])
  (.ret)) (.seq (.reg (straight [⟨some 43, none, .pur (.bin .eql) [.tmp 21, .const (.int .i64 16)]⟩, ⟨some 42, none, .pur .mov [.tmp 43]⟩]) [42])
  (.cond (.tmp 42) (.seq (.reg (straight [⟨some 44, none, .pur .mov [.tmp 6]⟩, ⟨some 45, none, .pur .mov [.tmp 5]⟩, ⟨some 46, none, .pur .mov [.tmp 7]⟩, ⟨some 47, none, .pur (.fla 1) [.tmp 2]⟩, ⟨some 48, none, .ld none (.tmp 47)⟩, ⟨some 49, none, .eff (.call 108) [.tmp 48]⟩, ⟨some 50, none, .pur (.bld [.int .i64 0, .int .i64 0, .int .i64 0, .int .i64 0, .int .i64 0] [(0, 1), (1, 1), (2, 1), (3, 1), (4, 1)]) [.const (.int .i64 4), .tmp 44, .tmp 45, .tmp 46, .tmp 49]⟩, ⟨none, none, .eff (.st 5) [.tmp 4, .tmp 50]⟩]) [])
  (.ret)) (.seq (.reg (straight [⟨some 52, none, .pur (.bin .eql) [.tmp 21, .const (.int .i64 17)]⟩, ⟨some 51, none, .pur .mov [.tmp 52]⟩]) [51])
  (.cond (.tmp 51) (.seq (.reg (straight [⟨some 53, none, .pur .mov [.tmp 5]⟩, ⟨some 54, none, .pur (.bld [.int .i64 0, .int .i64 0, .int .i64 0, .int .i64 0, .int .i64 0] [(0, 1), (2, 1)]) [.const (.int .i64 5), .tmp 53]⟩, ⟨none, none, .eff (.st 5) [.tmp 4, .tmp 54]⟩]) [])
  (.ret)) (.seq (.reg (straight [⟨some 56, none, .pur (.bin .eql) [.tmp 21, .const (.int .i64 20)]⟩, ⟨some 55, none, .pur .mov [.tmp 56]⟩]) [55])
  (.cond (.tmp 55) (.seq (.reg (straight [⟨some 57, none, .pur (.fla 1) [.tmp 2]⟩, ⟨some 58, none, .ld none (.tmp 57)⟩, ⟨some 59, none, .pur (.bld [.int .i64 0, .int .i64 0, .int .i64 0, .int .i64 0, .int .i64 0] [(0, 1), (2, 1)]) [.const (.int .i64 6), .tmp 58]⟩, ⟨none, none, .eff (.st 5) [.tmp 4, .tmp 59]⟩]) [])
  (.ret)) (.seq (.reg (straight [⟨some 61, none, .pur (.bin .eql) [.tmp 21, .const (.int .i64 21)]⟩, ⟨some 60, none, .pur .mov [.tmp 61]⟩]) [60])
  (.cond (.tmp 60) (.seq (.reg (straight [⟨some 62, none, .pur (.bld [.int .i64 0, .int .i64 0, .int .i64 0, .int .i64 0, .int .i64 0] [(0, 1)]) [.const (.int .i64 7)]⟩, ⟨none, none, .eff (.st 5) [.tmp 4, .tmp 62]⟩]) [])
  (.ret)) (.seq (.reg (straight [⟨some 64, none, .pur (.bin .eql) [.tmp 21, .const (.int .i64 22)]⟩, ⟨some 63, none, .pur .mov [.tmp 64]⟩]) [63])
  (.cond (.tmp 63) (.seq (.reg (straight [⟨some 65, none, .pur (.fla 1) [.tmp 2]⟩, ⟨some 66, none, .ld none (.tmp 65)⟩, ⟨some 67, none, .pur (.bld [.int .i64 0, .int .i64 0, .int .i64 0, .int .i64 0, .int .i64 0] [(0, 1), (2, 1)]) [.const (.int .i64 8), .tmp 66]⟩, ⟨none, none, .eff (.st 5) [.tmp 4, .tmp 67]⟩]) [])
  (.ret)) (.seq (.reg (straight [⟨some 69, none, .pur (.bin .eql) [.tmp 21, .const (.int .i64 23)]⟩, ⟨some 68, none, .pur .mov [.tmp 69]⟩]) [68])
  (.cond (.tmp 68) (.seq (.reg (straight [⟨some 70, none, .pur .mov [.tmp 5]⟩, ⟨some 71, none, .pur (.bld [.int .i64 0, .int .i64 0, .int .i64 0, .int .i64 0, .int .i64 0] [(0, 1), (2, 1)]) [.const (.int .i64 9), .tmp 70]⟩, ⟨none, none, .eff (.st 5) [.tmp 4, .tmp 71]⟩]) [])
  (.ret)) (.seq (.reg (straight [⟨some 73, none, .pur (.bin .eql) [.tmp 21, .const (.int .i64 24)]⟩, ⟨some 72, none, .pur .mov [.tmp 73]⟩]) [72])
  (.cond (.tmp 72) (.seq (.reg (straight [⟨some 74, none, .pur .mov [.tmp 5]⟩, ⟨some 75, none, .pur (.bld [.int .i64 0, .int .i64 0, .int .i64 0, .int .i64 0, .int .i64 0] [(0, 1), (2, 1)]) [.const (.int .i64 10), .tmp 74]⟩, ⟨none, none, .eff (.st 5) [.tmp 4, .tmp 75]⟩]) [])
  (.ret)) (.seq (.reg (straight [⟨some 77, none, .pur (.bin .eql) [.tmp 21, .const (.int .i64 25)]⟩, ⟨some 76, none, .pur .mov [.tmp 77]⟩]) [76])
  (.cond (.tmp 76) (.seq (.reg (straight [⟨some 78, none, .pur (.bld [.int .i64 0, .int .i64 0, .int .i64 0, .int .i64 0, .int .i64 0] [(0, 1)]) [.const (.int .i64 11)]⟩, ⟨none, none, .eff (.st 5) [.tmp 4, .tmp 78]⟩]) [])
  (.ret)) (.seq (.reg (straight [⟨some 80, none, .pur (.bin .eql) [.tmp 21, .const (.int .i64 0)]⟩, ⟨some 79, none, .pur .mov [.tmp 80]⟩]) [79])
  (.cond (.tmp 79) (.seq (.reg (straight [⟨some 81, none, .pur (.bld [.int .i64 0, .int .i64 0, .int .i64 0, .int .i64 0, .int .i64 0] [(0, 1)]) [.const (.int .i64 12)]⟩, ⟨none, none, .eff (.st 5) [.tmp 4, .tmp 81]⟩]) [])
  (.ret)) (.skip)))))))))))))))))))))))))))
  (.seq (.reg (straight [⟨some 82, none, .pur (.bld [.int .i64 0, .int .i64 0, .int .i64 0, .int .i64 0, .int .i64 0] []) []⟩, ⟨none, none, .eff (.st 5) [.tmp 4, .tmp 82]⟩]) [])
  (.ret))))⟩
theorem K_step_of : compF Try.prog 112 = some S_step_of := by kernel_rfl

-- 113
def S_store_Store_Load : Fun := ⟨15, [4, 5, 0, 1, 6, 11], [.tmp 4, .tmp 5],
  .seq (.reg (straight [⟨some 4, none, .pur .mov [.const (.int .i64 0)]⟩, ⟨some 5, none, .pur .mov [.const (.bool false)]⟩]) [4, 5])
  (.seq (.reg (straight [⟨some 7, none, .pur .mov [.tmp 0]⟩, ⟨some 8, none, .pur .mov [.tmp 1]⟩, ⟨some 9, none, .eff (.call 84) [.tmp 7, .tmp 8, .const (.bool false)]⟩, ⟨some 6, none, .pur .mov [.tmp 9]⟩]) [6])
  (.seq (.seq (.reg (straight [⟨some 10, none, .pur .mov [.tmp 6]⟩, ⟨some 11, none, .pur (.eqn false 0) [.tmp 10]⟩]) [11])
  (.cond (.tmp 11) (.seq (.reg (straight [⟨some 4, none, .pur .mov [.const (.int .i64 0)]⟩, ⟨some 5, none, .pur .mov [.const (.bool false)]⟩]) [4, 5])
  (.ret)) (.skip)))
  (.seq (.reg (straight [⟨some 12, none, .pur .mov [.tmp 6]⟩, ⟨some 13, none, .pur .nilc [.tmp 12]⟩, ⟨some 14, none, .ld none (.tmp 13)⟩, ⟨some 4, none, .pur .mov [.tmp 14]⟩, ⟨some 5, none, .pur .mov [.const (.bool true)]⟩]) [4, 5])
  (.ret))))⟩
theorem K_store_Store_Load : compF Try.prog 113 = some S_store_Store_Load := by kernel_rfl

-- 114
def S_store_Store_Add : Fun := ⟨25, [6, 7, 0, 1, 8, 14, 2, 9], [.tmp 6, .tmp 7],
  .seq (.reg (straight [⟨some 6, none, .pur .mov [.const (.int .i64 0)]⟩, ⟨some 7, none, .pur .mov [.const (.bool false)]⟩]) [6, 7])
  (.seq (.reg (straight [⟨some 10, none, .pur .mov [.tmp 0]⟩, ⟨some 11, none, .pur .mov [.tmp 1]⟩, ⟨some 12, none, .eff (.call 84) [.tmp 10, .tmp 11, .const (.bool true)]⟩, ⟨some 8, none, .pur .mov [.tmp 12]⟩]) [8])
  (.seq (.seq (.reg (straight [⟨some 13, none, .pur .mov [.tmp 8]⟩, ⟨some 14, none, .pur (.eqn false 0) [.tmp 13]⟩]) [14])
  (.cond (.tmp 14) (.seq (.reg (straight [⟨some 6, none, .pur .mov [.const (.int .i64 0)]⟩, ⟨some 7, none, .pur .mov [.const (.bool false)]⟩]) [6, 7])
  (.ret)) (.skip)))
  (.seq (.reg (straight [⟨some 15, none, .pur .mov [.tmp 8]⟩, ⟨some 16, none, .pur .nilc [.tmp 15]⟩, ⟨some 17, none, .ld none (.tmp 16)⟩, ⟨some 9, none, .pur .mov [.tmp 17]⟩]) [9])
  (.seq (.reg (straight [⟨some 18, none, .pur .mov [.tmp 8]⟩, ⟨some 19, none, .pur .nilc [.tmp 18]⟩, ⟨some 20, none, .ld none (.tmp 19)⟩, ⟨some 21, none, .pur .mov [.tmp 2]⟩, ⟨some 22, none, .pur (.bin .add) [.tmp 20, .tmp 21]⟩, ⟨some 23, none, .pur .nilc [.tmp 18]⟩, ⟨none, none, .eff (.st 1) [.tmp 23, .tmp 22]⟩]) [])
  (.seq (.reg (straight [⟨some 24, none, .pur .mov [.tmp 9]⟩, ⟨some 6, none, .pur .mov [.tmp 24]⟩, ⟨some 7, none, .pur .mov [.const (.bool true)]⟩]) [6, 7])
  (.ret))))))⟩
theorem K_store_Store_Add : compF Try.prog 114 = some S_store_Store_Add := by kernel_rfl

-- 115
def S_store_Store_Swap : Fun := ⟨27, [8, 9, 0, 1, 10, 16, 11, 2, 22, 3], [.tmp 8, .tmp 9],
  .seq (.reg (straight [⟨some 8, none, .pur .mov [.const (.int .i64 0)]⟩, ⟨some 9, none, .pur .mov [.const (.bool false)]⟩]) [8, 9])
  (.seq (.reg (straight [⟨some 12, none, .pur .mov [.tmp 0]⟩, ⟨some 13, none, .pur .mov [.tmp 1]⟩, ⟨some 14, none, .eff (.call 84) [.tmp 12, .tmp 13, .const (.bool true)]⟩, ⟨some 10, none, .pur .mov [.tmp 14]⟩]) [10])
  (.seq (.seq (.reg (straight [⟨some 15, none, .pur .mov [.tmp 10]⟩, ⟨some 16, none, .pur (.eqn false 0) [.tmp 15]⟩]) [16])
  (.cond (.tmp 16) (.seq (.reg (straight [⟨some 8, none, .pur .mov [.const (.int .i64 0)]⟩, ⟨some 9, none, .pur .mov [.const (.bool false)]⟩]) [8, 9])
  (.ret)) (.skip)))
  (.seq (.reg (straight [⟨some 17, none, .pur .mov [.tmp 10]⟩, ⟨some 18, none, .pur .nilc [.tmp 17]⟩, ⟨some 19, none, .ld none (.tmp 18)⟩, ⟨some 11, none, .pur .mov [.tmp 19]⟩]) [11])
  (.seq (.seq (.reg (straight [⟨some 20, none, .pur .mov [.tmp 11]⟩, ⟨some 21, none, .pur .mov [.tmp 2]⟩, ⟨some 22, none, .pur (.bin .eql) [.tmp 20, .tmp 21]⟩]) [22])
  (.cond (.tmp 22) (.reg (straight [⟨some 23, none, .pur .mov [.tmp 10]⟩, ⟨some 24, none, .pur .mov [.tmp 3]⟩, ⟨some 25, none, .pur .nilc [.tmp 23]⟩, ⟨none, none, .eff (.st 1) [.tmp 25, .tmp 24]⟩]) []) (.skip)))
  (.seq (.reg (straight [⟨some 26, none, .pur .mov [.tmp 11]⟩, ⟨some 8, none, .pur .mov [.tmp 26]⟩, ⟨some 9, none, .pur .mov [.const (.bool true)]⟩]) [8, 9])
  (.ret))))))⟩
theorem K_store_Store_Swap : compF Try.prog 115 = some S_store_Store_Swap := by kernel_rfl

-- 116
def S_step_Took : Fun := ⟨24, [6, 0, 1, 4, 8, 9, 11, 2, 17, 3], [.cell 6 (some 8)],
  .seq (.reg (straight [⟨some 3, none, .eff (.box 97) [.tmp 0]⟩, ⟨some 4, none, .eff (.box 173) [.tmp 1]⟩, ⟨some 6, none, .eff (.new 97 [.int .i64 0, .int .i64 0, .int .i64 0, .int .i64 0, .int .i64 0, .int .i64 0, .int .i64 0, .int .i64 0]) []⟩]) [3, 4, 6])
  (.seq (.seq (.reg (straight [⟨some 7, none, .pur (.fla 0) [.tmp 4]⟩, ⟨some 8, none, .ld none (.tmp 7)⟩]) [8])
  (.block 0 (.seq (.block 2 (.seq (.block 1 (.seq (.seq (.seq (.reg (straight [⟨some 10, none, .pur (.bin .eql) [.tmp 8, .const (.int .i64 4)]⟩, ⟨some 9, none, .pur .mov [.tmp 10]⟩]) [9])
  (.cond (.tmp 9) (.exit 1) (.skip)))
  (.seq (.seq (.reg (straight [⟨some 12, none, .pur (.bin .eql) [.tmp 8, .const (.int .i64 1)]⟩, ⟨some 11, none, .pur .mov [.tmp 12]⟩]) [11])
  (.cond (.tmp 11) (.skip) (.reg (straight [⟨some 13, none, .pur (.bin .eql) [.tmp 8, .const (.int .i64 3)]⟩, ⟨some 11, none, .pur .mov [.tmp 13]⟩]) [11])))
  (.cond (.tmp 11) (.exit 2) (.skip))))
  (.exit 0)))
  (.seq (.reg (straight [⟨some 14, none, .pur .mov [.tmp 2]⟩, ⟨some 15, none, .pur (.fla 2) [.tmp 4]⟩, ⟨some 16, none, .ld none (.tmp 15)⟩, ⟨some 17, none, .pur (.bin .eql) [.tmp 14, .tmp 16]⟩]) [17])
  (.cond (.tmp 17) (.reg (straight [⟨some 2, none, .pur .mov [.const (.int .i64 1)]⟩]) [2]) (.reg (straight [⟨some 2, none, .pur .mov [.const (.int .i64 0)]⟩]) [2])))))
  (.seq (.reg (straight [⟨some 18, none, .pur (.fla 4) [.tmp 4]⟩, ⟨some 19, none, .ld none (.tmp 18)⟩, ⟨some 20, none, .eff (.call 108) [.tmp 19]⟩, ⟨some 21, none, .pur .mov [.tmp 2]⟩, ⟨some 22, none, .pur (.ixaA 8 1) [.tmp 3, .tmp 20]⟩, ⟨none, none, .eff (.st 1) [.tmp 22, .tmp 21]⟩]) [])
  (.exit 0)))))
  (.seq (.reg (straight [⟨some 23, none, .ld (some 8) (.tmp 3)⟩, ⟨none, none, .eff (.st 8) [.tmp 6, .tmp 23]⟩]) [])
  (.ret)))⟩
theorem K_step_Took : compF Try.prog 116 = some S_step_Took := by kernel_rfl

-- 117
def S_stage_Go : Fun := ⟨12, [4, 1, 0, 11], [.tmp 4],
  .seq (.reg (straight [⟨some 4, none, .pur .mov [.const (.int .i64 0)]⟩]) [4])
  (.seq (.seq (.reg (straight [⟨some 5, none, .pur .mov [.tmp 1]⟩, ⟨some 6, none, .pur .mov [.tmp 0]⟩, ⟨some 7, none, .pur (.bin .leq) [.tmp 5, .tmp 6]⟩, ⟨some 8, none, .pur .mov [.tmp 7]⟩, ⟨some 9, some (8, false), .pur .mov [.tmp 1]⟩, ⟨some 10, some (8, false), .pur (.bin .gtr) [.tmp 9, .const (.int .i64 1048575)]⟩, ⟨some 11, none, .pur .pick [.tmp 8, .const (.bool true), .tmp 10]⟩]) [11])
  (.cond (.tmp 11) (.seq (.reg (straight [⟨some 4, none, .pur .mov [.const (.int .i64 3)]⟩]) [4])
  (.ret)) (.skip)))
  (.seq (.reg (straight [⟨some 4, none, .pur .mov [.const (.int .i64 0)]⟩]) [4])
  (.ret)))⟩
theorem K_stage_Go : compF Try.prog 117 = some S_stage_Go := by kernel_rfl

-- 118
def S_serial_eval_keep : Fun := ⟨17, [1, 8, 0], [],
  .seq (.reg (straight [⟨some 4, none, .pur .mov [.tmp 1]⟩, ⟨some 5, none, .pur .nilc [.tmp 4]⟩, ⟨some 6, none, .pur (.fla 13) [.tmp 5]⟩, ⟨some 7, none, .ld none (.tmp 6)⟩, ⟨some 8, none, .pur (.bin .eql) [.tmp 7, .const (.int .i64 0)]⟩]) [8])
  (.cond (.tmp 8) (.reg (.run ⟨some 9, none, .pur .mov [.tmp 0]⟩ (.run ⟨some 11, none, .pur .mov [.tmp 1]⟩ (.run ⟨some 12, none, .pur .nilc [.tmp 11]⟩ (.run ⟨some 13, none, .pur (.fla 3) [.tmp 12]⟩ (.run ⟨some 14, none, .ld (some 8) (.tmp 13)⟩ (.eff ⟨some 10, none, .eff (.call 133) [.tmp 9]⟩ [⟨some 14, none, .ld (some 8) (.tmp 13)⟩] (.run ⟨some 15, none, .pur .nilc [.tmp 10]⟩ (.run ⟨some 16, none, .pur (.fla 3) [.tmp 15]⟩ (.eff ⟨none, none, .eff (.st 8) [.tmp 16, .tmp 14]⟩ [] .done))))))))) []) (.skip))⟩
theorem K_serial_eval_keep : compF Try.prog 118 = some S_serial_eval_keep := by kernel_rfl

-- 119
def S_serial_eval_pop : Fun := ⟨31, [2, 0, 3], [.cell 2 (some 15)],
  .seq (.reg (straight [⟨some 2, none, .eff (.new 135 [.int .i64 0, .int .i64 0, .int .i64 0, .int .i64 0, .int .i64 0, .int .i64 0, .int .i64 0, .int .i64 0, .int .i64 0, .int .i64 0, .int .i64 0, .bool false, .int .i64 0, .int .i64 0, .int .i64 0]) []⟩]) [2])
  (.seq (.reg (.run ⟨some 4, none, .pur .mov [.tmp 0]⟩ (.run ⟨some 5, none, .pur .nilc [.tmp 4]⟩ (.run ⟨some 6, none, .pur (.fla 2) [.tmp 5]⟩ (.run ⟨some 7, none, .ld none (.tmp 6)⟩ (.run ⟨some 8, none, .pur .mov [.tmp 0]⟩ (.run ⟨some 9, none, .pur .nilc [.tmp 8]⟩ (.run ⟨some 10, none, .pur (.fla 2) [.tmp 9]⟩ (.run ⟨some 11, none, .ld none (.tmp 10)⟩ (.run ⟨some 12, none, .pur (.len false) [.tmp 11]⟩ (.run ⟨some 13, none, .pur (.bin .sub) [.tmp 12, .const (.int .i64 1)]⟩ (.run ⟨some 14, none, .pur (.ixa 15) [.tmp 7, .tmp 13]⟩ (.run ⟨some 15, none, .ld (some 15) (.tmp 14)⟩ (.eff ⟨some 3, none, .eff (.new 135 [.int .i64 0, .int .i64 0, .int .i64 0, .int .i64 0, .int .i64 0, .int .i64 0, .int .i64 0, .int .i64 0, .int .i64 0, .int .i64 0, .int .i64 0, .bool false, .int .i64 0, .int .i64 0, .int .i64 0]) []⟩ [⟨some 15, none, .ld (some 15) (.tmp 14)⟩, ⟨some 11, none, .ld none (.tmp 10)⟩, ⟨some 7, none, .ld none (.tmp 6)⟩] (.eff ⟨none, none, .eff (.st 15) [.tmp 3, .tmp 15]⟩ [] .done)))))))))))))) [3])
  (.seq (.reg (.run ⟨some 16, none, .pur .mov [.tmp 0]⟩ (.run ⟨some 17, none, .pur .mov [.tmp 0]⟩ (.run ⟨some 18, none, .pur .nilc [.tmp 17]⟩ (.run ⟨some 19, none, .pur (.fla 2) [.tmp 18]⟩ (.run ⟨some 20, none, .ld none (.tmp 19)⟩ (.run ⟨some 21, none, .pur .mov [.tmp 0]⟩ (.run ⟨some 22, none, .pur .nilc [.tmp 21]⟩ (.run ⟨some 23, none, .pur (.fla 2) [.tmp 22]⟩ (.run ⟨some 24, none, .ld none (.tmp 23)⟩ (.run ⟨some 25, none, .pur (.len false) [.tmp 24]⟩ (.run ⟨some 26, none, .pur (.bin .sub) [.tmp 25, .const (.int .i64 1)]⟩ (.run ⟨some 27, none, .pur (.slc 15 false true) [.tmp 20, .tmp 26]⟩ (.run ⟨some 28, none, .pur .nilc [.tmp 16]⟩ (.run ⟨some 29, none, .pur (.fla 2) [.tmp 28]⟩ (.eff ⟨none, none, .eff (.st 1) [.tmp 29, .tmp 27]⟩ [] .done))))))))))))))) [])
  (.seq (.reg (straight [⟨some 30, none, .ld (some 15) (.tmp 3)⟩, ⟨none, none, .eff (.st 15) [.tmp 2, .tmp 30]⟩]) [])
  (.ret))))⟩
theorem K_serial_eval_pop : compF Try.prog 119 = some S_serial_eval_pop := by kernel_rfl

-- 120
def S_serial_eval_iterate : Fun := ⟨32, [0, 2, 3], [],
  .seq (.reg (straight [⟨some 4, none, .pur .mov [.tmp 0]⟩, ⟨some 5, none, .eff (.call 85) [.tmp 4]⟩, ⟨some 2, none, .pur .mov [.tmp 5]⟩]) [2])
  (.seq (.reg (straight [⟨some 6, none, .pur .mov [.tmp 2]⟩, ⟨some 7, none, .pur .nilc [.tmp 6]⟩, ⟨some 8, none, .pur (.fla 12) [.tmp 7]⟩, ⟨some 9, none, .ld none (.tmp 8)⟩, ⟨some 3, none, .pur .mov [.tmp 9]⟩]) [3])
  (.seq (.reg (straight [⟨some 10, none, .pur .mov [.tmp 2]⟩, ⟨some 11, none, .pur .nilc [.tmp 10]⟩, ⟨some 12, none, .pur (.fla 12) [.tmp 11]⟩, ⟨some 13, none, .ld none (.tmp 12)⟩, ⟨some 14, none, .pur (.bin .add) [.tmp 13, .const (.int .i64 1)]⟩, ⟨some 15, none, .pur .nilc [.tmp 10]⟩, ⟨some 16, none, .pur (.fla 12) [.tmp 15]⟩, ⟨none, none, .eff (.st 1) [.tmp 16, .tmp 14]⟩]) [])
  (.seq (.reg (straight [⟨some 17, none, .pur .mov [.tmp 0]⟩, ⟨some 18, none, .pur .mov [.tmp 3]⟩, ⟨some 19, none, .eff (.call 88) [.tmp 17, .const (.int .i64 9), .tmp 18]⟩]) [])
  (.reg (.run ⟨some 20, none, .pur .mov [.tmp 0]⟩ (.run ⟨some 21, none, .pur .mov [.tmp 2]⟩ (.run ⟨some 22, none, .pur .nilc [.tmp 21]⟩ (.run ⟨some 23, none, .pur (.fla 1) [.tmp 22]⟩ (.run ⟨some 24, none, .ld none (.tmp 23)⟩ (.run ⟨some 25, none, .pur .mov [.tmp 2]⟩ (.run ⟨some 26, none, .pur .nilc [.tmp 25]⟩ (.run ⟨some 27, none, .pur (.fla 3) [.tmp 26]⟩ (.run ⟨some 28, none, .ld (some 8) (.tmp 27)⟩ (.run ⟨some 29, none, .pur .mov [.tmp 3]⟩ (.run ⟨some 30, none, .pur (.bld [.int .i64 0, .int .i64 0, .int .i64 0, .int .i64 0, .int .i64 0, .int .i64 0, .int .i64 0, .int .i64 0, .int .i64 0, .int .i64 0, .int .i64 0, .bool false, .int .i64 0, .int .i64 0, .int .i64 0] [(0, 1), (1, 1), (3, 8), (12, 1)]) [.const (.int .i64 2), .tmp 24, .tmp 28, .tmp 29]⟩ (.eff ⟨some 31, none, .eff (.call 53) [.tmp 20, .tmp 30]⟩ [] .done)))))))))))) []))))⟩
theorem K_serial_eval_iterate : compF Try.prog 120 = some S_serial_eval_iterate := by kernel_rfl

-- 121
def S_ins_Form : Fun := ⟨48, [2, 0, 4, 15, 22, 29, 32, 35, 38, 3], [.tmp 2],
  .seq (.reg (straight [⟨some 2, none, .pur .mov [.const (.string ⟨#[]⟩)]⟩]) [2])
  (.seq (.reg (straight [⟨some 3, none, .pur .mov [.const (.string ⟨#[]⟩)]⟩]) [3])
  (.seq (.block 0 (.seq (.block 7 (.seq (.block 6 (.seq (.block 5 (.seq (.block 4 (.seq (.block 3 (.seq (.block 2 (.seq (.block 1 (.seq (.seq (.seq (.seq (.reg (straight [⟨some 5, none, .pur .mov [.tmp 0]⟩, ⟨some 6, none, .pur (.bin .geq) [.tmp 5, .const (.int .i64 3)]⟩, ⟨some 7, none, .pur .mov [.tmp 6]⟩, ⟨some 8, some (7, true), .pur .mov [.tmp 0]⟩, ⟨some 9, some (7, true), .pur (.bin .leq) [.tmp 8, .const (.int .i64 12)]⟩, ⟨some 10, none, .pur .pick [.tmp 7, .tmp 9, .const (.bool false)]⟩, ⟨some 4, none, .pur .mov [.tmp 10]⟩]) [4])
  (.cond (.tmp 4) (.skip) (.seq (.reg (straight [⟨some 11, none, .pur .mov [.tmp 0]⟩, ⟨some 12, none, .pur (.bin .eql) [.tmp 11, .const (.int .i64 15)]⟩, ⟨some 4, none, .pur .mov [.tmp 12]⟩]) [4])
  (.cond (.tmp 4) (.skip) (.reg (straight [⟨some 13, none, .pur .mov [.tmp 0]⟩, ⟨some 14, none, .pur (.bin .eql) [.tmp 13, .const (.int .i64 16)]⟩, ⟨some 4, none, .pur .mov [.tmp 14]⟩]) [4])))))
  (.cond (.tmp 4) (.exit 1) (.skip)))
  (.seq (.seq (.seq (.reg (straight [⟨some 16, none, .pur .mov [.tmp 0]⟩, ⟨some 17, none, .pur (.bin .eql) [.tmp 16, .const (.int .i64 2)]⟩, ⟨some 15, none, .pur .mov [.tmp 17]⟩]) [15])
  (.cond (.tmp 15) (.skip) (.seq (.reg (straight [⟨some 18, none, .pur .mov [.tmp 0]⟩, ⟨some 19, none, .pur (.bin .eql) [.tmp 18, .const (.int .i64 13)]⟩, ⟨some 15, none, .pur .mov [.tmp 19]⟩]) [15])
  (.cond (.tmp 15) (.skip) (.reg (straight [⟨some 20, none, .pur .mov [.tmp 0]⟩, ⟨some 21, none, .pur (.bin .eql) [.tmp 20, .const (.int .i64 14)]⟩, ⟨some 15, none, .pur .mov [.tmp 21]⟩]) [15])))))
  (.cond (.tmp 15) (.exit 2) (.skip)))
  (.seq (.seq (.seq (.reg (straight [⟨some 23, none, .pur .mov [.tmp 0]⟩, ⟨some 24, none, .pur (.bin .eql) [.tmp 23, .const (.int .i64 17)]⟩, ⟨some 22, none, .pur .mov [.tmp 24]⟩]) [22])
  (.cond (.tmp 22) (.skip) (.seq (.reg (straight [⟨some 25, none, .pur .mov [.tmp 0]⟩, ⟨some 26, none, .pur (.bin .eql) [.tmp 25, .const (.int .i64 23)]⟩, ⟨some 22, none, .pur .mov [.tmp 26]⟩]) [22])
  (.cond (.tmp 22) (.skip) (.reg (straight [⟨some 27, none, .pur .mov [.tmp 0]⟩, ⟨some 28, none, .pur (.bin .eql) [.tmp 27, .const (.int .i64 24)]⟩, ⟨some 22, none, .pur .mov [.tmp 28]⟩]) [22])))))
  (.cond (.tmp 22) (.exit 3) (.skip)))
  (.seq (.seq (.reg (straight [⟨some 30, none, .pur .mov [.tmp 0]⟩, ⟨some 31, none, .pur (.bin .eql) [.tmp 30, .const (.int .i64 1)]⟩, ⟨some 29, none, .pur .mov [.tmp 31]⟩]) [29])
  (.cond (.tmp 29) (.exit 4) (.skip)))
  (.seq (.seq (.reg (straight [⟨some 33, none, .pur .mov [.tmp 0]⟩, ⟨some 34, none, .pur (.bin .eql) [.tmp 33, .const (.int .i64 19)]⟩, ⟨some 32, none, .pur .mov [.tmp 34]⟩]) [32])
  (.cond (.tmp 32) (.exit 5) (.skip)))
  (.seq (.seq (.reg (straight [⟨some 36, none, .pur .mov [.tmp 0]⟩, ⟨some 37, none, .pur (.bin .eql) [.tmp 36, .const (.int .i64 18)]⟩, ⟨some 35, none, .pur .mov [.tmp 37]⟩]) [35])
  (.cond (.tmp 35) (.exit 6) (.skip)))
  (.seq (.seq (.reg (straight [⟨some 39, none, .pur .mov [.tmp 0]⟩, ⟨some 40, none, .pur (.bin .eql) [.tmp 39, .const (.int .i64 20)]⟩, ⟨some 38, none, .pur .mov [.tmp 40]⟩]) [38])
  (.cond (.tmp 38) (.skip) (.reg (straight [⟨some 41, none, .pur .mov [.tmp 0]⟩, ⟨some 42, none, .pur (.bin .eql) [.tmp 41, .const (.int .i64 22)]⟩, ⟨some 38, none, .pur .mov [.tmp 42]⟩]) [38])))
  (.cond (.tmp 38) (.exit 7) (.skip)))))))))
  (.exit 0)))
  (.reg (straight [⟨some 3, none, .pur .mov [.const (.string ⟨#[114]⟩)]⟩]) [3])))
  (.reg (straight [⟨some 43, none, .pur .mov [.tmp 3]⟩, ⟨some 44, none, .pur (.bin .add) [.tmp 43, .const (.string ⟨#[114]⟩)]⟩, ⟨some 3, none, .pur .mov [.tmp 44]⟩]) [3])))
  (.seq (.reg (straight [⟨some 45, none, .pur .mov [.tmp 3]⟩, ⟨some 46, none, .pur (.bin .add) [.tmp 45, .const (.string ⟨#[114]⟩)]⟩, ⟨some 3, none, .pur .mov [.tmp 46]⟩]) [3])
  (.exit 0))))
  (.seq (.reg (straight [⟨some 3, none, .pur .mov [.const (.string ⟨#[114, 110]⟩)]⟩]) [3])
  (.exit 0))))
  (.seq (.reg (straight [⟨some 3, none, .pur .mov [.const (.string ⟨#[114, 116]⟩)]⟩]) [3])
  (.exit 0))))
  (.seq (.reg (straight [⟨some 3, none, .pur .mov [.const (.string ⟨#[116]⟩)]⟩]) [3])
  (.exit 0))))
  (.seq (.reg (straight [⟨some 3, none, .pur .mov [.const (.string ⟨#[102]⟩)]⟩]) [3])
  (.exit 0))))
  (.seq (.reg (straight [⟨some 47, none, .pur .mov [.tmp 3]⟩, ⟨some 2, none, .pur .mov [.tmp 47]⟩]) [2])
  (.ret))))⟩
theorem K_ins_Form : compF Try.prog 121 = some S_ins_Form := by kernel_rfl

-- 122
def S_ins_fields : Fun := ⟨10, [2, 0, 1], [.cell 2 (some 3)],
  .seq (.reg (straight [⟨some 1, none, .eff (.box 78) [.tmp 0]⟩, ⟨some 2, none, .eff (.new 202 [.int .i64 0, .int .i64 0, .int .i64 0]) []⟩]) [1, 2])
  (.seq (.reg (straight [⟨some 3, none, .pur (.fla 1) [.tmp 1]⟩, ⟨some 4, none, .ld none (.tmp 3)⟩, ⟨some 5, none, .pur (.fla 2) [.tmp 1]⟩, ⟨some 6, none, .ld none (.tmp 5)⟩, ⟨some 7, none, .pur (.fla 3) [.tmp 1]⟩, ⟨some 8, none, .ld none (.tmp 7)⟩, ⟨some 9, none, .pur (.bld [.int .i64 0, .int .i64 0, .int .i64 0] [(0, 1), (1, 1), (2, 1)]) [.tmp 4, .tmp 6, .tmp 8]⟩, ⟨none, none, .eff (.st 3) [.tmp 2, .tmp 9]⟩]) [])
  (.ret))⟩
theorem K_ins_fields : compF Try.prog 122 = some S_ins_fields := by kernel_rfl

-- 123
def S_ins_fits : Fun := ⟨36, [4, 0, 5, 6, 1, 14, 22], [.tmp 4],
  .seq (.reg (straight [⟨some 4, none, .pur .mov [.const (.bool false)]⟩]) [4])
  (.seq (.seq (.reg (straight [⟨some 5, none, .pur .mov [.tmp 0]⟩]) [5])
  (.block 0 (.seq (.reg (straight [⟨some 7, none, .pur (.bin .eql) [.tmp 5, .const (.int .u8 114)]⟩, ⟨some 6, none, .pur .mov [.tmp 7]⟩]) [6])
  (.cond (.tmp 6) (.seq (.reg (straight [⟨some 8, none, .pur .mov [.tmp 1]⟩, ⟨some 9, none, .pur (.bin .geq) [.tmp 8, .const (.int .i64 0)]⟩, ⟨some 10, none, .pur .mov [.tmp 9]⟩, ⟨some 11, some (10, true), .pur .mov [.tmp 1]⟩, ⟨some 12, some (10, true), .pur (.bin .leq) [.tmp 11, .const (.int .i64 7)]⟩, ⟨some 13, none, .pur .pick [.tmp 10, .tmp 12, .const (.bool false)]⟩, ⟨some 4, none, .pur .mov [.tmp 13]⟩]) [4])
  (.ret)) (.seq (.reg (straight [⟨some 15, none, .pur (.bin .eql) [.tmp 5, .const (.int .u8 102)]⟩, ⟨some 14, none, .pur .mov [.tmp 15]⟩]) [14])
  (.cond (.tmp 14) (.seq (.reg (straight [⟨some 16, none, .pur .mov [.tmp 1]⟩, ⟨some 17, none, .pur (.bin .geq) [.tmp 16, .const (.int .i64 0)]⟩, ⟨some 18, none, .pur .mov [.tmp 17]⟩, ⟨some 19, some (18, true), .pur .mov [.tmp 1]⟩, ⟨some 20, some (18, true), .pur (.bin .leq) [.tmp 19, .const (.int .i64 15)]⟩, ⟨some 21, none, .pur .pick [.tmp 18, .tmp 20, .const (.bool false)]⟩, ⟨some 4, none, .pur .mov [.tmp 21]⟩]) [4])
  (.ret)) (.seq (.reg (straight [⟨some 23, none, .pur (.bin .eql) [.tmp 5, .const (.int .u8 116)]⟩, ⟨some 22, none, .pur .mov [.tmp 23]⟩]) [22])
  (.cond (.tmp 22) (.seq (.reg (straight [⟨some 24, none, .pur .mov [.tmp 1]⟩, ⟨some 25, none, .pur (.bin .geq) [.tmp 24, .const (.int .i64 0)]⟩, ⟨some 26, none, .pur .mov [.tmp 25]⟩, ⟨some 27, some (26, true), .pur .mov [.tmp 1]⟩, ⟨some 28, some (26, true), .pur (.bin .leq) [.tmp 27, .const (.int .i64 199)]⟩, ⟨some 29, none, .pur .pick [.tmp 26, .tmp 28, .const (.bool false)]⟩, ⟨some 4, none, .pur .mov [.tmp 29]⟩]) [4])
  (.ret)) (.skip)))))))))
  (.seq (.reg (straight [⟨some 30, none, .pur .mov [.tmp 1]⟩, ⟨some 31, none, .pur (.bin .geq) [.tmp 30, .const (.int .i64 (-32768))]⟩, ⟨some 32, none, .pur .mov [.tmp 31]⟩, ⟨some 33, some (32, true), .pur .mov [.tmp 1]⟩, ⟨some 34, some (32, true), .pur (.bin .leq) [.tmp 33, .const (.int .i64 32767)]⟩, ⟨some 35, none, .pur .pick [.tmp 32, .tmp 34, .const (.bool false)]⟩, ⟨some 4, none, .pur .mov [.tmp 35]⟩]) [4])
  (.ret)))⟩
theorem K_ins_fits : compF Try.prog 123 = some S_ins_fits := by kernel_rfl

-- 131
def S_wrap_divide : Fun := ⟨20, [6, 7, 2, 8, 0, 11, 1], [.tmp 6, .tmp 7],
  .seq (.reg (straight [⟨some 6, none, .pur .mov [.const (.int .i64 0)]⟩, ⟨some 7, none, .pur .mov [.const (.int .i64 0)]⟩]) [6, 7])
  (.seq (.block 0 (.seq (.reg (straight [⟨some 9, none, .pur .mov [.tmp 2]⟩, ⟨some 10, none, .pur (.bin .eql) [.tmp 9, .const (.int .i64 0)]⟩, ⟨some 8, none, .pur .mov [.tmp 10]⟩]) [8])
  (.cond (.tmp 8) (.seq (.reg (straight [⟨some 6, none, .pur .mov [.const (.int .i64 0)]⟩, ⟨some 7, none, .pur .mov [.const (.int .i64 1)]⟩]) [6, 7])
  (.ret)) (.seq (.reg (straight [⟨some 12, none, .pur .mov [.tmp 0]⟩, ⟨some 13, none, .pur (.bin .eql) [.tmp 12, .const (.int .i64 6)]⟩, ⟨some 11, none, .pur .mov [.tmp 13]⟩]) [11])
  (.cond (.tmp 11) (.seq (.reg (straight [⟨some 14, none, .pur .mov [.tmp 1]⟩, ⟨some 15, none, .pur .mov [.tmp 2]⟩, ⟨some 16, none, .pur (.bin .quo) [.tmp 14, .tmp 15]⟩, ⟨some 6, none, .pur .mov [.tmp 16]⟩, ⟨some 7, none, .pur .mov [.const (.int .i64 0)]⟩]) [6, 7])
  (.ret)) (.skip))))))
  (.seq (.reg (straight [⟨some 17, none, .pur .mov [.tmp 1]⟩, ⟨some 18, none, .pur .mov [.tmp 2]⟩, ⟨some 19, none, .pur (.bin .rem) [.tmp 17, .tmp 18]⟩, ⟨some 6, none, .pur .mov [.tmp 19]⟩, ⟨some 7, none, .pur .mov [.const (.int .i64 0)]⟩]) [6, 7])
  (.ret)))⟩
theorem K_wrap_divide : compF Try.prog 131 = some S_wrap_divide := by kernel_rfl

-- 132
def S_wrap_yes : Fun := ⟨4, [2, 0, 3], [.tmp 2],
  .seq (.reg (straight [⟨some 2, none, .pur .mov [.const (.int .i64 0)]⟩]) [2])
  (.seq (.seq (.reg (straight [⟨some 3, none, .pur .mov [.tmp 0]⟩]) [3])
  (.cond (.tmp 3) (.seq (.reg (straight [⟨some 2, none, .pur .mov [.const (.int .i64 1)]⟩]) [2])
  (.ret)) (.skip)))
  (.seq (.reg (straight [⟨some 2, none, .pur .mov [.const (.int .i64 0)]⟩]) [2])
  (.ret)))⟩
theorem K_wrap_yes : compF Try.prog 132 = some S_wrap_yes := by kernel_rfl

-- 133
def S_serial_eval_runner : Fun := ⟨14, [2, 0], [.tmp 2],
  .seq (.reg (straight [⟨some 2, none, .pur .mov [.const (.pointer none)]⟩]) [2])
  (.seq (.reg (straight [⟨some 3, none, .pur .mov [.tmp 0]⟩, ⟨some 4, none, .pur .nilc [.tmp 3]⟩, ⟨some 5, none, .pur (.fla 2) [.tmp 4]⟩, ⟨some 6, none, .ld none (.tmp 5)⟩, ⟨some 7, none, .pur .mov [.tmp 0]⟩, ⟨some 8, none, .pur .nilc [.tmp 7]⟩, ⟨some 9, none, .pur (.fla 2) [.tmp 8]⟩, ⟨some 10, none, .ld none (.tmp 9)⟩, ⟨some 11, none, .pur (.len false) [.tmp 10]⟩, ⟨some 12, none, .pur (.bin .sub) [.tmp 11, .const (.int .i64 2)]⟩, ⟨some 13, none, .pur (.ixa 15) [.tmp 6, .tmp 12]⟩, ⟨some 2, none, .pur .mov [.tmp 13]⟩]) [2])
  (.ret))⟩
theorem K_serial_eval_runner : compF Try.prog 133 = some S_serial_eval_runner := by kernel_rfl

end Go.Proofs.Ytncdnegdlkmicaa
