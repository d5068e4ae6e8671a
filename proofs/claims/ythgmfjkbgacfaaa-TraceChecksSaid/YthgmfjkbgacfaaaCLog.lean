import Derived.Test.YthgmfjkbgacfaaaKj
import Derived.Test.YthgmfjkbgacfaaaProg
import Derived.KernelRfl
namespace Go.Proofs.Ythgmfjkbgacfaaa
open Go Go.Kx Go.Proofs
set_option linter.unusedVariables false
set_option maxRecDepth 100000

-- 3
def S_forebaylaw24_LogParts_L1 : SCode :=
  .seq (.seq (.reg (straight [⟨some 18, none, .pur .mov [.tmp 4]⟩, ⟨some 19, none, .pur .mov [.tmp 0]⟩, ⟨some 20, none, .pur (.len false) [.tmp 19]⟩, ⟨some 21, none, .pur (.bin .lss) [.tmp 18, .tmp 20]⟩]) [21])
  (.cond (.tmp 21) (.skip) (.exit 0)))
  (.seq (.block 1 (.reg (straight [⟨some 24, none, .pur .mov [.tmp 3]⟩, ⟨some 25, none, .pur .mov [.tmp 0]⟩, ⟨some 26, none, .pur .mov [.tmp 4]⟩, ⟨some 27, none, .pur (.ixa 4) [.tmp 25, .tmp 26]⟩, ⟨some 28, none, .ld (some 4) (.tmp 27)⟩, ⟨some 29, none, .eff (.call 11) [.tmp 24, .tmp 28]⟩]) []))
  (.reg (straight [⟨some 22, none, .pur .mov [.tmp 4]⟩, ⟨some 23, none, .pur (.bin .add) [.tmp 22, .const (.int .i64 1)]⟩, ⟨some 4, none, .pur .mov [.tmp 23]⟩]) [4]))
def S_forebaylaw24_LogParts_L3 : SCode :=
  .seq (.seq (.reg (straight [⟨some 53, none, .pur .mov [.tmp 10]⟩, ⟨some 54, none, .pur .mov [.tmp 8]⟩, ⟨some 55, none, .pur (.len false) [.tmp 54]⟩, ⟨some 56, none, .pur (.bin .lss) [.tmp 53, .tmp 55]⟩, ⟨some 57, none, .pur .mov [.tmp 56]⟩, ⟨some 58, some (57, true), .pur .mov [.tmp 10]⟩, ⟨some 59, some (57, true), .pur .mov [.tmp 9]⟩, ⟨some 60, some (57, true), .pur (.len false) [.tmp 59]⟩, ⟨some 61, some (57, true), .pur (.bin .lss) [.tmp 58, .tmp 60]⟩, ⟨some 62, none, .pur .pick [.tmp 57, .tmp 61, .const (.bool false)]⟩]) [62])
  (.cond (.tmp 62) (.skip) (.exit 4)))
  (.seq (.block 5 (.seq (.seq (.reg (straight [⟨some 65, none, .pur .mov [.tmp 9]⟩, ⟨some 66, none, .pur .mov [.tmp 10]⟩, ⟨some 67, none, .pur (.ixa 1) [.tmp 65, .tmp 66]⟩, ⟨some 68, none, .ld none (.tmp 67)⟩, ⟨some 69, none, .pur (.bin .lss) [.tmp 68, .const (.int .i64 0)]⟩, ⟨some 70, none, .pur .mov [.tmp 69]⟩, ⟨some 71, some (70, false), .pur .mov [.tmp 9]⟩, ⟨some 72, some (70, false), .pur .mov [.tmp 10]⟩, ⟨some 73, some (70, false), .pur (.ixa 1) [.tmp 71, .tmp 72]⟩, ⟨some 74, some (70, false), .ld none (.tmp 73)⟩, ⟨some 75, some (70, false), .pur .mov [.tmp 0]⟩, ⟨some 76, some (70, false), .pur (.len false) [.tmp 75]⟩, ⟨some 77, some (70, false), .pur (.bin .geq) [.tmp 74, .tmp 76]⟩, ⟨some 78, none, .pur .pick [.tmp 70, .const (.bool true), .tmp 77]⟩, ⟨some 79, none, .pur .mov [.tmp 78]⟩, ⟨some 80, some (79, false), .pur .mov [.tmp 8]⟩, ⟨some 81, some (79, false), .pur .mov [.tmp 10]⟩, ⟨some 82, some (79, false), .pur (.ixa 4) [.tmp 80, .tmp 81]⟩, ⟨some 83, some (79, false), .ld (some 4) (.tmp 82)⟩, ⟨some 84, some (79, false), .pur .mov [.tmp 0]⟩, ⟨some 85, some (79, false), .pur .mov [.tmp 9]⟩, ⟨some 86, some (79, false), .pur .mov [.tmp 10]⟩, ⟨some 87, some (79, false), .pur (.ixa 1) [.tmp 85, .tmp 86]⟩, ⟨some 88, some (79, false), .ld none (.tmp 87)⟩, ⟨some 89, some (79, false), .pur (.ixa 4) [.tmp 84, .tmp 88]⟩, ⟨some 90, some (79, false), .ld (some 4) (.tmp 89)⟩, ⟨some 91, some (79, false), .pur (.eqs true [.int .i64, .int .i64, .int .i64, .int .i64]) [.tmp 83, .tmp 90]⟩, ⟨some 92, none, .pur .pick [.tmp 79, .const (.bool true), .tmp 91]⟩, ⟨some 93, none, .pur .mov [.tmp 92]⟩, ⟨some 94, some (93, false), .pur .mov [.tmp 10]⟩, ⟨some 95, some (93, false), .pur (.bin .gtr) [.tmp 94, .const (.int .i64 0)]⟩, ⟨some 96, some (93, false), .pur .mov [.tmp 95]⟩, ⟨some 97, some (96, true), .pur .mov [.tmp 9]⟩, ⟨some 98, some (96, true), .pur .mov [.tmp 10]⟩, ⟨some 99, some (96, true), .pur (.ixa 1) [.tmp 97, .tmp 98]⟩, ⟨some 100, some (96, true), .ld none (.tmp 99)⟩, ⟨some 101, some (96, true), .pur .mov [.tmp 9]⟩, ⟨some 102, some (96, true), .pur .mov [.tmp 10]⟩, ⟨some 103, some (96, true), .pur (.bin .sub) [.tmp 102, .const (.int .i64 1)]⟩, ⟨some 104, some (96, true), .pur (.ixa 1) [.tmp 101, .tmp 103]⟩, ⟨some 105, some (96, true), .ld none (.tmp 104)⟩, ⟨some 106, some (96, true), .pur (.bin .leq) [.tmp 100, .tmp 105]⟩, ⟨some 107, some (93, false), .pur .pick [.tmp 96, .tmp 106, .const (.bool false)]⟩, ⟨some 108, none, .pur .pick [.tmp 93, .const (.bool true), .tmp 107]⟩]) [108])
  (.cond (.tmp 108) (.seq (.reg (straight [⟨some 2, none, .pur .mov [.const (.bool false)]⟩]) [2])
  (.ret)) (.skip)))
  (.reg (straight [⟨some 109, none, .pur .mov [.tmp 5]⟩, ⟨some 110, none, .pur .mov [.tmp 9]⟩, ⟨some 111, none, .pur .mov [.tmp 10]⟩, ⟨some 112, none, .pur (.ixa 1) [.tmp 110, .tmp 111]⟩, ⟨some 113, none, .ld none (.tmp 112)⟩, ⟨some 114, none, .pur (.ixa 1) [.tmp 109, .tmp 113]⟩, ⟨some 115, none, .ld none (.tmp 114)⟩, ⟨some 116, none, .pur (.bin .add) [.tmp 115, .const (.int .i64 1)]⟩, ⟨some 117, none, .pur (.ixa 1) [.tmp 109, .tmp 113]⟩, ⟨none, none, .eff (.st 1) [.tmp 117, .tmp 116]⟩]) [])))
  (.reg (straight [⟨some 63, none, .pur .mov [.tmp 10]⟩, ⟨some 64, none, .pur (.bin .add) [.tmp 63, .const (.int .i64 1)]⟩, ⟨some 10, none, .pur .mov [.tmp 64]⟩]) [10]))
def S_forebaylaw24_LogParts_L2 : SCode :=
  .seq (.seq (.reg (straight [⟨some 35, none, .pur .mov [.tmp 7]⟩, ⟨some 36, none, .pur .mov [.tmp 6]⟩, ⟨some 37, none, .pur (.len false) [.tmp 36]⟩, ⟨some 38, none, .pur (.bin .lss) [.tmp 35, .tmp 37]⟩]) [38])
  (.cond (.tmp 38) (.skip) (.exit 2)))
  (.seq (.block 3 (.seq (.reg (straight [⟨some 42, none, .pur .mov [.tmp 3]⟩, ⟨some 43, none, .pur .mov [.tmp 6]⟩, ⟨some 44, none, .pur .mov [.tmp 7]⟩, ⟨some 45, none, .pur (.ixa 1) [.tmp 43, .tmp 44]⟩, ⟨some 46, none, .ld none (.tmp 45)⟩, ⟨some 47, none, .pur .mov [.tmp 0]⟩, ⟨some 48, none, .pur (.len false) [.tmp 47]⟩, ⟨some 49, none, .pur (.bin .add) [.tmp 48, .const (.int .i64 1)]⟩, ⟨some 50, none, .eff (.call 13) [.tmp 42, .tmp 46, .tmp 49]⟩, ⟨some 41, none, .pur .mov [.tmp 50]⟩, ⟨some 51, none, .pur (.ext 0) [.tmp 41]⟩, ⟨some 52, none, .pur (.ext 1) [.tmp 41]⟩, ⟨some 8, none, .pur .mov [.tmp 51]⟩, ⟨some 9, none, .pur .mov [.tmp 52]⟩]) [8, 9])
  (.seq (.reg (straight [⟨some 10, none, .pur .mov [.const (.int .i64 0)]⟩]) [10])
  (.block 4 (.loop S_forebaylaw24_LogParts_L3)))))
  (.reg (straight [⟨some 39, none, .pur .mov [.tmp 7]⟩, ⟨some 40, none, .pur (.bin .add) [.tmp 39, .const (.int .i64 1)]⟩, ⟨some 7, none, .pur .mov [.tmp 40]⟩]) [7]))
def S_forebaylaw24_LogParts_L4 : SCode :=
  .seq (.seq (.reg (straight [⟨some 118, none, .pur .mov [.tmp 11]⟩, ⟨some 119, none, .pur .mov [.tmp 5]⟩, ⟨some 120, none, .pur (.len false) [.tmp 119]⟩, ⟨some 121, none, .pur (.bin .lss) [.tmp 118, .tmp 120]⟩]) [121])
  (.cond (.tmp 121) (.skip) (.exit 6)))
  (.seq (.block 7 (.seq (.reg (straight [⟨some 124, none, .pur .mov [.tmp 5]⟩, ⟨some 125, none, .pur .mov [.tmp 11]⟩, ⟨some 126, none, .pur (.ixa 1) [.tmp 124, .tmp 125]⟩, ⟨some 127, none, .ld none (.tmp 126)⟩, ⟨some 128, none, .pur (.bin .neq) [.tmp 127, .const (.int .i64 1)]⟩]) [128])
  (.cond (.tmp 128) (.seq (.reg (straight [⟨some 2, none, .pur .mov [.const (.bool false)]⟩]) [2])
  (.ret)) (.skip))))
  (.reg (straight [⟨some 122, none, .pur .mov [.tmp 11]⟩, ⟨some 123, none, .pur (.bin .add) [.tmp 122, .const (.int .i64 1)]⟩, ⟨some 11, none, .pur .mov [.tmp 123]⟩]) [11]))
def S_forebaylaw24_LogParts : Fun := ⟨129, [2, 13, 0, 16, 4, 21, 3, 7, 6, 38, 10, 8, 9, 62, 108, 5, 11, 121, 128], [.tmp 2],
  .seq (.reg (straight [⟨some 2, none, .pur .mov [.const (.bool false)]⟩]) [2])
  (.seq (.seq (.reg (straight [⟨some 12, none, .eff (.call 9) []⟩, ⟨some 13, none, .pur .not [.tmp 12]⟩]) [13])
  (.cond (.tmp 13) (.seq (.reg (straight [⟨some 2, none, .pur .mov [.const (.bool false)]⟩]) [2])
  (.ret)) (.skip)))
  (.seq (.seq (.reg (straight [⟨some 14, none, .pur .mov [.tmp 0]⟩, ⟨some 15, none, .pur (.len false) [.tmp 14]⟩, ⟨some 16, none, .pur (.bin .gtr) [.tmp 15, .const (.int .i64 150)]⟩]) [16])
  (.cond (.tmp 16) (.seq (.reg (straight [⟨some 2, none, .pur .mov [.const (.bool true)]⟩]) [2])
  (.ret)) (.skip)))
  (.seq (.reg (straight [⟨some 17, none, .eff (.call 10) []⟩, ⟨some 3, none, .pur .mov [.tmp 17]⟩]) [3])
  (.seq (.seq (.reg (straight [⟨some 4, none, .pur .mov [.const (.int .i64 0)]⟩]) [4])
  (.block 0 (.loop S_forebaylaw24_LogParts_L1)))
  (.seq (.reg (straight [⟨some 30, none, .pur .mov [.tmp 0]⟩, ⟨some 31, none, .pur (.len false) [.tmp 30]⟩, ⟨some 32, none, .eff (.mks 3 1 8 [.int .i64 0]) [.tmp 31, .tmp 31]⟩, ⟨some 5, none, .pur .mov [.tmp 32]⟩]) [5])
  (.seq (.reg (straight [⟨some 33, none, .pur .mov [.tmp 3]⟩, ⟨some 34, none, .eff (.call 12) [.tmp 33]⟩, ⟨some 6, none, .pur .mov [.tmp 34]⟩]) [6])
  (.seq (.seq (.reg (straight [⟨some 7, none, .pur .mov [.const (.int .i64 0)]⟩]) [7])
  (.block 2 (.loop S_forebaylaw24_LogParts_L2)))
  (.seq (.seq (.reg (straight [⟨some 11, none, .pur .mov [.const (.int .i64 0)]⟩]) [11])
  (.block 6 (.loop S_forebaylaw24_LogParts_L4)))
  (.seq (.reg (straight [⟨some 2, none, .pur .mov [.const (.bool true)]⟩]) [2])
  (.ret))))))))))⟩
theorem K_forebaylaw24_LogParts : compF Try.prog 3 = some S_forebaylaw24_LogParts := by kernel_rfl

-- 9
def S_forebaylaw24_works : Fun := ⟨38, [0, 1, 3, 2], [.tmp 0],
  .seq (.reg (straight [⟨some 0, none, .pur .mov [.const (.bool false)]⟩]) [0])
  (.seq (.reg (straight [⟨some 4, none, .eff (.call 10) []⟩, ⟨some 1, none, .pur .mov [.tmp 4]⟩]) [1])
  (.seq (.reg (straight [⟨some 5, none, .pur .mov [.tmp 1]⟩, ⟨some 6, none, .pur (.bld [.int .i64 0, .int .i64 0, .int .i64 0, .int .i64 0] [(0, 1), (1, 1)]) [.const (.int .i64 1), .const (.int .i64 1)]⟩, ⟨some 7, none, .eff (.call 11) [.tmp 5, .tmp 6]⟩]) [])
  (.seq (.reg (straight [⟨some 8, none, .pur .mov [.tmp 1]⟩, ⟨some 9, none, .pur (.bld [.int .i64 0, .int .i64 0, .int .i64 0, .int .i64 0] [(0, 1), (1, 1)]) [.const (.int .i64 4), .const (.int .i64 1)]⟩, ⟨some 10, none, .eff (.call 11) [.tmp 8, .tmp 9]⟩]) [])
  (.seq (.reg (straight [⟨some 12, none, .pur .mov [.tmp 1]⟩, ⟨some 13, none, .eff (.call 42) [.tmp 12, .const (.int .i64 1), .const (.int .i64 0)]⟩, ⟨some 11, none, .pur .mov [.tmp 13]⟩, ⟨some 14, none, .pur (.ext 0) [.tmp 11]⟩, ⟨some 15, none, .pur (.ext 1) [.tmp 11]⟩, ⟨some 2, none, .eff (.new 28 [.int .i64 0, .int .i64 0, .int .i64 0, .int .i64 0]) []⟩, ⟨none, none, .eff (.st 4) [.tmp 2, .tmp 14]⟩, ⟨some 3, none, .pur .mov [.tmp 15]⟩]) [2, 3])
  (.seq (.reg (straight [⟨some 16, none, .pur .mov [.tmp 1]⟩, ⟨some 17, none, .eff (.call 43) [.tmp 16]⟩, ⟨some 18, none, .pur (.bin .eql) [.tmp 17, .const (.int .i64 2)]⟩, ⟨some 19, none, .pur .mov [.tmp 18]⟩, ⟨some 20, some (19, true), .pur .mov [.tmp 3]⟩, ⟨some 21, none, .pur .pick [.tmp 19, .tmp 20, .const (.bool false)]⟩, ⟨some 22, none, .pur .mov [.tmp 21]⟩, ⟨some 23, some (22, true), .pur (.fla 0) [.tmp 2]⟩, ⟨some 24, some (22, true), .ld none (.tmp 23)⟩, ⟨some 25, some (22, true), .pur (.bin .eql) [.tmp 24, .const (.int .i64 4)]⟩, ⟨some 26, none, .pur .pick [.tmp 22, .tmp 25, .const (.bool false)]⟩, ⟨some 27, none, .pur .mov [.tmp 26]⟩, ⟨some 28, some (27, true), .pur .mov [.tmp 1]⟩, ⟨some 29, some (27, true), .eff (.call 44) [.tmp 28, .const (.int .i64 1)]⟩, ⟨some 30, some (27, true), .pur (.bin .eql) [.tmp 29, .const (.int .i64 1)]⟩, ⟨some 31, none, .pur .pick [.tmp 27, .tmp 30, .const (.bool false)]⟩, ⟨some 32, none, .pur .mov [.tmp 31]⟩, ⟨some 33, some (32, true), .pur .mov [.tmp 1]⟩, ⟨some 34, some (32, true), .eff (.call 12) [.tmp 33]⟩, ⟨some 35, some (32, true), .eff (.bsl 3 1) [.const (.int .i64 1)]⟩, ⟨some 36, some (32, true), .eff (.call 45) [.tmp 34, .tmp 35]⟩, ⟨some 37, none, .pur .pick [.tmp 32, .tmp 36, .const (.bool false)]⟩, ⟨some 0, none, .pur .mov [.tmp 37]⟩]) [0])
  (.ret))))))⟩
theorem K_forebaylaw24_works : compF Try.prog 9 = some S_forebaylaw24_works := by kernel_rfl

-- 10
def S_log_New : Fun := ⟨3, [0], [.tmp 0],
  .seq (.reg (straight [⟨some 0, none, .pur .mov [.const (.pointer none)]⟩]) [0])
  (.seq (.reg (straight [⟨some 1, none, .pur (.bld [.slice none 0 0] []) []⟩, ⟨some 2, none, .eff (.box 88) [.tmp 1]⟩, ⟨some 0, none, .pur .mov [.tmp 2]⟩]) [0])
  (.ret))⟩
theorem K_log_New : compF Try.prog 10 = some S_log_New := by kernel_rfl

-- 11
def S_log_Log_Note : Fun := ⟨16, [1, 0, 5, 3], [],
  .seq (.reg (straight [⟨some 3, none, .eff (.box 28) [.tmp 1]⟩]) [3])
  (.seq (.reg (straight [⟨some 4, none, .pur .mov [.tmp 0]⟩, ⟨some 5, none, .pur (.eqn true 0) [.tmp 4]⟩]) [5])
  (.cond (.tmp 5) (.reg (.run ⟨some 6, none, .pur .mov [.tmp 0]⟩ (.run ⟨some 7, none, .pur .mov [.tmp 0]⟩ (.run ⟨some 8, none, .pur .nilc [.tmp 7]⟩ (.run ⟨some 9, none, .pur (.fla 0) [.tmp 8]⟩ (.run ⟨some 10, none, .ld none (.tmp 9)⟩ (.run ⟨some 11, none, .ld (some 4) (.tmp 3)⟩ (.eff ⟨some 12, none, .eff (.bsl 28 4) [.tmp 11]⟩ [⟨some 10, none, .ld none (.tmp 9)⟩] (.eff ⟨some 13, none, .eff (.app 28 4 32 [.int .i64 0, .int .i64 0, .int .i64 0, .int .i64 0]) [.tmp 10, .tmp 12]⟩ [] (.run ⟨some 14, none, .pur .nilc [.tmp 6]⟩ (.run ⟨some 15, none, .pur (.fla 0) [.tmp 14]⟩ (.eff ⟨none, none, .eff (.st 1) [.tmp 15, .tmp 13]⟩ [] .done))))))))))) []) (.skip)))⟩
theorem K_log_Log_Note : compF Try.prog 11 = some S_log_Log_Note := by kernel_rfl

-- 12
def S_log_Log_Loops_L1 : SCode :=
  .seq (.reg (straight [⟨some 10, none, .pur (.bin .lss) [.tmp 9, .tmp 8]⟩]) [10])
  (.seq (.cond (.tmp 10) (.skip) (.exit 0))
  (.seq (.block 1 (.seq (.reg (straight [⟨some 11, none, .pur (.ixa 4) [.tmp 7, .tmp 9]⟩, ⟨some 12, none, .ld (some 4) (.tmp 11)⟩, ⟨some 5, none, .eff (.new 28 [.int .i64 0, .int .i64 0, .int .i64 0, .int .i64 0]) []⟩, ⟨none, none, .eff (.st 4) [.tmp 5, .tmp 12]⟩]) [5])
  (.seq (.reg (straight [⟨some 13, none, .pur .mov [.tmp 3]⟩, ⟨some 14, none, .pur (.fla 1) [.tmp 5]⟩, ⟨some 15, none, .ld none (.tmp 14)⟩, ⟨some 16, none, .eff (.call 47) [.tmp 13, .tmp 15]⟩, ⟨some 17, none, .pur .not [.tmp 16]⟩]) [17])
  (.cond (.tmp 17) (.reg (straight [⟨some 18, none, .pur .mov [.tmp 3]⟩, ⟨some 19, none, .pur (.fla 1) [.tmp 5]⟩, ⟨some 20, none, .ld none (.tmp 19)⟩, ⟨some 21, none, .eff (.bsl 3 1) [.tmp 20]⟩, ⟨some 22, none, .eff (.app 3 1 8 [.int .i64 0]) [.tmp 18, .tmp 21]⟩, ⟨some 3, none, .pur .mov [.tmp 22]⟩]) [3]) (.skip)))))
  (.reg (straight [⟨some 23, none, .pur (.bin .add) [.tmp 9, .const (.int .i64 1)]⟩, ⟨some 9, none, .pur .mov [.tmp 23]⟩]) [9])))
def S_log_Log_Loops : Fun := ⟨25, [2, 0, 9, 8, 10, 7, 3, 5, 17], [.tmp 2],
  .seq (.reg (straight [⟨some 2, none, .pur .mov [.const (.slice none 0 0)]⟩]) [2])
  (.seq (.reg (straight [⟨some 3, none, .pur .mov [.const (.slice none 0 0)]⟩]) [3])
  (.seq (.seq (.reg (straight [⟨some 6, none, .pur .mov [.tmp 0]⟩, ⟨some 7, none, .eff (.call 46) [.tmp 6]⟩, ⟨some 8, none, .pur (.len false) [.tmp 7]⟩, ⟨some 9, none, .pur .mov [.const (.int .i64 0)]⟩]) [7, 8, 9])
  (.block 0 (.loop S_log_Log_Loops_L1)))
  (.seq (.reg (straight [⟨some 24, none, .pur .mov [.tmp 3]⟩, ⟨some 2, none, .pur .mov [.tmp 24]⟩]) [2])
  (.ret))))⟩
theorem K_log_Log_Loops : compF Try.prog 12 = some S_log_Log_Loops := by kernel_rfl

-- 13
def S_forebaylaw24_of : Fun := ⟨21, [6, 7, 2, 0, 1, 10, 15, 8, 9, 5], [.tmp 6, .tmp 7],
  .seq (.reg (straight [⟨some 5, none, .eff (.box 3) [.tmp 2]⟩, ⟨some 6, none, .pur .mov [.const (.slice none 0 0)]⟩, ⟨some 7, none, .pur .mov [.const (.slice none 0 0)]⟩]) [5, 6, 7])
  (.seq (.reg (straight [⟨some 8, none, .eff (.new 22 [.slice none 0 0]) []⟩]) [8])
  (.seq (.reg (straight [⟨some 9, none, .eff (.new 29 [.slice none 0 0]) []⟩]) [9])
  (.seq (.reg (straight [⟨some 11, none, .pur .mov [.tmp 0]⟩, ⟨some 12, none, .pur .mov [.tmp 1]⟩, ⟨some 13, none, .eff (.call 48) [.tmp 11, .tmp 12]⟩, ⟨some 10, none, .pur .mov [.tmp 13]⟩]) [10])
  (.seq (.seq (.reg (straight [⟨some 14, none, .pur .mov [.tmp 10]⟩, ⟨some 15, none, .pur (.eqn false 2) [.tmp 14]⟩]) [15])
  (.cond (.tmp 15) (.seq (.reg (straight [⟨some 6, none, .pur .mov [.const (.slice none 0 0)]⟩, ⟨some 7, none, .pur .mov [.const (.slice none 0 0)]⟩]) [6, 7])
  (.ret)) (.skip)))
  (.seq (.reg (straight [⟨some 16, none, .pur .mov [.tmp 10]⟩, ⟨some 17, none, .pur (.mkf (.func 49) 0) [.tmp 8, .tmp 9, .tmp 5]⟩, ⟨some 18, none, .eff .callv [.tmp 16, .tmp 17]⟩]) [])
  (.seq (.reg (straight [⟨some 19, none, .ld none (.tmp 8)⟩, ⟨some 20, none, .ld none (.tmp 9)⟩, ⟨some 6, none, .pur .mov [.tmp 19]⟩, ⟨some 7, none, .pur .mov [.tmp 20]⟩]) [6, 7])
  (.ret)))))))⟩
theorem K_forebaylaw24_of : compF Try.prog 13 = some S_forebaylaw24_of := by kernel_rfl

-- 42
def S_log_Log_Last_R1a : SCode :=
  .reg (straight [⟨some 11, none, .eff (.new 28 [.int .i64 0, .int .i64 0, .int .i64 0, .int .i64 0]) []⟩, ⟨none, none, .eff (.st 4) [.tmp 11, .tmp 16]⟩]) [11]
def S_log_Log_Last_R1b : SCode :=
  .block 1 (.seq (.reg (straight [⟨some 17, none, .pur (.fla 2) [.tmp 11]⟩, ⟨some 18, none, .ld none (.tmp 17)⟩, ⟨some 19, none, .ld none (.tmp 5)⟩, ⟨some 20, none, .pur (.bin .eql) [.tmp 18, .tmp 19]⟩]) [20])
  (.cond (.tmp 20) (.reg (straight [⟨some 21, none, .ld (some 4) (.tmp 11)⟩, ⟨none, none, .eff (.st 4) [.tmp 8, .tmp 21]⟩, ⟨none, none, .eff (.st 1) [.tmp 9, .const (.bool true)]⟩]) []) (.skip)))
def S_log_Log_Last : Fun := ⟨24, [6, 7, 2, 0, 1, 14, 15, 16, 11, 5, 20, 8, 9], [.cell 6 (some 4), .tmp 7],
  .seq (.reg (straight [⟨some 5, none, .eff (.box 3) [.tmp 2]⟩, ⟨some 6, none, .eff (.new 28 [.int .i64 0, .int .i64 0, .int .i64 0, .int .i64 0]) []⟩, ⟨some 7, none, .pur .mov [.const (.bool false)]⟩]) [5, 6, 7])
  (.seq (.reg (straight [⟨some 8, none, .eff (.new 28 [.int .i64 0, .int .i64 0, .int .i64 0, .int .i64 0]) []⟩]) [8])
  (.seq (.reg (straight [⟨some 9, none, .eff (.new 4 [.bool false]) []⟩, ⟨none, none, .eff (.st 1) [.tmp 9, .const (.bool false)]⟩]) [9])
  (.seq (.seq (.reg (straight [⟨some 12, none, .pur .mov [.tmp 0]⟩, ⟨some 13, none, .pur .mov [.tmp 1]⟩, ⟨some 14, none, .eff (.call 48) [.tmp 12, .tmp 13]⟩]) [14])
  (.block 0 (.rf (.tmp 14) [15, 16] S_log_Log_Last_R1a S_log_Log_Last_R1b)))
  (.seq (.reg (.run ⟨some 22, none, .ld (some 4) (.tmp 8)⟩ (.run ⟨some 23, none, .ld none (.tmp 9)⟩ (.eff ⟨none, none, .eff (.st 4) [.tmp 6, .tmp 22]⟩ [⟨some 23, none, .ld none (.tmp 9)⟩] (.run ⟨some 7, none, .pur .mov [.tmp 23]⟩ .done)))) [7])
  (.ret)))))⟩
theorem K_log_Log_Last : compF Try.prog 42 = some S_log_Log_Last := by kernel_rfl

-- 43
def S_log_Log_Len : Fun := ⟨6, [2, 0], [.tmp 2],
  .seq (.reg (straight [⟨some 2, none, .pur .mov [.const (.int .i64 0)]⟩]) [2])
  (.seq (.reg (straight [⟨some 3, none, .pur .mov [.tmp 0]⟩, ⟨some 4, none, .eff (.call 46) [.tmp 3]⟩, ⟨some 5, none, .pur (.len false) [.tmp 4]⟩, ⟨some 2, none, .pur .mov [.tmp 5]⟩]) [2])
  (.ret))⟩
theorem K_log_Log_Len : compF Try.prog 43 = some S_log_Log_Len := by kernel_rfl

-- 44
def S_log_Log_Count_R1a : SCode :=
  .skip
def S_log_Log_Count_R1b : SCode :=
  .block 1 (.reg (straight [⟨some 11, none, .ld none (.tmp 5)⟩, ⟨some 12, none, .pur (.bin .add) [.tmp 11, .const (.int .i64 1)]⟩, ⟨none, none, .eff (.st 1) [.tmp 5, .tmp 12]⟩]) [])
def S_log_Log_Count : Fun := ⟨14, [4, 1, 0, 3, 8, 9, 10, 5], [.tmp 4],
  .seq (.reg (straight [⟨some 3, none, .eff (.box 3) [.tmp 1]⟩, ⟨some 4, none, .pur .mov [.const (.int .i64 0)]⟩]) [3, 4])
  (.seq (.reg (straight [⟨some 5, none, .eff (.new 3 [.int .i64 0]) []⟩, ⟨none, none, .eff (.st 1) [.tmp 5, .const (.int .i64 0)]⟩]) [5])
  (.seq (.seq (.reg (straight [⟨some 6, none, .pur .mov [.tmp 0]⟩, ⟨some 7, none, .pur (.mkf (.func 79) 0) [.tmp 3]⟩, ⟨some 8, none, .eff (.call 78) [.tmp 6, .tmp 7]⟩]) [8])
  (.block 0 (.rf (.tmp 8) [9, 10] S_log_Log_Count_R1a S_log_Log_Count_R1b)))
  (.seq (.reg (straight [⟨some 13, none, .ld none (.tmp 5)⟩, ⟨some 4, none, .pur .mov [.tmp 13]⟩]) [4])
  (.ret))))⟩
theorem K_log_Log_Count : compF Try.prog 44 = some S_log_Log_Count := by kernel_rfl

-- 46
def S_log_Log_all : Fun := ⟨9, [2, 0, 4], [.tmp 2],
  .seq (.reg (straight [⟨some 2, none, .pur .mov [.const (.slice none 0 0)]⟩]) [2])
  (.seq (.seq (.reg (straight [⟨some 3, none, .pur .mov [.tmp 0]⟩, ⟨some 4, none, .pur (.eqn false 0) [.tmp 3]⟩]) [4])
  (.cond (.tmp 4) (.seq (.reg (straight [⟨some 2, none, .pur .mov [.const (.slice none 0 0)]⟩]) [2])
  (.ret)) (.skip)))
  (.seq (.reg (straight [⟨some 5, none, .pur .mov [.tmp 0]⟩, ⟨some 6, none, .pur .nilc [.tmp 5]⟩, ⟨some 7, none, .pur (.fla 0) [.tmp 6]⟩, ⟨some 8, none, .ld none (.tmp 7)⟩, ⟨some 2, none, .pur .mov [.tmp 8]⟩]) [2])
  (.ret)))⟩
theorem K_log_Log_all : compF Try.prog 46 = some S_log_Log_all := by kernel_rfl

-- 47
def S_slices_Contains_int_int : Fun := ⟨9, [4, 0, 1], [.tmp 4],
  .seq (.reg (straight [⟨some 4, none, .pur .mov [.const (.bool false)]⟩]) [4])
  (.seq (.reg (straight [⟨some 5, none, .pur .mov [.tmp 0]⟩, ⟨some 6, none, .pur .mov [.tmp 1]⟩, ⟨some 7, none, .eff (.call 80) [.tmp 5, .tmp 6]⟩, ⟨some 8, none, .pur (.bin .geq) [.tmp 7, .const (.int .i64 0)]⟩, ⟨some 4, none, .pur .mov [.tmp 8]⟩]) [4])
  (.ret))⟩
theorem K_slices_Contains_int_int : compF Try.prog 47 = some S_slices_Contains_int_int := by kernel_rfl

-- 48
def S_log_Log_Of : Fun := ⟨8, [4, 1, 0, 3], [.tmp 4],
  .seq (.reg (straight [⟨some 3, none, .eff (.box 3) [.tmp 1]⟩, ⟨some 4, none, .pur .mov [.const .nilFunc]⟩]) [3, 4])
  (.seq (.reg (straight [⟨some 5, none, .pur .mov [.tmp 0]⟩, ⟨some 6, none, .pur (.mkf (.func 81) 0) [.tmp 3]⟩, ⟨some 7, none, .eff (.call 78) [.tmp 5, .tmp 6]⟩, ⟨some 4, none, .pur .mov [.tmp 7]⟩]) [4])
  (.ret))⟩
theorem K_log_Log_Of : compF Try.prog 48 = some S_log_Log_Of := by kernel_rfl

-- 49
def S_forebaylaw24_of_1 : Fun := ⟨20, [7, 1, 2, 6, 3, 0, 4], [.tmp 7],
  .seq (.reg (straight [⟨some 6, none, .eff (.box 28) [.tmp 1]⟩, ⟨some 7, none, .pur .mov [.const (.bool false)]⟩]) [6, 7])
  (.seq (.reg (straight [⟨some 8, none, .ld none (.tmp 2)⟩, ⟨some 9, none, .ld (some 4) (.tmp 6)⟩, ⟨some 10, none, .eff (.bsl 28 4) [.tmp 9]⟩, ⟨some 11, none, .eff (.app 28 4 32 [.int .i64 0, .int .i64 0, .int .i64 0, .int .i64 0]) [.tmp 8, .tmp 10]⟩, ⟨none, none, .eff (.st 1) [.tmp 2, .tmp 11]⟩]) [])
  (.seq (.reg (straight [⟨some 12, none, .ld none (.tmp 3)⟩, ⟨some 13, none, .pur .mov [.tmp 0]⟩, ⟨some 14, none, .eff (.bsl 3 1) [.tmp 13]⟩, ⟨some 15, none, .eff (.app 3 1 8 [.int .i64 0]) [.tmp 12, .tmp 14]⟩, ⟨none, none, .eff (.st 1) [.tmp 3, .tmp 15]⟩]) [])
  (.seq (.reg (straight [⟨some 16, none, .ld none (.tmp 2)⟩, ⟨some 17, none, .pur (.len false) [.tmp 16]⟩, ⟨some 18, none, .ld none (.tmp 4)⟩, ⟨some 19, none, .pur (.bin .lss) [.tmp 17, .tmp 18]⟩, ⟨some 7, none, .pur .mov [.tmp 19]⟩]) [7])
  (.ret))))⟩
theorem K_forebaylaw24_of_1 : compF Try.prog 49 = some S_forebaylaw24_of_1 := by kernel_rfl

-- 78
def S_log_Log_those : Fun := ⟨6, [4, 0, 1, 2, 3], [.tmp 4],
  .seq (.reg (straight [⟨some 2, none, .eff (.box 24) [.tmp 0]⟩, ⟨some 3, none, .eff (.box 148) [.tmp 1]⟩, ⟨some 4, none, .pur .mov [.const .nilFunc]⟩]) [2, 3, 4])
  (.seq (.reg (straight [⟨some 5, none, .pur (.mkf (.func 111) 0) [.tmp 2, .tmp 3]⟩, ⟨some 4, none, .pur .mov [.tmp 5]⟩]) [4])
  (.ret))⟩
theorem K_log_Log_those : compF Try.prog 78 = some S_log_Log_those := by kernel_rfl

-- 79
def S_log_Log_Count_1 : Fun := ⟨8, [3, 0, 2, 1], [.tmp 3],
  .seq (.reg (straight [⟨some 2, none, .eff (.box 28) [.tmp 0]⟩, ⟨some 3, none, .pur .mov [.const (.bool false)]⟩]) [2, 3])
  (.seq (.reg (straight [⟨some 4, none, .pur (.fla 0) [.tmp 2]⟩, ⟨some 5, none, .ld none (.tmp 4)⟩, ⟨some 6, none, .ld none (.tmp 1)⟩, ⟨some 7, none, .pur (.bin .eql) [.tmp 5, .tmp 6]⟩, ⟨some 3, none, .pur .mov [.tmp 7]⟩]) [3])
  (.ret))⟩
theorem K_log_Log_Count_1 : compF Try.prog 79 = some S_log_Log_Count_1 := by kernel_rfl

-- 80
def S_slices_Index_int_int_L1 : SCode :=
  .seq (.reg (straight [⟨some 9, none, .pur (.bin .lss) [.tmp 8, .tmp 7]⟩]) [9])
  (.seq (.cond (.tmp 9) (.skip) (.exit 0))
  (.seq (.block 1 (.seq (.reg (straight [⟨some 10, none, .pur .mov [.tmp 8]⟩, ⟨some 5, none, .pur .mov [.tmp 10]⟩]) [5])
  (.seq (.reg (straight [⟨some 11, none, .pur .mov [.tmp 1]⟩, ⟨some 12, none, .pur .mov [.tmp 0]⟩, ⟨some 13, none, .pur .mov [.tmp 5]⟩, ⟨some 14, none, .pur (.ixa 1) [.tmp 12, .tmp 13]⟩, ⟨some 15, none, .ld none (.tmp 14)⟩, ⟨some 16, none, .pur (.bin .eql) [.tmp 11, .tmp 15]⟩]) [16])
  (.cond (.tmp 16) (.seq (.reg (straight [⟨some 17, none, .pur .mov [.tmp 5]⟩, ⟨some 4, none, .pur .mov [.tmp 17]⟩]) [4])
  (.ret)) (.skip)))))
  (.reg (straight [⟨some 18, none, .pur (.bin .add) [.tmp 8, .const (.int .i64 1)]⟩, ⟨some 8, none, .pur .mov [.tmp 18]⟩]) [8])))
def S_slices_Index_int_int : Fun := ⟨19, [4, 0, 8, 7, 9, 1, 5, 16], [.tmp 4],
  .seq (.reg (straight [⟨some 4, none, .pur .mov [.const (.int .i64 0)]⟩]) [4])
  (.seq (.seq (.reg (straight [⟨some 6, none, .pur .mov [.tmp 0]⟩, ⟨some 7, none, .pur (.len false) [.tmp 6]⟩, ⟨some 8, none, .pur .mov [.const (.int .i64 0)]⟩]) [7, 8])
  (.block 0 (.loop S_slices_Index_int_int_L1)))
  (.seq (.reg (straight [⟨some 4, none, .pur .mov [.const (.int .i64 (-1))]⟩]) [4])
  (.ret)))⟩
theorem K_slices_Index_int_int : compF Try.prog 80 = some S_slices_Index_int_int := by kernel_rfl

-- 81
def S_log_Log_Of_1 : Fun := ⟨8, [3, 0, 2, 1], [.tmp 3],
  .seq (.reg (straight [⟨some 2, none, .eff (.box 28) [.tmp 0]⟩, ⟨some 3, none, .pur .mov [.const (.bool false)]⟩]) [2, 3])
  (.seq (.reg (straight [⟨some 4, none, .pur (.fla 1) [.tmp 2]⟩, ⟨some 5, none, .ld none (.tmp 4)⟩, ⟨some 6, none, .ld none (.tmp 1)⟩, ⟨some 7, none, .pur (.bin .eql) [.tmp 5, .tmp 6]⟩, ⟨some 3, none, .pur .mov [.tmp 7]⟩]) [3])
  (.ret))⟩
theorem K_log_Log_Of_1 : compF Try.prog 81 = some S_log_Log_Of_1 := by kernel_rfl

-- 111
def S_log_Log_those_1_L1 : SCode :=
  .seq (.reg (straight [⟨some 10, none, .pur (.bin .lss) [.tmp 9, .tmp 8]⟩]) [10])
  (.seq (.cond (.tmp 10) (.skip) (.exit 0))
  (.seq (.block 1 (.seq (.reg (straight [⟨some 11, none, .pur .mov [.tmp 9]⟩, ⟨some 12, none, .pur (.ixa 4) [.tmp 7, .tmp 9]⟩, ⟨some 13, none, .ld (some 4) (.tmp 12)⟩, ⟨some 5, none, .eff (.new 28 [.int .i64 0, .int .i64 0, .int .i64 0, .int .i64 0]) []⟩, ⟨some 4, none, .pur .mov [.tmp 11]⟩, ⟨none, none, .eff (.st 4) [.tmp 5, .tmp 13]⟩]) [5, 4])
  (.seq (.reg (straight [⟨some 14, none, .ld none (.tmp 2)⟩, ⟨some 15, none, .ld (some 4) (.tmp 5)⟩, ⟨some 16, none, .eff .callv [.tmp 14, .tmp 15]⟩, ⟨some 17, none, .pur .mov [.tmp 16]⟩, ⟨some 18, some (17, true), .pur .mov [.tmp 0]⟩, ⟨some 19, some (17, true), .pur .mov [.tmp 4]⟩, ⟨some 20, some (17, true), .ld (some 4) (.tmp 5)⟩, ⟨some 21, some (17, true), .eff .callv [.tmp 18, .tmp 19, .tmp 20]⟩, ⟨some 22, some (17, true), .pur .not [.tmp 21]⟩, ⟨some 23, none, .pur .pick [.tmp 17, .tmp 22, .const (.bool false)]⟩]) [23])
  (.cond (.tmp 23) (.ret) (.skip)))))
  (.reg (straight [⟨some 24, none, .pur (.bin .add) [.tmp 9, .const (.int .i64 1)]⟩, ⟨some 9, none, .pur .mov [.tmp 24]⟩]) [9])))
def S_log_Log_those_1 : Fun := ⟨25, [1, 9, 8, 10, 7, 2, 5, 0, 4, 23], [],
  .seq (.reg (straight [⟨some 6, none, .ld none (.tmp 1)⟩, ⟨some 7, none, .eff (.call 46) [.tmp 6]⟩, ⟨some 8, none, .pur (.len false) [.tmp 7]⟩, ⟨some 9, none, .pur .mov [.const (.int .i64 0)]⟩]) [7, 8, 9])
  (.block 0 (.loop S_log_Log_those_1_L1))⟩
theorem K_log_Log_those_1 : compF Try.prog 111 = some S_log_Log_those_1 := by kernel_rfl

end Go.Proofs.Ythgmfjkbgacfaaa
