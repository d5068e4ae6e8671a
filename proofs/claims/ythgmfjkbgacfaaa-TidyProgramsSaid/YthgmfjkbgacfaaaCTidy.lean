import Derived.Test.YthgmfjkbgacfaaaKj
import Derived.Test.YthgmfjkbgacfaaaProg
import Derived.KernelRfl
namespace Go.Proofs.Ythgmfjkbgacfaaa
open Go Go.Kx Go.Proofs
set_option linter.unusedVariables false
set_option maxRecDepth 100000

-- 6
def S_forebaylaw42_TidyPrograms : Fun := ⟨74, [2, 0, 13, 1, 15, 5, 8, 4, 7, 3, 6, 42, 44, 11, 10, 9], [.tmp 2],
  .seq (.reg (straight [⟨some 1, none, .eff (.box 55) [.tmp 0]⟩, ⟨some 2, none, .pur .mov [.const (.bool false)]⟩]) [1, 2])
  (.seq (.seq (.reg (straight [⟨some 12, none, .eff (.call 25) []⟩, ⟨some 13, none, .pur .not [.tmp 12]⟩]) [13])
  (.cond (.tmp 13) (.seq (.reg (straight [⟨some 2, none, .pur .mov [.const (.bool false)]⟩]) [2])
  (.ret)) (.skip)))
  (.seq (.seq (.reg (straight [⟨some 14, none, .ld (some 2) (.tmp 1)⟩, ⟨some 15, none, .eff (.call 26) [.tmp 14]⟩]) [15])
  (.cond (.tmp 15) (.seq (.reg (straight [⟨some 2, none, .pur .mov [.const (.bool true)]⟩]) [2])
  (.ret)) (.skip)))
  (.seq (.reg (straight [⟨some 17, none, .ld (some 2) (.tmp 1)⟩, ⟨some 18, none, .eff (.call 28) [.tmp 17]⟩, ⟨some 19, none, .eff (.call 27) [.tmp 18]⟩, ⟨some 16, none, .pur .mov [.tmp 19]⟩, ⟨some 20, none, .pur (.ext 0) [.tmp 16]⟩, ⟨some 21, none, .pur (.ext 1) [.tmp 16]⟩, ⟨some 22, none, .pur (.ext 2) [.tmp 16]⟩, ⟨some 3, none, .eff (.new 55 [.int .i64 0, .slice none 0 0]) []⟩, ⟨none, none, .eff (.st 2) [.tmp 3, .tmp 20]⟩, ⟨some 4, none, .pur .mov [.tmp 21]⟩, ⟨some 5, none, .pur .mov [.tmp 22]⟩]) [3, 4, 5])
  (.seq (.reg (straight [⟨some 24, none, .ld (some 2) (.tmp 1)⟩, ⟨some 25, none, .eff (.call 29) [.tmp 24]⟩, ⟨some 23, none, .pur .mov [.tmp 25]⟩, ⟨some 26, none, .pur (.ext 0) [.tmp 23]⟩, ⟨some 27, none, .pur (.ext 1) [.tmp 23]⟩, ⟨some 28, none, .pur (.ext 2) [.tmp 23]⟩, ⟨some 6, none, .eff (.new 55 [.int .i64 0, .slice none 0 0]) []⟩, ⟨none, none, .eff (.st 2) [.tmp 6, .tmp 26]⟩, ⟨some 7, none, .pur .mov [.tmp 27]⟩, ⟨some 8, none, .pur .mov [.tmp 28]⟩]) [6, 7, 8])
  (.seq (.seq (.reg (straight [⟨some 29, none, .pur .mov [.tmp 5]⟩, ⟨some 30, none, .pur .mov [.tmp 8]⟩, ⟨some 31, none, .pur (.bin .neq) [.tmp 29, .tmp 30]⟩, ⟨some 32, none, .pur .mov [.tmp 31]⟩, ⟨some 33, some (32, false), .pur .mov [.tmp 4]⟩, ⟨some 34, some (32, false), .pur .mov [.tmp 7]⟩, ⟨some 35, some (32, false), .pur (.bin .neq) [.tmp 33, .tmp 34]⟩, ⟨some 36, none, .pur .pick [.tmp 32, .const (.bool true), .tmp 35]⟩, ⟨some 37, none, .pur .mov [.tmp 36]⟩, ⟨some 38, some (37, false), .ld (some 2) (.tmp 3)⟩, ⟨some 39, some (37, false), .ld (some 2) (.tmp 6)⟩, ⟨some 40, some (37, false), .eff (.call 30) [.tmp 38, .tmp 39]⟩, ⟨some 41, some (37, false), .pur .not [.tmp 40]⟩, ⟨some 42, none, .pur .pick [.tmp 37, .const (.bool true), .tmp 41]⟩]) [42])
  (.cond (.tmp 42) (.seq (.reg (straight [⟨some 2, none, .pur .mov [.const (.bool false)]⟩]) [2])
  (.ret)) (.skip)))
  (.seq (.seq (.reg (straight [⟨some 43, none, .pur .mov [.tmp 8]⟩, ⟨some 44, none, .pur (.bin .neq) [.tmp 43, .const (.int .i64 0)]⟩]) [44])
  (.cond (.tmp 44) (.seq (.reg (straight [⟨some 45, none, .pur .mov [.tmp 4]⟩, ⟨some 46, none, .pur (.bin .eql) [.tmp 45, .const (.int .i64 0)]⟩, ⟨some 2, none, .pur .mov [.tmp 46]⟩]) [2])
  (.ret)) (.skip)))
  (.seq (.reg (straight [⟨some 48, none, .ld (some 2) (.tmp 3)⟩, ⟨some 49, none, .eff (.call 28) [.tmp 48]⟩, ⟨some 50, none, .eff (.call 27) [.tmp 49]⟩, ⟨some 47, none, .pur .mov [.tmp 50]⟩, ⟨some 51, none, .pur (.ext 0) [.tmp 47]⟩, ⟨some 52, none, .pur (.ext 1) [.tmp 47]⟩, ⟨some 53, none, .pur (.ext 2) [.tmp 47]⟩, ⟨some 9, none, .eff (.new 55 [.int .i64 0, .slice none 0 0]) []⟩, ⟨none, none, .eff (.st 2) [.tmp 9, .tmp 51]⟩, ⟨some 10, none, .pur .mov [.tmp 52]⟩, ⟨some 11, none, .pur .mov [.tmp 53]⟩]) [9, 10, 11])
  (.seq (.reg (straight [⟨some 54, none, .pur .mov [.tmp 4]⟩, ⟨some 55, none, .pur (.bin .geq) [.tmp 54, .const (.int .i64 0)]⟩, ⟨some 56, none, .pur .mov [.tmp 55]⟩, ⟨some 57, some (56, true), .ld (some 2) (.tmp 3)⟩, ⟨some 58, some (56, true), .eff (.call 31) [.tmp 57]⟩, ⟨some 59, some (56, true), .pur (.bin .eql) [.tmp 58, .const (.int .i64 0)]⟩, ⟨some 60, none, .pur .pick [.tmp 56, .tmp 59, .const (.bool false)]⟩, ⟨some 61, none, .pur .mov [.tmp 60]⟩, ⟨some 62, some (61, true), .pur .mov [.tmp 11]⟩, ⟨some 63, some (61, true), .pur (.bin .eql) [.tmp 62, .const (.int .i64 0)]⟩, ⟨some 64, none, .pur .pick [.tmp 61, .tmp 63, .const (.bool false)]⟩, ⟨some 65, none, .pur .mov [.tmp 64]⟩, ⟨some 66, some (65, true), .pur .mov [.tmp 10]⟩, ⟨some 67, some (65, true), .pur (.bin .eql) [.tmp 66, .const (.int .i64 0)]⟩, ⟨some 68, none, .pur .pick [.tmp 65, .tmp 67, .const (.bool false)]⟩, ⟨some 69, none, .pur .mov [.tmp 68]⟩, ⟨some 70, some (69, true), .ld (some 2) (.tmp 9)⟩, ⟨some 71, some (69, true), .ld (some 2) (.tmp 3)⟩, ⟨some 72, some (69, true), .eff (.call 30) [.tmp 70, .tmp 71]⟩, ⟨some 73, none, .pur .pick [.tmp 69, .tmp 72, .const (.bool false)]⟩, ⟨some 2, none, .pur .mov [.tmp 73]⟩]) [2])
  (.ret)))))))))⟩
theorem K_forebaylaw42_TidyPrograms : compF Try.prog 6 = some S_forebaylaw42_TidyPrograms := by kernel_rfl

-- 25
def S_forebaylaw42_works : Fun := ⟨63, [0, 1, 4, 3, 2, 6, 5], [.tmp 0],
  .seq (.reg (straight [⟨some 0, none, .pur .mov [.const (.bool false)]⟩]) [0])
  (.seq (.reg (straight [⟨some 7, none, .pur (.bld [.int .i64 0, .int .i64 0, .int .i64 0, .int .i64 0] [(0, 1), (1, 1)]) [.const (.int .i64 18), .const (.int .i64 2)]⟩, ⟨some 8, none, .pur (.bld [.int .i64 0, .int .i64 0, .int .i64 0, .int .i64 0] [(0, 1), (1, 1)]) [.const (.int .i64 17), .const (.int .i64 1)]⟩, ⟨some 9, none, .pur (.bld [.int .i64 0, .int .i64 0, .int .i64 0, .int .i64 0] [(0, 1), (1, 1)]) [.const (.int .i64 18), .const (.int .i64 3)]⟩, ⟨some 10, none, .pur (.bld [.int .i64 0, .int .i64 0, .int .i64 0, .int .i64 0] [(0, 1)]) [.const (.int .i64 0)]⟩, ⟨some 11, none, .eff (.bsl 115 4) [.tmp 7, .tmp 8, .tmp 9, .tmp 10]⟩, ⟨some 1, none, .pur .mov [.tmp 11]⟩]) [1])
  (.seq (.reg (straight [⟨some 13, none, .pur .mov [.tmp 1]⟩, ⟨some 14, none, .eff (.bsl 116 1) [.tmp 13]⟩, ⟨some 15, none, .pur (.bld [.int .i64 0, .slice none 0 0] [(1, 1)]) [.tmp 14]⟩, ⟨some 16, none, .eff (.call 27) [.tmp 15]⟩, ⟨some 12, none, .pur .mov [.tmp 16]⟩, ⟨some 17, none, .pur (.ext 0) [.tmp 12]⟩, ⟨some 18, none, .pur (.ext 1) [.tmp 12]⟩, ⟨some 19, none, .pur (.ext 2) [.tmp 12]⟩, ⟨some 2, none, .eff (.new 55 [.int .i64 0, .slice none 0 0]) []⟩, ⟨none, none, .eff (.st 2) [.tmp 2, .tmp 17]⟩, ⟨some 3, none, .pur .mov [.tmp 18]⟩, ⟨some 4, none, .pur .mov [.tmp 19]⟩]) [2, 3, 4])
  (.seq (.reg (straight [⟨some 21, none, .pur .mov [.tmp 1]⟩, ⟨some 22, none, .eff (.call 59) [.tmp 21]⟩, ⟨some 20, none, .pur .mov [.tmp 22]⟩, ⟨some 23, none, .pur (.ext 0) [.tmp 20]⟩, ⟨some 24, none, .pur (.ext 1) [.tmp 20]⟩, ⟨some 5, none, .pur .mov [.tmp 23]⟩, ⟨some 6, none, .pur .mov [.tmp 24]⟩]) [5, 6])
  (.seq (.reg (straight [⟨some 25, none, .pur .mov [.tmp 4]⟩, ⟨some 26, none, .pur (.bin .eql) [.tmp 25, .const (.int .i64 0)]⟩, ⟨some 27, none, .pur .mov [.tmp 26]⟩, ⟨some 28, some (27, true), .pur .mov [.tmp 3]⟩, ⟨some 29, some (27, true), .pur (.bin .eql) [.tmp 28, .const (.int .i64 3)]⟩, ⟨some 30, none, .pur .pick [.tmp 27, .tmp 29, .const (.bool false)]⟩, ⟨some 31, none, .pur .mov [.tmp 30]⟩, ⟨some 32, some (31, true), .ld (some 2) (.tmp 2)⟩, ⟨some 33, some (31, true), .pur (.bld [.int .i64 0, .int .i64 0, .int .i64 0, .int .i64 0] [(0, 1)]) [.const (.int .i64 0)]⟩, ⟨some 34, some (31, true), .eff (.bsl 115 4) [.tmp 33]⟩, ⟨some 35, some (31, true), .eff (.bsl 116 1) [.tmp 34]⟩, ⟨some 36, some (31, true), .pur (.bld [.int .i64 0, .slice none 0 0] [(1, 1)]) [.tmp 35]⟩, ⟨some 37, some (31, true), .eff (.call 30) [.tmp 32, .tmp 36]⟩, ⟨some 38, none, .pur .pick [.tmp 31, .tmp 37, .const (.bool false)]⟩, ⟨some 39, none, .pur .mov [.tmp 38]⟩, ⟨some 40, some (39, true), .pur .mov [.tmp 6]⟩, ⟨some 41, some (39, true), .pur (.bin .eql) [.tmp 40, .const (.int .i64 0)]⟩, ⟨some 42, none, .pur .pick [.tmp 39, .tmp 41, .const (.bool false)]⟩, ⟨some 43, none, .pur .mov [.tmp 42]⟩, ⟨some 44, some (43, true), .pur .mov [.tmp 5]⟩, ⟨some 45, some (43, true), .pur (.len false) [.tmp 44]⟩, ⟨some 46, some (43, true), .pur (.bin .eql) [.tmp 45, .const (.int .i64 4)]⟩, ⟨some 47, none, .pur .pick [.tmp 43, .tmp 46, .const (.bool false)]⟩, ⟨some 48, none, .pur .mov [.tmp 47]⟩, ⟨some 49, some (48, true), .pur .mov [.tmp 5]⟩, ⟨some 50, some (48, true), .pur (.ixa 1) [.tmp 49, .const (.int .i64 1)]⟩, ⟨some 51, some (48, true), .ld none (.tmp 50)⟩, ⟨some 52, some (48, true), .pur .not [.tmp 51]⟩, ⟨some 53, none, .pur .pick [.tmp 48, .tmp 52, .const (.bool false)]⟩, ⟨some 54, none, .pur .mov [.tmp 53]⟩, ⟨some 55, some (54, true), .pur .mov [.tmp 1]⟩, ⟨some 56, some (54, true), .eff (.call 60) [.tmp 55, .const (.int .i64 2)]⟩, ⟨some 57, none, .pur .pick [.tmp 54, .tmp 56, .const (.bool false)]⟩, ⟨some 58, none, .pur .mov [.tmp 57]⟩, ⟨some 59, some (58, true), .pur .mov [.tmp 1]⟩, ⟨some 60, some (58, true), .eff (.call 60) [.tmp 59, .const (.int .i64 0)]⟩, ⟨some 61, some (58, true), .pur .not [.tmp 60]⟩, ⟨some 62, none, .pur .pick [.tmp 58, .tmp 61, .const (.bool false)]⟩, ⟨some 0, none, .pur .mov [.tmp 62]⟩]) [0])
  (.ret)))))⟩
theorem K_forebaylaw42_works : compF Try.prog 25 = some S_forebaylaw42_works := by kernel_rfl

-- 26
def S_forebaylaw04_Great_L1 : SCode :=
  .seq (.seq (.reg (straight [⟨some 8, none, .pur .mov [.tmp 3]⟩, ⟨some 9, none, .pur (.fla 1) [.tmp 1]⟩, ⟨some 10, none, .ld none (.tmp 9)⟩, ⟨some 11, none, .pur (.len false) [.tmp 10]⟩, ⟨some 12, none, .pur (.bin .lss) [.tmp 8, .tmp 11]⟩]) [12])
  (.cond (.tmp 12) (.skip) (.exit 0)))
  (.seq (.block 1 (.seq (.reg (straight [⟨some 15, none, .pur (.fla 1) [.tmp 1]⟩, ⟨some 16, none, .ld none (.tmp 15)⟩, ⟨some 17, none, .pur .mov [.tmp 3]⟩, ⟨some 18, none, .pur (.ixa 1) [.tmp 16, .tmp 17]⟩, ⟨some 19, none, .ld none (.tmp 18)⟩, ⟨some 20, none, .pur (.len false) [.tmp 19]⟩, ⟨some 21, none, .pur (.bin .gtr) [.tmp 20, .const (.int .i64 300)]⟩]) [21])
  (.cond (.tmp 21) (.seq (.reg (straight [⟨some 2, none, .pur .mov [.const (.bool true)]⟩]) [2])
  (.ret)) (.skip))))
  (.reg (straight [⟨some 13, none, .pur .mov [.tmp 3]⟩, ⟨some 14, none, .pur (.bin .add) [.tmp 13, .const (.int .i64 1)]⟩, ⟨some 3, none, .pur .mov [.tmp 14]⟩]) [3]))
def S_forebaylaw04_Great : Fun := ⟨22, [2, 0, 1, 7, 3, 12, 21], [.tmp 2],
  .seq (.reg (straight [⟨some 1, none, .eff (.box 55) [.tmp 0]⟩, ⟨some 2, none, .pur .mov [.const (.bool false)]⟩]) [1, 2])
  (.seq (.seq (.reg (straight [⟨some 4, none, .pur (.fla 1) [.tmp 1]⟩, ⟨some 5, none, .ld none (.tmp 4)⟩, ⟨some 6, none, .pur (.len false) [.tmp 5]⟩, ⟨some 7, none, .pur (.bin .gtr) [.tmp 6, .const (.int .i64 40)]⟩]) [7])
  (.cond (.tmp 7) (.seq (.reg (straight [⟨some 2, none, .pur .mov [.const (.bool true)]⟩]) [2])
  (.ret)) (.skip)))
  (.seq (.seq (.reg (straight [⟨some 3, none, .pur .mov [.const (.int .i64 0)]⟩]) [3])
  (.block 0 (.loop S_forebaylaw04_Great_L1)))
  (.seq (.reg (straight [⟨some 2, none, .pur .mov [.const (.bool false)]⟩]) [2])
  (.ret))))⟩
theorem K_forebaylaw04_Great : compF Try.prog 26 = some S_forebaylaw04_Great := by kernel_rfl

-- 27
def S_tidy_Program_L2 : SCode :=
  .seq (.seq (.reg (straight [⟨some 32, none, .pur .mov [.tmp 10]⟩, ⟨some 33, none, .pur .mov [.tmp 11]⟩, ⟨some 34, none, .eff (.call 63) [.tmp 32, .tmp 33]⟩, ⟨some 35, none, .pur .not [.tmp 34]⟩]) [35])
  (.cond (.tmp 35) (.skip) (.exit 2)))
  (.seq (.block 3 (.reg (straight [⟨some 38, none, .pur .mov [.tmp 11]⟩, ⟨some 10, none, .pur .mov [.tmp 38]⟩]) [10]))
  (.reg (straight [⟨some 36, none, .pur .mov [.tmp 10]⟩, ⟨some 37, none, .eff (.call 62) [.tmp 36]⟩, ⟨some 11, none, .pur .mov [.tmp 37]⟩]) [11]))
def S_tidy_Program_L1 : SCode :=
  .seq (.reg (straight [⟨some 25, none, .pur (.bin .lss) [.tmp 24, .tmp 23]⟩]) [25])
  (.seq (.cond (.tmp 25) (.skip) (.exit 0))
  (.seq (.block 1 (.seq (.reg (straight [⟨some 26, none, .pur (.ixa 1) [.tmp 22, .tmp 24]⟩, ⟨some 27, none, .ld none (.tmp 26)⟩, ⟨some 9, none, .pur .mov [.tmp 27]⟩]) [9])
  (.seq (.reg (straight [⟨some 28, none, .pur .mov [.tmp 9]⟩, ⟨some 29, none, .eff (.call 61) [.tmp 28]⟩, ⟨some 10, none, .pur .mov [.tmp 29]⟩]) [10])
  (.seq (.seq (.reg (straight [⟨some 30, none, .pur .mov [.tmp 10]⟩, ⟨some 31, none, .eff (.call 62) [.tmp 30]⟩, ⟨some 11, none, .pur .mov [.tmp 31]⟩]) [11])
  (.block 2 (.loop S_tidy_Program_L2)))
  (.seq (.reg (straight [⟨some 39, none, .pur .mov [.tmp 7]⟩, ⟨some 40, none, .pur .mov [.tmp 9]⟩, ⟨some 41, none, .pur (.len false) [.tmp 40]⟩, ⟨some 42, none, .pur .mov [.tmp 10]⟩, ⟨some 43, none, .pur (.len false) [.tmp 42]⟩, ⟨some 44, none, .pur (.bin .sub) [.tmp 41, .tmp 43]⟩, ⟨some 45, none, .pur (.bin .add) [.tmp 39, .tmp 44]⟩, ⟨some 7, none, .pur .mov [.tmp 45]⟩]) [7])
  (.reg (straight [⟨some 46, none, .pur (.fla 1) [.tmp 6]⟩, ⟨some 47, none, .ld none (.tmp 46)⟩, ⟨some 48, none, .pur .mov [.tmp 10]⟩, ⟨some 49, none, .eff (.bsl 116 1) [.tmp 48]⟩, ⟨some 50, none, .eff (.app 116 1 24 [.slice none 0 0]) [.tmp 47, .tmp 49]⟩, ⟨some 51, none, .pur (.fla 1) [.tmp 6]⟩, ⟨none, none, .eff (.st 1) [.tmp 51, .tmp 50]⟩]) []))))))
  (.reg (straight [⟨some 52, none, .pur (.bin .add) [.tmp 24, .const (.int .i64 1)]⟩, ⟨some 24, none, .pur .mov [.tmp 52]⟩]) [24])))
def S_tidy_Program : Fun := ⟨55, [2, 3, 4, 0, 1, 5, 15, 24, 23, 25, 22, 9, 10, 11, 35, 7, 6], [.cell 2 (some 2), .tmp 3, .tmp 4],
  .seq (.reg (straight [⟨some 1, none, .eff (.box 55) [.tmp 0]⟩, ⟨some 2, none, .eff (.new 55 [.int .i64 0, .slice none 0 0]) []⟩, ⟨some 3, none, .pur .mov [.const (.int .i64 0)]⟩, ⟨some 4, none, .pur .mov [.const (.int .i64 0)]⟩]) [1, 2, 3, 4])
  (.seq (.seq (.reg (straight [⟨some 12, none, .ld (some 2) (.tmp 1)⟩, ⟨some 13, none, .eff (.call 31) [.tmp 12]⟩, ⟨some 5, none, .pur .mov [.tmp 13]⟩]) [5])
  (.seq (.reg (straight [⟨some 14, none, .pur .mov [.tmp 5]⟩, ⟨some 15, none, .pur (.bin .neq) [.tmp 14, .const (.int .i64 0)]⟩]) [15])
  (.cond (.tmp 15) (.seq (.reg (straight [⟨some 16, none, .pur (.bld [.int .i64 0, .slice none 0 0] []) []⟩, ⟨some 17, none, .pur .mov [.tmp 5]⟩, ⟨none, none, .eff (.st 2) [.tmp 2, .tmp 16]⟩, ⟨some 3, none, .pur .mov [.const (.int .i64 0)]⟩, ⟨some 4, none, .pur .mov [.tmp 17]⟩]) [3, 4])
  (.ret)) (.skip))))
  (.seq (.reg (straight [⟨some 18, none, .pur (.fla 0) [.tmp 1]⟩, ⟨some 19, none, .ld none (.tmp 18)⟩, ⟨some 20, none, .pur (.bld [.int .i64 0, .slice none 0 0] [(0, 1)]) [.tmp 19]⟩, ⟨some 6, none, .eff (.new 55 [.int .i64 0, .slice none 0 0]) []⟩, ⟨none, none, .eff (.st 2) [.tmp 6, .tmp 20]⟩, ⟨some 7, none, .pur .mov [.const (.int .i64 0)]⟩]) [6, 7])
  (.seq (.seq (.reg (straight [⟨some 21, none, .pur (.fla 1) [.tmp 1]⟩, ⟨some 22, none, .ld none (.tmp 21)⟩, ⟨some 23, none, .pur (.len false) [.tmp 22]⟩, ⟨some 24, none, .pur .mov [.const (.int .i64 0)]⟩]) [22, 23, 24])
  (.block 0 (.loop S_tidy_Program_L1)))
  (.seq (.reg (straight [⟨some 53, none, .ld (some 2) (.tmp 6)⟩, ⟨some 54, none, .pur .mov [.tmp 7]⟩, ⟨none, none, .eff (.st 2) [.tmp 2, .tmp 53]⟩, ⟨some 3, none, .pur .mov [.tmp 54]⟩, ⟨some 4, none, .pur .mov [.const (.int .i64 0)]⟩]) [3, 4])
  (.ret)))))⟩
theorem K_tidy_Program : compF Try.prog 27 = some S_tidy_Program := by kernel_rfl

-- 28
def S_forebaylaw04_Own_L1 : SCode :=
  .seq (.seq (.reg (straight [⟨some 8, none, .pur .mov [.tmp 4]⟩, ⟨some 9, none, .pur (.fla 1) [.tmp 1]⟩, ⟨some 10, none, .ld none (.tmp 9)⟩, ⟨some 11, none, .pur (.len false) [.tmp 10]⟩, ⟨some 12, none, .pur (.bin .lss) [.tmp 8, .tmp 11]⟩]) [12])
  (.cond (.tmp 12) (.skip) (.exit 0)))
  (.seq (.block 1 (.reg (.run ⟨some 15, none, .pur (.fla 1) [.tmp 3]⟩ (.run ⟨some 16, none, .ld none (.tmp 15)⟩ (.run ⟨some 18, none, .pur (.fla 1) [.tmp 1]⟩ (.run ⟨some 19, none, .ld none (.tmp 18)⟩ (.run ⟨some 20, none, .pur .mov [.tmp 4]⟩ (.run ⟨some 21, none, .pur (.ixa 1) [.tmp 19, .tmp 20]⟩ (.run ⟨some 22, none, .ld none (.tmp 21)⟩ (.eff ⟨some 17, none, .eff (.bsl 115 4) []⟩ [⟨some 22, none, .ld none (.tmp 21)⟩, ⟨some 19, none, .ld none (.tmp 18)⟩, ⟨some 16, none, .ld none (.tmp 15)⟩] (.eff ⟨some 23, none, .eff (.app 115 4 32 [.int .i64 0, .int .i64 0, .int .i64 0, .int .i64 0]) [.tmp 17, .tmp 22]⟩ [⟨some 16, none, .ld none (.tmp 15)⟩] (.eff ⟨some 24, none, .eff (.bsl 116 1) [.tmp 23]⟩ [⟨some 16, none, .ld none (.tmp 15)⟩] (.eff ⟨some 25, none, .eff (.app 116 1 24 [.slice none 0 0]) [.tmp 16, .tmp 24]⟩ [] (.run ⟨some 26, none, .pur (.fla 1) [.tmp 3]⟩ (.eff ⟨none, none, .eff (.st 1) [.tmp 26, .tmp 25]⟩ [] .done))))))))))))) []))
  (.reg (straight [⟨some 13, none, .pur .mov [.tmp 4]⟩, ⟨some 14, none, .pur (.bin .add) [.tmp 13, .const (.int .i64 1)]⟩, ⟨some 4, none, .pur .mov [.tmp 14]⟩]) [4]))
def S_forebaylaw04_Own : Fun := ⟨28, [2, 0, 1, 4, 12, 3], [.cell 2 (some 2)],
  .seq (.reg (straight [⟨some 1, none, .eff (.box 55) [.tmp 0]⟩, ⟨some 2, none, .eff (.new 55 [.int .i64 0, .slice none 0 0]) []⟩]) [1, 2])
  (.seq (.reg (straight [⟨some 5, none, .pur (.fla 0) [.tmp 1]⟩, ⟨some 6, none, .ld none (.tmp 5)⟩, ⟨some 7, none, .pur (.bld [.int .i64 0, .slice none 0 0] [(0, 1)]) [.tmp 6]⟩, ⟨some 3, none, .eff (.new 55 [.int .i64 0, .slice none 0 0]) []⟩, ⟨none, none, .eff (.st 2) [.tmp 3, .tmp 7]⟩]) [3])
  (.seq (.seq (.reg (straight [⟨some 4, none, .pur .mov [.const (.int .i64 0)]⟩]) [4])
  (.block 0 (.loop S_forebaylaw04_Own_L1)))
  (.seq (.reg (straight [⟨some 27, none, .ld (some 2) (.tmp 3)⟩, ⟨none, none, .eff (.st 2) [.tmp 2, .tmp 27]⟩]) [])
  (.ret))))⟩
theorem K_forebaylaw04_Own : compF Try.prog 28 = some S_forebaylaw04_Own := by kernel_rfl

-- 29
def S_forebayref42_Program_L3 : SCode :=
  .seq (.seq (.reg (straight [⟨some 42, none, .pur .mov [.tmp 12]⟩, ⟨some 43, none, .pur .mov [.tmp 11]⟩, ⟨some 44, none, .pur (.len false) [.tmp 43]⟩, ⟨some 45, none, .pur (.bin .lss) [.tmp 42, .tmp 44]⟩, ⟨some 46, none, .pur .mov [.tmp 45]⟩, ⟨some 47, some (46, true), .pur .mov [.tmp 10]⟩, ⟨some 48, some (46, true), .pur .not [.tmp 47]⟩, ⟨some 49, none, .pur .pick [.tmp 46, .tmp 48, .const (.bool false)]⟩]) [49])
  (.cond (.tmp 49) (.skip) (.exit 4)))
  (.seq (.block 5 (.reg (straight [⟨some 52, none, .pur .mov [.tmp 11]⟩, ⟨some 53, none, .pur .mov [.tmp 12]⟩, ⟨some 54, none, .pur (.ixa 4) [.tmp 52, .tmp 53]⟩, ⟨some 55, none, .ld (some 4) (.tmp 54)⟩, ⟨some 56, none, .pur .mov [.tmp 9]⟩, ⟨some 57, none, .pur .mov [.tmp 12]⟩, ⟨some 58, none, .pur (.ixa 4) [.tmp 56, .tmp 57]⟩, ⟨some 59, none, .ld (some 4) (.tmp 58)⟩, ⟨some 60, none, .pur (.eqs true [.int .i64, .int .i64, .int .i64, .int .i64]) [.tmp 55, .tmp 59]⟩, ⟨some 10, none, .pur .mov [.tmp 60]⟩]) [10]))
  (.reg (straight [⟨some 50, none, .pur .mov [.tmp 12]⟩, ⟨some 51, none, .pur (.bin .add) [.tmp 50, .const (.int .i64 1)]⟩, ⟨some 12, none, .pur .mov [.tmp 51]⟩]) [12]))
def S_forebayref42_Program_L2 : SCode :=
  .seq (.seq (.reg (straight [⟨some 34, none, .pur .mov [.tmp 10]⟩]) [34])
  (.cond (.tmp 34) (.skip) (.exit 2)))
  (.block 3 (.seq (.reg (straight [⟨some 35, none, .pur .mov [.tmp 9]⟩, ⟨some 36, none, .eff (.call 65) [.tmp 35]⟩, ⟨some 11, none, .pur .mov [.tmp 36]⟩]) [11])
  (.seq (.reg (straight [⟨some 37, none, .pur .mov [.tmp 11]⟩, ⟨some 38, none, .pur (.len false) [.tmp 37]⟩, ⟨some 39, none, .pur .mov [.tmp 9]⟩, ⟨some 40, none, .pur (.len false) [.tmp 39]⟩, ⟨some 41, none, .pur (.bin .neq) [.tmp 38, .tmp 40]⟩, ⟨some 10, none, .pur .mov [.tmp 41]⟩]) [10])
  (.seq (.seq (.reg (straight [⟨some 12, none, .pur .mov [.const (.int .i64 0)]⟩]) [12])
  (.block 4 (.loop S_forebayref42_Program_L3)))
  (.reg (straight [⟨some 61, none, .pur .mov [.tmp 11]⟩, ⟨some 9, none, .pur .mov [.tmp 61]⟩]) [9])))))
def S_forebayref42_Program_L1 : SCode :=
  .seq (.seq (.reg (straight [⟨some 22, none, .pur .mov [.tmp 8]⟩, ⟨some 23, none, .pur (.fla 1) [.tmp 1]⟩, ⟨some 24, none, .ld none (.tmp 23)⟩, ⟨some 25, none, .pur (.len false) [.tmp 24]⟩, ⟨some 26, none, .pur (.bin .lss) [.tmp 22, .tmp 25]⟩]) [26])
  (.cond (.tmp 26) (.skip) (.exit 0)))
  (.seq (.block 1 (.seq (.reg (straight [⟨some 29, none, .pur (.fla 1) [.tmp 1]⟩, ⟨some 30, none, .ld none (.tmp 29)⟩, ⟨some 31, none, .pur .mov [.tmp 8]⟩, ⟨some 32, none, .pur (.ixa 1) [.tmp 30, .tmp 31]⟩, ⟨some 33, none, .ld none (.tmp 32)⟩, ⟨some 9, none, .pur .mov [.tmp 33]⟩]) [9])
  (.seq (.seq (.reg (straight [⟨some 10, none, .pur .mov [.const (.bool true)]⟩]) [10])
  (.block 2 (.loop S_forebayref42_Program_L2)))
  (.seq (.reg (straight [⟨some 62, none, .pur .mov [.tmp 7]⟩, ⟨some 63, none, .pur (.fla 1) [.tmp 1]⟩, ⟨some 64, none, .ld none (.tmp 63)⟩, ⟨some 65, none, .pur .mov [.tmp 8]⟩, ⟨some 66, none, .pur (.ixa 1) [.tmp 64, .tmp 65]⟩, ⟨some 67, none, .ld none (.tmp 66)⟩, ⟨some 68, none, .pur (.len false) [.tmp 67]⟩, ⟨some 69, none, .pur (.bin .add) [.tmp 62, .tmp 68]⟩, ⟨some 70, none, .pur .mov [.tmp 9]⟩, ⟨some 71, none, .pur (.len false) [.tmp 70]⟩, ⟨some 72, none, .pur (.bin .sub) [.tmp 69, .tmp 71]⟩, ⟨some 7, none, .pur .mov [.tmp 72]⟩]) [7])
  (.reg (straight [⟨some 73, none, .pur (.fla 1) [.tmp 6]⟩, ⟨some 74, none, .ld none (.tmp 73)⟩, ⟨some 75, none, .pur .mov [.tmp 9]⟩, ⟨some 76, none, .eff (.bsl 116 1) [.tmp 75]⟩, ⟨some 77, none, .eff (.app 116 1 24 [.slice none 0 0]) [.tmp 74, .tmp 76]⟩, ⟨some 78, none, .pur (.fla 1) [.tmp 6]⟩, ⟨none, none, .eff (.st 1) [.tmp 78, .tmp 77]⟩]) [])))))
  (.reg (straight [⟨some 27, none, .pur .mov [.tmp 8]⟩, ⟨some 28, none, .pur (.bin .add) [.tmp 27, .const (.int .i64 1)]⟩, ⟨some 8, none, .pur .mov [.tmp 28]⟩]) [8]))
def S_forebayref42_Program : Fun := ⟨81, [2, 3, 4, 0, 1, 5, 16, 8, 26, 10, 34, 9, 11, 12, 49, 7, 6], [.cell 2 (some 2), .tmp 3, .tmp 4],
  .seq (.reg (straight [⟨some 1, none, .eff (.box 55) [.tmp 0]⟩, ⟨some 2, none, .eff (.new 55 [.int .i64 0, .slice none 0 0]) []⟩, ⟨some 3, none, .pur .mov [.const (.int .i64 0)]⟩, ⟨some 4, none, .pur .mov [.const (.int .i64 0)]⟩]) [1, 2, 3, 4])
  (.seq (.reg (straight [⟨some 13, none, .ld (some 2) (.tmp 1)⟩, ⟨some 14, none, .eff (.call 64) [.tmp 13]⟩, ⟨some 5, none, .pur .mov [.tmp 14]⟩]) [5])
  (.seq (.seq (.reg (straight [⟨some 15, none, .pur .mov [.tmp 5]⟩, ⟨some 16, none, .pur (.bin .neq) [.tmp 15, .const (.int .i64 0)]⟩]) [16])
  (.cond (.tmp 16) (.seq (.reg (straight [⟨some 17, none, .pur (.bld [.int .i64 0, .slice none 0 0] []) []⟩, ⟨some 18, none, .pur .mov [.tmp 5]⟩, ⟨none, none, .eff (.st 2) [.tmp 2, .tmp 17]⟩, ⟨some 3, none, .pur .mov [.const (.int .i64 0)]⟩, ⟨some 4, none, .pur .mov [.tmp 18]⟩]) [3, 4])
  (.ret)) (.skip)))
  (.seq (.reg (straight [⟨some 19, none, .pur (.fla 0) [.tmp 1]⟩, ⟨some 20, none, .ld none (.tmp 19)⟩, ⟨some 21, none, .pur (.bld [.int .i64 0, .slice none 0 0] [(0, 1)]) [.tmp 20]⟩, ⟨some 6, none, .eff (.new 55 [.int .i64 0, .slice none 0 0]) []⟩, ⟨none, none, .eff (.st 2) [.tmp 6, .tmp 21]⟩]) [6])
  (.seq (.reg (straight [⟨some 7, none, .pur .mov [.const (.int .i64 0)]⟩]) [7])
  (.seq (.seq (.reg (straight [⟨some 8, none, .pur .mov [.const (.int .i64 0)]⟩]) [8])
  (.block 0 (.loop S_forebayref42_Program_L1)))
  (.seq (.reg (straight [⟨some 79, none, .ld (some 2) (.tmp 6)⟩, ⟨some 80, none, .pur .mov [.tmp 7]⟩, ⟨none, none, .eff (.st 2) [.tmp 2, .tmp 79]⟩, ⟨some 3, none, .pur .mov [.tmp 80]⟩, ⟨some 4, none, .pur .mov [.const (.int .i64 0)]⟩]) [3, 4])
  (.ret)))))))⟩
theorem K_forebayref42_Program : compF Try.prog 29 = some S_forebayref42_Program := by kernel_rfl

-- 30
def S_forebayref04_Same_L2 : SCode :=
  .seq (.seq (.reg (straight [⟨some 41, none, .pur .mov [.tmp 6]⟩, ⟨some 42, none, .pur (.fla 1) [.tmp 2]⟩, ⟨some 43, none, .ld none (.tmp 42)⟩, ⟨some 44, none, .pur .mov [.tmp 5]⟩, ⟨some 45, none, .pur (.ixa 1) [.tmp 43, .tmp 44]⟩, ⟨some 46, none, .ld none (.tmp 45)⟩, ⟨some 47, none, .pur (.len false) [.tmp 46]⟩, ⟨some 48, none, .pur (.bin .lss) [.tmp 41, .tmp 47]⟩]) [48])
  (.cond (.tmp 48) (.skip) (.exit 2)))
  (.seq (.block 3 (.seq (.reg (straight [⟨some 51, none, .pur (.fla 1) [.tmp 2]⟩, ⟨some 52, none, .ld none (.tmp 51)⟩, ⟨some 53, none, .pur .mov [.tmp 5]⟩, ⟨some 54, none, .pur (.ixa 1) [.tmp 52, .tmp 53]⟩, ⟨some 55, none, .ld none (.tmp 54)⟩, ⟨some 56, none, .pur .mov [.tmp 6]⟩, ⟨some 57, none, .pur (.ixa 4) [.tmp 55, .tmp 56]⟩, ⟨some 58, none, .ld (some 4) (.tmp 57)⟩, ⟨some 59, none, .pur (.fla 1) [.tmp 3]⟩, ⟨some 60, none, .ld none (.tmp 59)⟩, ⟨some 61, none, .pur .mov [.tmp 5]⟩, ⟨some 62, none, .pur (.ixa 1) [.tmp 60, .tmp 61]⟩, ⟨some 63, none, .ld none (.tmp 62)⟩, ⟨some 64, none, .pur .mov [.tmp 6]⟩, ⟨some 65, none, .pur (.ixa 4) [.tmp 63, .tmp 64]⟩, ⟨some 66, none, .ld (some 4) (.tmp 65)⟩, ⟨some 67, none, .pur (.eqs true [.int .i64, .int .i64, .int .i64, .int .i64]) [.tmp 58, .tmp 66]⟩]) [67])
  (.cond (.tmp 67) (.seq (.reg (straight [⟨some 4, none, .pur .mov [.const (.bool false)]⟩]) [4])
  (.ret)) (.skip))))
  (.reg (straight [⟨some 49, none, .pur .mov [.tmp 6]⟩, ⟨some 50, none, .pur (.bin .add) [.tmp 49, .const (.int .i64 1)]⟩, ⟨some 6, none, .pur .mov [.tmp 50]⟩]) [6]))
def S_forebayref04_Same_L1 : SCode :=
  .seq (.seq (.reg (straight [⟨some 21, none, .pur .mov [.tmp 5]⟩, ⟨some 22, none, .pur (.fla 1) [.tmp 2]⟩, ⟨some 23, none, .ld none (.tmp 22)⟩, ⟨some 24, none, .pur (.len false) [.tmp 23]⟩, ⟨some 25, none, .pur (.bin .lss) [.tmp 21, .tmp 24]⟩]) [25])
  (.cond (.tmp 25) (.skip) (.exit 0)))
  (.seq (.block 1 (.seq (.seq (.reg (straight [⟨some 28, none, .pur (.fla 1) [.tmp 2]⟩, ⟨some 29, none, .ld none (.tmp 28)⟩, ⟨some 30, none, .pur .mov [.tmp 5]⟩, ⟨some 31, none, .pur (.ixa 1) [.tmp 29, .tmp 30]⟩, ⟨some 32, none, .ld none (.tmp 31)⟩, ⟨some 33, none, .pur (.len false) [.tmp 32]⟩, ⟨some 34, none, .pur (.fla 1) [.tmp 3]⟩, ⟨some 35, none, .ld none (.tmp 34)⟩, ⟨some 36, none, .pur .mov [.tmp 5]⟩, ⟨some 37, none, .pur (.ixa 1) [.tmp 35, .tmp 36]⟩, ⟨some 38, none, .ld none (.tmp 37)⟩, ⟨some 39, none, .pur (.len false) [.tmp 38]⟩, ⟨some 40, none, .pur (.bin .neq) [.tmp 33, .tmp 39]⟩]) [40])
  (.cond (.tmp 40) (.seq (.reg (straight [⟨some 4, none, .pur .mov [.const (.bool false)]⟩]) [4])
  (.ret)) (.skip)))
  (.seq (.reg (straight [⟨some 6, none, .pur .mov [.const (.int .i64 0)]⟩]) [6])
  (.block 2 (.loop S_forebayref04_Same_L2)))))
  (.reg (straight [⟨some 26, none, .pur .mov [.tmp 5]⟩, ⟨some 27, none, .pur (.bin .add) [.tmp 26, .const (.int .i64 1)]⟩, ⟨some 5, none, .pur .mov [.tmp 27]⟩]) [5]))
def S_forebayref04_Same : Fun := ⟨68, [4, 0, 1, 2, 3, 20, 5, 25, 40, 6, 48, 67], [.tmp 4],
  .seq (.reg (straight [⟨some 2, none, .eff (.box 55) [.tmp 0]⟩, ⟨some 3, none, .eff (.box 55) [.tmp 1]⟩, ⟨some 4, none, .pur .mov [.const (.bool false)]⟩]) [2, 3, 4])
  (.seq (.seq (.reg (straight [⟨some 7, none, .pur (.fla 0) [.tmp 2]⟩, ⟨some 8, none, .ld none (.tmp 7)⟩, ⟨some 9, none, .pur (.fla 0) [.tmp 3]⟩, ⟨some 10, none, .ld none (.tmp 9)⟩, ⟨some 11, none, .pur (.bin .neq) [.tmp 8, .tmp 10]⟩, ⟨some 12, none, .pur .mov [.tmp 11]⟩, ⟨some 13, some (12, false), .pur (.fla 1) [.tmp 2]⟩, ⟨some 14, some (12, false), .ld none (.tmp 13)⟩, ⟨some 15, some (12, false), .pur (.len false) [.tmp 14]⟩, ⟨some 16, some (12, false), .pur (.fla 1) [.tmp 3]⟩, ⟨some 17, some (12, false), .ld none (.tmp 16)⟩, ⟨some 18, some (12, false), .pur (.len false) [.tmp 17]⟩, ⟨some 19, some (12, false), .pur (.bin .neq) [.tmp 15, .tmp 18]⟩, ⟨some 20, none, .pur .pick [.tmp 12, .const (.bool true), .tmp 19]⟩]) [20])
  (.cond (.tmp 20) (.seq (.reg (straight [⟨some 4, none, .pur .mov [.const (.bool false)]⟩]) [4])
  (.ret)) (.skip)))
  (.seq (.seq (.reg (straight [⟨some 5, none, .pur .mov [.const (.int .i64 0)]⟩]) [5])
  (.block 0 (.loop S_forebayref04_Same_L1)))
  (.seq (.reg (straight [⟨some 4, none, .pur .mov [.const (.bool true)]⟩]) [4])
  (.ret))))⟩
theorem K_forebayref04_Same : compF Try.prog 30 = some S_forebayref04_Same := by kernel_rfl

-- 31
def S_prog_Check_L1 : SCode :=
  .seq (.reg (straight [⟨some 20, none, .pur (.bin .lss) [.tmp 19, .tmp 18]⟩]) [20])
  (.seq (.cond (.tmp 20) (.skip) (.exit 0))
  (.seq (.block 1 (.seq (.reg (straight [⟨some 21, none, .pur (.ixa 1) [.tmp 17, .tmp 19]⟩, ⟨some 22, none, .ld none (.tmp 21)⟩, ⟨some 5, none, .pur .mov [.tmp 22]⟩]) [5])
  (.seq (.reg (straight [⟨some 23, none, .pur .mov [.tmp 5]⟩, ⟨some 24, none, .pur (.fla 1) [.tmp 1]⟩, ⟨some 25, none, .ld none (.tmp 24)⟩, ⟨some 26, none, .pur (.len false) [.tmp 25]⟩, ⟨some 27, none, .eff (.call 67) [.tmp 23, .tmp 26]⟩, ⟨some 6, none, .pur .mov [.tmp 27]⟩]) [6])
  (.seq (.reg (straight [⟨some 28, none, .pur .mov [.tmp 6]⟩, ⟨some 29, none, .pur (.bin .neq) [.tmp 28, .const (.int .i64 0)]⟩]) [29])
  (.cond (.tmp 29) (.seq (.reg (straight [⟨some 30, none, .pur .mov [.tmp 6]⟩, ⟨some 2, none, .pur .mov [.tmp 30]⟩]) [2])
  (.ret)) (.skip))))))
  (.reg (straight [⟨some 31, none, .pur (.bin .add) [.tmp 19, .const (.int .i64 1)]⟩, ⟨some 19, none, .pur .mov [.tmp 31]⟩]) [19])))
def S_prog_Check : Fun := ⟨32, [2, 0, 1, 3, 14, 19, 18, 20, 17, 5, 6, 29], [.tmp 2],
  .seq (.reg (straight [⟨some 1, none, .eff (.box 55) [.tmp 0]⟩, ⟨some 2, none, .pur .mov [.const (.int .i64 0)]⟩]) [1, 2])
  (.seq (.seq (.reg (straight [⟨some 7, none, .pur (.fla 0) [.tmp 1]⟩, ⟨some 8, none, .ld none (.tmp 7)⟩, ⟨some 9, none, .pur (.fla 1) [.tmp 1]⟩, ⟨some 10, none, .ld none (.tmp 9)⟩, ⟨some 11, none, .pur (.len false) [.tmp 10]⟩, ⟨some 12, none, .eff (.call 66) [.tmp 8, .tmp 11]⟩, ⟨some 3, none, .pur .mov [.tmp 12]⟩]) [3])
  (.seq (.reg (straight [⟨some 13, none, .pur .mov [.tmp 3]⟩, ⟨some 14, none, .pur (.bin .neq) [.tmp 13, .const (.int .i64 0)]⟩]) [14])
  (.cond (.tmp 14) (.seq (.reg (straight [⟨some 15, none, .pur .mov [.tmp 3]⟩, ⟨some 2, none, .pur .mov [.tmp 15]⟩]) [2])
  (.ret)) (.skip))))
  (.seq (.seq (.reg (straight [⟨some 16, none, .pur (.fla 1) [.tmp 1]⟩, ⟨some 17, none, .ld none (.tmp 16)⟩, ⟨some 18, none, .pur (.len false) [.tmp 17]⟩, ⟨some 19, none, .pur .mov [.const (.int .i64 0)]⟩]) [17, 18, 19])
  (.block 0 (.loop S_prog_Check_L1)))
  (.seq (.reg (straight [⟨some 2, none, .pur .mov [.const (.int .i64 0)]⟩]) [2])
  (.ret))))⟩
theorem K_prog_Check : compF Try.prog 31 = some S_prog_Check := by kernel_rfl

-- 59
def S_tidy_Reached : Fun := ⟨12, [2, 3, 0, 4, 8], [.tmp 2, .tmp 3],
  .seq (.reg (straight [⟨some 2, none, .pur .mov [.const (.slice none 0 0)]⟩, ⟨some 3, none, .pur .mov [.const (.int .i64 0)]⟩]) [2, 3])
  (.seq (.seq (.reg (straight [⟨some 5, none, .pur .mov [.tmp 0]⟩, ⟨some 6, none, .eff (.call 90) [.tmp 5]⟩, ⟨some 4, none, .pur .mov [.tmp 6]⟩]) [4])
  (.seq (.reg (straight [⟨some 7, none, .pur .mov [.tmp 4]⟩, ⟨some 8, none, .pur (.bin .neq) [.tmp 7, .const (.int .i64 0)]⟩]) [8])
  (.cond (.tmp 8) (.seq (.reg (straight [⟨some 9, none, .pur .mov [.tmp 4]⟩, ⟨some 2, none, .pur .mov [.const (.slice none 0 0)]⟩, ⟨some 3, none, .pur .mov [.tmp 9]⟩]) [2, 3])
  (.ret)) (.skip))))
  (.seq (.reg (straight [⟨some 10, none, .pur .mov [.tmp 0]⟩, ⟨some 11, none, .eff (.call 91) [.tmp 10]⟩, ⟨some 2, none, .pur .mov [.tmp 11]⟩, ⟨some 3, none, .pur .mov [.const (.int .i64 0)]⟩]) [2, 3])
  (.ret)))⟩
theorem K_tidy_Reached : compF Try.prog 59 = some S_tidy_Reached := by kernel_rfl

-- 60
def S_tidy_Useless : Fun := ⟨38, [4, 1, 0, 14, 5, 21, 6], [.tmp 4],
  .seq (.reg (straight [⟨some 4, none, .pur .mov [.const (.bool false)]⟩]) [4])
  (.seq (.seq (.reg (straight [⟨some 7, none, .pur .mov [.tmp 1]⟩, ⟨some 8, none, .pur (.bin .lss) [.tmp 7, .const (.int .i64 0)]⟩, ⟨some 9, none, .pur .mov [.tmp 8]⟩, ⟨some 10, some (9, false), .pur .mov [.tmp 1]⟩, ⟨some 11, some (9, false), .pur .mov [.tmp 0]⟩, ⟨some 12, some (9, false), .pur (.len false) [.tmp 11]⟩, ⟨some 13, some (9, false), .pur (.bin .geq) [.tmp 10, .tmp 12]⟩, ⟨some 14, none, .pur .pick [.tmp 9, .const (.bool true), .tmp 13]⟩]) [14])
  (.cond (.tmp 14) (.seq (.reg (straight [⟨some 4, none, .pur .mov [.const (.bool false)]⟩]) [4])
  (.ret)) (.skip)))
  (.seq (.reg (straight [⟨some 15, none, .pur .mov [.tmp 0]⟩, ⟨some 16, none, .pur .mov [.tmp 1]⟩, ⟨some 17, none, .pur (.ixa 4) [.tmp 15, .tmp 16]⟩, ⟨some 18, none, .ld (some 4) (.tmp 17)⟩, ⟨some 5, none, .eff (.new 115 [.int .i64 0, .int .i64 0, .int .i64 0, .int .i64 0]) []⟩, ⟨none, none, .eff (.st 4) [.tmp 5, .tmp 18]⟩]) [5])
  (.seq (.seq (.reg (straight [⟨some 19, none, .pur (.fla 0) [.tmp 5]⟩, ⟨some 20, none, .ld none (.tmp 19)⟩, ⟨some 21, none, .pur (.bin .eql) [.tmp 20, .const (.int .i64 2)]⟩]) [21])
  (.cond (.tmp 21) (.seq (.reg (straight [⟨some 22, none, .pur (.fla 1) [.tmp 5]⟩, ⟨some 23, none, .ld none (.tmp 22)⟩, ⟨some 24, none, .pur (.fla 2) [.tmp 5]⟩, ⟨some 25, none, .ld none (.tmp 24)⟩, ⟨some 26, none, .pur (.bin .eql) [.tmp 23, .tmp 25]⟩, ⟨some 4, none, .pur .mov [.tmp 26]⟩]) [4])
  (.ret)) (.skip)))
  (.seq (.reg (straight [⟨some 27, none, .eff (.call 92) [.tmp 5]⟩, ⟨some 6, none, .pur .mov [.tmp 27]⟩]) [6])
  (.seq (.reg (straight [⟨some 28, none, .pur .mov [.tmp 6]⟩, ⟨some 29, none, .pur (.eqn true 0) [.tmp 28]⟩, ⟨some 30, none, .pur .mov [.tmp 29]⟩, ⟨some 31, some (30, true), .pur .mov [.tmp 6]⟩, ⟨some 32, some (30, true), .pur .nilc [.tmp 31]⟩, ⟨some 33, some (30, true), .ld none (.tmp 32)⟩, ⟨some 34, some (30, true), .pur .mov [.tmp 1]⟩, ⟨some 35, some (30, true), .pur (.bin .add) [.tmp 34, .const (.int .i64 1)]⟩, ⟨some 36, some (30, true), .pur (.bin .eql) [.tmp 33, .tmp 35]⟩, ⟨some 37, none, .pur .pick [.tmp 30, .tmp 36, .const (.bool false)]⟩, ⟨some 4, none, .pur .mov [.tmp 37]⟩]) [4])
  (.ret))))))⟩
theorem K_tidy_Useless : compF Try.prog 60 = some S_tidy_Useless := by kernel_rfl

-- 61
def S_slices_Clone_api_Ins_api_Ins : Fun := ⟨8, [2, 0, 4], [.tmp 2],
  .seq (.reg (straight [⟨some 2, none, .pur .mov [.const (.slice none 0 0)]⟩]) [2])
  (.seq (.seq (.reg (straight [⟨some 3, none, .pur .mov [.tmp 0]⟩, ⟨some 4, none, .pur (.eqn false 1) [.tmp 3]⟩]) [4])
  (.cond (.tmp 4) (.seq (.reg (straight [⟨some 2, none, .pur .mov [.const (.slice none 0 0)]⟩]) [2])
  (.ret)) (.skip)))
  (.seq (.reg (straight [⟨some 5, none, .eff (.bsl 115 4) []⟩, ⟨some 6, none, .pur .mov [.tmp 0]⟩, ⟨some 7, none, .eff (.app 115 4 32 [.int .i64 0, .int .i64 0, .int .i64 0, .int .i64 0]) [.tmp 5, .tmp 6]⟩, ⟨some 2, none, .pur .mov [.tmp 7]⟩]) [2])
  (.ret)))⟩
theorem K_slices_Clone_api_Ins_api_Ins : compF Try.prog 61 = some S_slices_Clone_api_Ins_api_Ins := by kernel_rfl

-- 62
def S_tidy_round_L1 : SCode :=
  .seq (.reg (straight [⟨some 22, none, .pur (.bin .lss) [.tmp 21, .tmp 20]⟩]) [22])
  (.seq (.cond (.tmp 22) (.skip) (.exit 0))
  (.seq (.block 1 (.seq (.reg (straight [⟨some 23, none, .pur .mov [.tmp 21]⟩, ⟨some 24, none, .pur (.ixa 4) [.tmp 19, .tmp 21]⟩, ⟨some 25, none, .ld (some 4) (.tmp 24)⟩, ⟨some 8, none, .eff (.new 115 [.int .i64 0, .int .i64 0, .int .i64 0, .int .i64 0]) []⟩, ⟨some 7, none, .pur .mov [.tmp 23]⟩, ⟨none, none, .eff (.st 4) [.tmp 8, .tmp 25]⟩]) [8, 7])
  (.seq (.reg (straight [⟨some 26, none, .pur .mov [.tmp 5]⟩, ⟨some 27, none, .pur .mov [.tmp 7]⟩, ⟨some 28, none, .pur .mov [.tmp 6]⟩, ⟨some 29, none, .pur (.len false) [.tmp 28]⟩, ⟨some 30, none, .pur (.ixa 1) [.tmp 26, .tmp 27]⟩, ⟨none, none, .eff (.st 1) [.tmp 30, .tmp 29]⟩]) [])
  (.seq (.reg (straight [⟨some 31, none, .pur .mov [.tmp 4]⟩, ⟨some 32, none, .pur .mov [.tmp 7]⟩, ⟨some 33, none, .pur (.ixa 1) [.tmp 31, .tmp 32]⟩, ⟨some 34, none, .ld none (.tmp 33)⟩, ⟨some 35, none, .pur .mov [.tmp 34]⟩, ⟨some 36, some (35, true), .pur .mov [.tmp 3]⟩, ⟨some 37, some (35, true), .pur .mov [.tmp 7]⟩, ⟨some 38, some (35, true), .eff (.call 60) [.tmp 36, .tmp 37]⟩, ⟨some 39, some (35, true), .pur .not [.tmp 38]⟩, ⟨some 40, none, .pur .pick [.tmp 35, .tmp 39, .const (.bool false)]⟩]) [40])
  (.cond (.tmp 40) (.reg (straight [⟨some 41, none, .pur .mov [.tmp 6]⟩, ⟨some 42, none, .ld (some 4) (.tmp 8)⟩, ⟨some 43, none, .eff (.bsl 115 4) [.tmp 42]⟩, ⟨some 44, none, .eff (.app 115 4 32 [.int .i64 0, .int .i64 0, .int .i64 0, .int .i64 0]) [.tmp 41, .tmp 43]⟩, ⟨some 6, none, .pur .mov [.tmp 44]⟩]) [6]) (.skip))))))
  (.reg (straight [⟨some 45, none, .pur (.bin .add) [.tmp 21, .const (.int .i64 1)]⟩, ⟨some 21, none, .pur .mov [.tmp 45]⟩]) [21])))
def S_tidy_round_L2 : SCode :=
  .seq (.reg (straight [⟨some 49, none, .pur (.bin .lss) [.tmp 48, .tmp 47]⟩]) [49])
  (.seq (.cond (.tmp 49) (.skip) (.exit 2))
  (.seq (.block 3 (.seq (.reg (straight [⟨some 50, none, .pur .mov [.tmp 48]⟩, ⟨some 9, none, .pur .mov [.tmp 50]⟩]) [9])
  (.seq (.reg (straight [⟨some 51, none, .pur .mov [.tmp 6]⟩, ⟨some 52, none, .pur .mov [.tmp 9]⟩, ⟨some 53, none, .pur (.ixa 4) [.tmp 51, .tmp 52]⟩, ⟨some 54, none, .eff (.call 92) [.tmp 53]⟩, ⟨some 10, none, .pur .mov [.tmp 54]⟩]) [10])
  (.seq (.reg (straight [⟨some 55, none, .pur .mov [.tmp 10]⟩, ⟨some 56, none, .pur (.eqn true 0) [.tmp 55]⟩]) [56])
  (.cond (.tmp 56) (.reg (straight [⟨some 57, none, .pur .mov [.tmp 10]⟩, ⟨some 58, none, .pur .mov [.tmp 5]⟩, ⟨some 59, none, .pur .mov [.tmp 10]⟩, ⟨some 60, none, .pur .nilc [.tmp 59]⟩, ⟨some 61, none, .ld none (.tmp 60)⟩, ⟨some 62, none, .pur (.ixa 1) [.tmp 58, .tmp 61]⟩, ⟨some 63, none, .ld none (.tmp 62)⟩, ⟨some 64, none, .pur .nilc [.tmp 57]⟩, ⟨none, none, .eff (.st 1) [.tmp 64, .tmp 63]⟩]) []) (.skip))))))
  (.reg (straight [⟨some 65, none, .pur (.bin .add) [.tmp 48, .const (.int .i64 1)]⟩, ⟨some 48, none, .pur .mov [.tmp 65]⟩]) [48])))
def S_tidy_round : Fun := ⟨67, [2, 0, 3, 21, 20, 22, 19, 5, 7, 6, 4, 40, 8, 48, 47, 49, 9, 10, 56], [.tmp 2],
  .seq (.reg (straight [⟨some 2, none, .pur .mov [.const (.slice none 0 0)]⟩]) [2])
  (.seq (.reg (straight [⟨some 11, none, .pur .mov [.tmp 0]⟩, ⟨some 12, none, .eff (.call 93) [.tmp 11]⟩, ⟨some 3, none, .pur .mov [.tmp 12]⟩]) [3])
  (.seq (.reg (straight [⟨some 13, none, .pur .mov [.tmp 3]⟩, ⟨some 14, none, .eff (.call 91) [.tmp 13]⟩, ⟨some 4, none, .pur .mov [.tmp 14]⟩]) [4])
  (.seq (.reg (straight [⟨some 15, none, .pur .mov [.tmp 3]⟩, ⟨some 16, none, .pur (.len false) [.tmp 15]⟩, ⟨some 17, none, .pur (.bin .add) [.tmp 16, .const (.int .i64 1)]⟩, ⟨some 18, none, .eff (.mks 3 1 8 [.int .i64 0]) [.tmp 17, .tmp 17]⟩, ⟨some 5, none, .pur .mov [.tmp 18]⟩]) [5])
  (.seq (.reg (straight [⟨some 6, none, .pur .mov [.const (.slice none 0 0)]⟩]) [6])
  (.seq (.seq (.reg (straight [⟨some 19, none, .pur .mov [.tmp 3]⟩, ⟨some 20, none, .pur (.len false) [.tmp 19]⟩, ⟨some 21, none, .pur .mov [.const (.int .i64 0)]⟩]) [19, 20, 21])
  (.block 0 (.loop S_tidy_round_L1)))
  (.seq (.seq (.reg (straight [⟨some 46, none, .pur .mov [.tmp 6]⟩, ⟨some 47, none, .pur (.len false) [.tmp 46]⟩, ⟨some 48, none, .pur .mov [.const (.int .i64 0)]⟩]) [47, 48])
  (.block 2 (.loop S_tidy_round_L2)))
  (.seq (.reg (straight [⟨some 66, none, .pur .mov [.tmp 6]⟩, ⟨some 2, none, .pur .mov [.tmp 66]⟩]) [2])
  (.ret))))))))⟩
theorem K_tidy_round : compF Try.prog 62 = some S_tidy_round := by kernel_rfl

-- 63
def S_slices_Equal_api_Ins_api_Ins_L1 : SCode :=
  .seq (.reg (straight [⟨some 14, none, .pur (.bin .lss) [.tmp 13, .tmp 12]⟩]) [14])
  (.seq (.cond (.tmp 14) (.skip) (.exit 0))
  (.seq (.block 1 (.seq (.reg (straight [⟨some 15, none, .pur .mov [.tmp 13]⟩, ⟨some 5, none, .pur .mov [.tmp 15]⟩]) [5])
  (.seq (.reg (straight [⟨some 16, none, .pur .mov [.tmp 0]⟩, ⟨some 17, none, .pur .mov [.tmp 5]⟩, ⟨some 18, none, .pur (.ixa 4) [.tmp 16, .tmp 17]⟩, ⟨some 19, none, .ld (some 4) (.tmp 18)⟩, ⟨some 20, none, .pur .mov [.tmp 1]⟩, ⟨some 21, none, .pur .mov [.tmp 5]⟩, ⟨some 22, none, .pur (.ixa 4) [.tmp 20, .tmp 21]⟩, ⟨some 23, none, .ld (some 4) (.tmp 22)⟩, ⟨some 24, none, .pur (.eqs true [.int .i64, .int .i64, .int .i64, .int .i64]) [.tmp 19, .tmp 23]⟩]) [24])
  (.cond (.tmp 24) (.seq (.reg (straight [⟨some 4, none, .pur .mov [.const (.bool false)]⟩]) [4])
  (.ret)) (.skip)))))
  (.reg (straight [⟨some 25, none, .pur (.bin .add) [.tmp 13, .const (.int .i64 1)]⟩, ⟨some 13, none, .pur .mov [.tmp 25]⟩]) [13])))
def S_slices_Equal_api_Ins_api_Ins : Fun := ⟨26, [4, 0, 1, 10, 13, 12, 14, 5, 24], [.tmp 4],
  .seq (.reg (straight [⟨some 4, none, .pur .mov [.const (.bool false)]⟩]) [4])
  (.seq (.seq (.reg (straight [⟨some 6, none, .pur .mov [.tmp 0]⟩, ⟨some 7, none, .pur (.len false) [.tmp 6]⟩, ⟨some 8, none, .pur .mov [.tmp 1]⟩, ⟨some 9, none, .pur (.len false) [.tmp 8]⟩, ⟨some 10, none, .pur (.bin .neq) [.tmp 7, .tmp 9]⟩]) [10])
  (.cond (.tmp 10) (.seq (.reg (straight [⟨some 4, none, .pur .mov [.const (.bool false)]⟩]) [4])
  (.ret)) (.skip)))
  (.seq (.seq (.reg (straight [⟨some 11, none, .pur .mov [.tmp 0]⟩, ⟨some 12, none, .pur (.len false) [.tmp 11]⟩, ⟨some 13, none, .pur .mov [.const (.int .i64 0)]⟩]) [12, 13])
  (.block 0 (.loop S_slices_Equal_api_Ins_api_Ins_L1)))
  (.seq (.reg (straight [⟨some 4, none, .pur .mov [.const (.bool true)]⟩]) [4])
  (.ret))))⟩
theorem K_slices_Equal_api_Ins_api_Ins : compF Try.prog 63 = some S_slices_Equal_api_Ins_api_Ins := by kernel_rfl

-- 64
def S_forebayref04_Check_L2 : SCode :=
  .seq (.seq (.reg (straight [⟨some 43, none, .pur .mov [.tmp 7]⟩, ⟨some 44, none, .pur .mov [.tmp 5]⟩, ⟨some 45, none, .pur (.len false) [.tmp 44]⟩, ⟨some 46, none, .pur (.bin .lss) [.tmp 43, .tmp 45]⟩]) [46])
  (.cond (.tmp 46) (.skip) (.exit 2)))
  (.seq (.block 3 (.seq (.reg (straight [⟨some 49, none, .pur .mov [.tmp 5]⟩, ⟨some 50, none, .pur .mov [.tmp 7]⟩, ⟨some 51, none, .pur (.ixa 4) [.tmp 49, .tmp 50]⟩, ⟨some 52, none, .ld (some 4) (.tmp 51)⟩, ⟨some 53, none, .eff (.call 95) [.tmp 52]⟩, ⟨some 8, none, .pur .mov [.tmp 53]⟩]) [8])
  (.seq (.seq (.reg (straight [⟨some 54, none, .pur .mov [.tmp 8]⟩, ⟨some 55, none, .pur (.bin .neq) [.tmp 54, .const (.int .i64 0)]⟩]) [55])
  (.cond (.tmp 55) (.seq (.reg (straight [⟨some 56, none, .pur .mov [.tmp 8]⟩, ⟨some 2, none, .pur .mov [.tmp 56]⟩]) [2])
  (.ret)) (.skip)))
  (.seq (.reg (straight [⟨some 57, none, .pur .mov [.tmp 5]⟩, ⟨some 58, none, .pur .mov [.tmp 7]⟩, ⟨some 59, none, .pur (.ixa 4) [.tmp 57, .tmp 58]⟩, ⟨some 60, none, .pur (.fla 0) [.tmp 59]⟩, ⟨some 61, none, .ld none (.tmp 60)⟩, ⟨some 62, none, .pur (.bin .eql) [.tmp 61, .const (.int .i64 18)]⟩, ⟨some 63, none, .pur .mov [.tmp 62]⟩, ⟨some 64, some (63, true), .pur .mov [.tmp 5]⟩, ⟨some 65, some (63, true), .pur .mov [.tmp 7]⟩, ⟨some 66, some (63, true), .pur (.ixa 4) [.tmp 64, .tmp 65]⟩, ⟨some 67, some (63, true), .pur (.fla 1) [.tmp 66]⟩, ⟨some 68, some (63, true), .ld none (.tmp 67)⟩, ⟨some 69, some (63, true), .pur .mov [.tmp 5]⟩, ⟨some 70, some (63, true), .pur (.len false) [.tmp 69]⟩, ⟨some 71, some (63, true), .pur (.bin .geq) [.tmp 68, .tmp 70]⟩, ⟨some 72, none, .pur .pick [.tmp 63, .tmp 71, .const (.bool false)]⟩, ⟨some 73, none, .pur .mov [.tmp 72]⟩, ⟨some 74, some (73, false), .pur .mov [.tmp 5]⟩, ⟨some 75, some (73, false), .pur .mov [.tmp 7]⟩, ⟨some 76, some (73, false), .pur (.ixa 4) [.tmp 74, .tmp 75]⟩, ⟨some 77, some (73, false), .pur (.fla 0) [.tmp 76]⟩, ⟨some 78, some (73, false), .ld none (.tmp 77)⟩, ⟨some 79, some (73, false), .pur (.bin .eql) [.tmp 78, .const (.int .i64 19)]⟩, ⟨some 80, some (73, false), .pur .mov [.tmp 79]⟩, ⟨some 81, some (80, true), .pur .mov [.tmp 5]⟩, ⟨some 82, some (80, true), .pur .mov [.tmp 7]⟩, ⟨some 83, some (80, true), .pur (.ixa 4) [.tmp 81, .tmp 82]⟩, ⟨some 84, some (80, true), .pur (.fla 2) [.tmp 83]⟩, ⟨some 85, some (80, true), .ld none (.tmp 84)⟩, ⟨some 86, some (80, true), .pur .mov [.tmp 5]⟩, ⟨some 87, some (80, true), .pur (.len false) [.tmp 86]⟩, ⟨some 88, some (80, true), .pur (.bin .geq) [.tmp 85, .tmp 87]⟩, ⟨some 89, some (73, false), .pur .pick [.tmp 80, .tmp 88, .const (.bool false)]⟩, ⟨some 90, none, .pur .pick [.tmp 73, .const (.bool true), .tmp 89]⟩, ⟨some 91, none, .pur .mov [.tmp 90]⟩, ⟨some 92, some (91, false), .pur .mov [.tmp 5]⟩, ⟨some 93, some (91, false), .pur .mov [.tmp 7]⟩, ⟨some 94, some (91, false), .pur (.ixa 4) [.tmp 92, .tmp 93]⟩, ⟨some 95, some (91, false), .pur (.fla 0) [.tmp 94]⟩, ⟨some 96, some (91, false), .ld none (.tmp 95)⟩, ⟨some 97, some (91, false), .pur (.bin .eql) [.tmp 96, .const (.int .i64 20)]⟩, ⟨some 98, some (91, false), .pur .mov [.tmp 97]⟩, ⟨some 99, some (98, false), .pur .mov [.tmp 5]⟩, ⟨some 100, some (98, false), .pur .mov [.tmp 7]⟩, ⟨some 101, some (98, false), .pur (.ixa 4) [.tmp 99, .tmp 100]⟩, ⟨some 102, some (98, false), .pur (.fla 0) [.tmp 101]⟩, ⟨some 103, some (98, false), .ld none (.tmp 102)⟩, ⟨some 104, some (98, false), .pur (.bin .eql) [.tmp 103, .const (.int .i64 22)]⟩, ⟨some 105, some (91, false), .pur .pick [.tmp 98, .const (.bool true), .tmp 104]⟩, ⟨some 106, some (91, false), .pur .mov [.tmp 105]⟩, ⟨some 107, some (106, true), .pur .mov [.tmp 5]⟩, ⟨some 108, some (106, true), .pur .mov [.tmp 7]⟩, ⟨some 109, some (106, true), .pur (.ixa 4) [.tmp 107, .tmp 108]⟩, ⟨some 110, some (106, true), .pur (.fla 1) [.tmp 109]⟩, ⟨some 111, some (106, true), .ld none (.tmp 110)⟩, ⟨some 112, some (106, true), .pur (.fla 1) [.tmp 1]⟩, ⟨some 113, some (106, true), .ld none (.tmp 112)⟩, ⟨some 114, some (106, true), .pur (.len false) [.tmp 113]⟩, ⟨some 115, some (106, true), .pur (.bin .geq) [.tmp 111, .tmp 114]⟩, ⟨some 116, some (91, false), .pur .pick [.tmp 106, .tmp 115, .const (.bool false)]⟩, ⟨some 117, none, .pur .pick [.tmp 91, .const (.bool true), .tmp 116]⟩]) [117])
  (.cond (.tmp 117) (.seq (.reg (straight [⟨some 2, none, .pur .mov [.const (.int .i64 11)]⟩]) [2])
  (.ret)) (.skip))))))
  (.reg (straight [⟨some 47, none, .pur .mov [.tmp 7]⟩, ⟨some 48, none, .pur (.bin .add) [.tmp 47, .const (.int .i64 1)]⟩, ⟨some 7, none, .pur .mov [.tmp 48]⟩]) [7]))
def S_forebayref04_Check_L1 : SCode :=
  .seq (.seq (.reg (straight [⟨some 25, none, .pur .mov [.tmp 4]⟩, ⟨some 26, none, .pur (.fla 1) [.tmp 1]⟩, ⟨some 27, none, .ld none (.tmp 26)⟩, ⟨some 28, none, .pur (.len false) [.tmp 27]⟩, ⟨some 29, none, .pur (.bin .lss) [.tmp 25, .tmp 28]⟩]) [29])
  (.cond (.tmp 29) (.skip) (.exit 0)))
  (.seq (.block 1 (.seq (.reg (straight [⟨some 32, none, .pur (.fla 1) [.tmp 1]⟩, ⟨some 33, none, .ld none (.tmp 32)⟩, ⟨some 34, none, .pur .mov [.tmp 4]⟩, ⟨some 35, none, .pur (.ixa 1) [.tmp 33, .tmp 34]⟩, ⟨some 36, none, .ld none (.tmp 35)⟩, ⟨some 5, none, .pur .mov [.tmp 36]⟩]) [5])
  (.seq (.reg (straight [⟨some 37, none, .pur .mov [.tmp 5]⟩, ⟨some 38, none, .pur (.len false) [.tmp 37]⟩, ⟨some 39, none, .eff (.call 94) [.tmp 38, .const (.int .i64 200)]⟩, ⟨some 6, none, .pur .mov [.tmp 39]⟩]) [6])
  (.seq (.seq (.reg (straight [⟨some 40, none, .pur .mov [.tmp 6]⟩, ⟨some 41, none, .pur (.bin .neq) [.tmp 40, .const (.int .i64 0)]⟩]) [41])
  (.cond (.tmp 41) (.seq (.reg (straight [⟨some 42, none, .pur .mov [.tmp 6]⟩, ⟨some 2, none, .pur .mov [.tmp 42]⟩]) [2])
  (.ret)) (.skip)))
  (.seq (.seq (.reg (straight [⟨some 7, none, .pur .mov [.const (.int .i64 0)]⟩]) [7])
  (.block 2 (.loop S_forebayref04_Check_L2)))
  (.seq (.reg (straight [⟨some 118, none, .pur .mov [.tmp 5]⟩, ⟨some 119, none, .pur .mov [.tmp 5]⟩, ⟨some 120, none, .pur (.len false) [.tmp 119]⟩, ⟨some 121, none, .pur (.bin .sub) [.tmp 120, .const (.int .i64 1)]⟩, ⟨some 122, none, .pur (.ixa 4) [.tmp 118, .tmp 121]⟩, ⟨some 123, none, .pur (.fla 0) [.tmp 122]⟩, ⟨some 124, none, .ld none (.tmp 123)⟩, ⟨some 9, none, .pur .mov [.tmp 124]⟩]) [9])
  (.seq (.reg (straight [⟨some 125, none, .pur .mov [.tmp 9]⟩, ⟨some 126, none, .pur (.bin .neq) [.tmp 125, .const (.int .i64 0)]⟩, ⟨some 127, none, .pur .mov [.tmp 126]⟩, ⟨some 128, some (127, true), .pur .mov [.tmp 9]⟩, ⟨some 129, some (127, true), .pur (.bin .neq) [.tmp 128, .const (.int .i64 18)]⟩, ⟨some 130, none, .pur .pick [.tmp 127, .tmp 129, .const (.bool false)]⟩, ⟨some 131, none, .pur .mov [.tmp 130]⟩, ⟨some 132, some (131, true), .pur .mov [.tmp 9]⟩, ⟨some 133, some (131, true), .pur (.bin .neq) [.tmp 132, .const (.int .i64 25)]⟩, ⟨some 134, none, .pur .pick [.tmp 131, .tmp 133, .const (.bool false)]⟩]) [134])
  (.cond (.tmp 134) (.seq (.reg (straight [⟨some 2, none, .pur .mov [.const (.int .i64 12)]⟩]) [2])
  (.ret)) (.skip)))))))))
  (.reg (straight [⟨some 30, none, .pur .mov [.tmp 4]⟩, ⟨some 31, none, .pur (.bin .add) [.tmp 30, .const (.int .i64 1)]⟩, ⟨some 4, none, .pur .mov [.tmp 31]⟩]) [4]))
def S_forebayref04_Check : Fun := ⟨135, [2, 0, 1, 17, 3, 23, 4, 29, 5, 6, 41, 7, 46, 8, 55, 117, 9, 134], [.tmp 2],
  .seq (.reg (straight [⟨some 1, none, .eff (.box 55) [.tmp 0]⟩, ⟨some 2, none, .pur .mov [.const (.int .i64 0)]⟩]) [1, 2])
  (.seq (.seq (.reg (straight [⟨some 10, none, .pur (.fla 0) [.tmp 1]⟩, ⟨some 11, none, .ld none (.tmp 10)⟩, ⟨some 12, none, .pur (.bin .lss) [.tmp 11, .const (.int .i64 0)]⟩, ⟨some 13, none, .pur .mov [.tmp 12]⟩, ⟨some 14, some (13, false), .pur (.fla 0) [.tmp 1]⟩, ⟨some 15, some (13, false), .ld none (.tmp 14)⟩, ⟨some 16, some (13, false), .pur (.bin .gtr) [.tmp 15, .const (.int .i64 256)]⟩, ⟨some 17, none, .pur .pick [.tmp 13, .const (.bool true), .tmp 16]⟩]) [17])
  (.cond (.tmp 17) (.seq (.reg (straight [⟨some 2, none, .pur .mov [.const (.int .i64 3)]⟩]) [2])
  (.ret)) (.skip)))
  (.seq (.reg (straight [⟨some 18, none, .pur (.fla 1) [.tmp 1]⟩, ⟨some 19, none, .ld none (.tmp 18)⟩, ⟨some 20, none, .pur (.len false) [.tmp 19]⟩, ⟨some 21, none, .eff (.call 94) [.tmp 20, .const (.int .i64 16)]⟩, ⟨some 3, none, .pur .mov [.tmp 21]⟩]) [3])
  (.seq (.seq (.reg (straight [⟨some 22, none, .pur .mov [.tmp 3]⟩, ⟨some 23, none, .pur (.bin .neq) [.tmp 22, .const (.int .i64 0)]⟩]) [23])
  (.cond (.tmp 23) (.seq (.reg (straight [⟨some 24, none, .pur .mov [.tmp 3]⟩, ⟨some 2, none, .pur .mov [.tmp 24]⟩]) [2])
  (.ret)) (.skip)))
  (.seq (.seq (.reg (straight [⟨some 4, none, .pur .mov [.const (.int .i64 0)]⟩]) [4])
  (.block 0 (.loop S_forebayref04_Check_L1)))
  (.seq (.reg (straight [⟨some 2, none, .pur .mov [.const (.int .i64 0)]⟩]) [2])
  (.ret))))))⟩
theorem K_forebayref04_Check : compF Try.prog 64 = some S_forebayref04_Check := by kernel_rfl

-- 65
def S_forebayref42_Round_L2 : SCode :=
  .seq (.seq (.reg (straight [⟨some 25, none, .pur .mov [.tmp 5]⟩, ⟨some 26, none, .pur (.bin .geq) [.tmp 25, .const (.int .i64 0)]⟩, ⟨some 27, none, .pur .mov [.tmp 26]⟩, ⟨some 28, some (27, true), .pur .mov [.tmp 6]⟩, ⟨some 29, some (27, true), .pur .mov [.tmp 0]⟩, ⟨some 30, some (27, true), .pur (.len false) [.tmp 29]⟩, ⟨some 31, some (27, true), .pur (.bin .lss) [.tmp 28, .tmp 30]⟩, ⟨some 32, none, .pur .pick [.tmp 27, .tmp 31, .const (.bool false)]⟩]) [32])
  (.cond (.tmp 32) (.skip) (.exit 2)))
  (.seq (.block 3 (.seq (.reg (straight [⟨some 35, none, .pur .mov [.tmp 0]⟩, ⟨some 36, none, .pur .mov [.tmp 5]⟩, ⟨some 37, none, .pur (.ixa 4) [.tmp 35, .tmp 36]⟩, ⟨some 38, none, .pur (.fla 0) [.tmp 37]⟩, ⟨some 39, none, .ld none (.tmp 38)⟩, ⟨some 40, none, .pur (.bin .eql) [.tmp 39, .const (.int .i64 18)]⟩, ⟨some 41, none, .pur .mov [.tmp 40]⟩, ⟨some 42, some (41, true), .pur .mov [.tmp 0]⟩, ⟨some 43, some (41, true), .pur .mov [.tmp 5]⟩, ⟨some 44, some (41, true), .pur (.ixa 4) [.tmp 42, .tmp 43]⟩, ⟨some 45, some (41, true), .pur (.fla 1) [.tmp 44]⟩, ⟨some 46, some (41, true), .ld none (.tmp 45)⟩, ⟨some 47, some (41, true), .pur .mov [.tmp 5]⟩, ⟨some 48, some (41, true), .pur (.bin .neq) [.tmp 46, .tmp 47]⟩, ⟨some 49, none, .pur .pick [.tmp 41, .tmp 48, .const (.bool false)]⟩]) [49])
  (.cond (.tmp 49) (.reg (straight [⟨some 50, none, .pur .mov [.tmp 0]⟩, ⟨some 51, none, .pur .mov [.tmp 5]⟩, ⟨some 52, none, .pur (.ixa 4) [.tmp 50, .tmp 51]⟩, ⟨some 53, none, .pur (.fla 1) [.tmp 52]⟩, ⟨some 54, none, .ld none (.tmp 53)⟩, ⟨some 5, none, .pur .mov [.tmp 54]⟩]) [5]) (.skip))))
  (.reg (straight [⟨some 33, none, .pur .mov [.tmp 6]⟩, ⟨some 34, none, .pur (.bin .add) [.tmp 33, .const (.int .i64 1)]⟩, ⟨some 6, none, .pur .mov [.tmp 34]⟩]) [6]))
def S_forebayref42_Round_L1 : SCode :=
  .seq (.seq (.reg (straight [⟨some 14, none, .pur .mov [.tmp 4]⟩, ⟨some 15, none, .pur .mov [.tmp 0]⟩, ⟨some 16, none, .pur (.len false) [.tmp 15]⟩, ⟨some 17, none, .pur (.bin .lss) [.tmp 14, .tmp 16]⟩]) [17])
  (.cond (.tmp 17) (.skip) (.exit 0)))
  (.seq (.block 1 (.seq (.reg (straight [⟨some 20, none, .pur .mov [.tmp 0]⟩, ⟨some 21, none, .pur .mov [.tmp 4]⟩, ⟨some 22, none, .pur (.ixa 4) [.tmp 20, .tmp 21]⟩, ⟨some 23, none, .ld (some 4) (.tmp 22)⟩, ⟨some 24, none, .eff (.call 96) [.tmp 23]⟩, ⟨some 5, none, .pur .mov [.tmp 24]⟩]) [5])
  (.seq (.seq (.reg (straight [⟨some 6, none, .pur .mov [.const (.int .i64 0)]⟩]) [6])
  (.block 2 (.loop S_forebayref42_Round_L2)))
  (.seq (.seq (.reg (straight [⟨some 55, none, .pur .mov [.tmp 5]⟩, ⟨some 56, none, .pur (.bin .geq) [.tmp 55, .const (.int .i64 0)]⟩, ⟨some 57, none, .pur .mov [.tmp 56]⟩, ⟨some 58, some (57, true), .pur .mov [.tmp 0]⟩, ⟨some 59, some (57, true), .pur .mov [.tmp 5]⟩, ⟨some 60, some (57, true), .pur (.ixa 4) [.tmp 58, .tmp 59]⟩, ⟨some 61, some (57, true), .pur (.fla 0) [.tmp 60]⟩, ⟨some 62, some (57, true), .ld none (.tmp 61)⟩, ⟨some 63, some (57, true), .pur (.bin .eql) [.tmp 62, .const (.int .i64 18)]⟩, ⟨some 64, none, .pur .pick [.tmp 57, .tmp 63, .const (.bool false)]⟩, ⟨some 65, none, .pur .mov [.tmp 64]⟩, ⟨some 66, some (65, true), .pur .mov [.tmp 0]⟩, ⟨some 67, some (65, true), .pur .mov [.tmp 5]⟩, ⟨some 68, some (65, true), .pur (.ixa 4) [.tmp 66, .tmp 67]⟩, ⟨some 69, some (65, true), .pur (.fla 1) [.tmp 68]⟩, ⟨some 70, some (65, true), .ld none (.tmp 69)⟩, ⟨some 71, some (65, true), .pur .mov [.tmp 5]⟩, ⟨some 72, some (65, true), .pur (.bin .neq) [.tmp 70, .tmp 71]⟩, ⟨some 73, none, .pur .pick [.tmp 65, .tmp 72, .const (.bool false)]⟩]) [73])
  (.cond (.tmp 73) (.reg (straight [⟨some 74, none, .pur .mov [.tmp 0]⟩, ⟨some 75, none, .pur .mov [.tmp 4]⟩, ⟨some 76, none, .pur (.ixa 4) [.tmp 74, .tmp 75]⟩, ⟨some 77, none, .ld (some 4) (.tmp 76)⟩, ⟨some 78, none, .eff (.call 96) [.tmp 77]⟩, ⟨some 5, none, .pur .mov [.tmp 78]⟩]) [5]) (.skip)))
  (.reg (straight [⟨some 79, none, .pur .mov [.tmp 3]⟩, ⟨some 80, none, .pur .mov [.tmp 0]⟩, ⟨some 81, none, .pur .mov [.tmp 4]⟩, ⟨some 82, none, .pur (.ixa 4) [.tmp 80, .tmp 81]⟩, ⟨some 83, none, .ld (some 4) (.tmp 82)⟩, ⟨some 84, none, .pur .mov [.tmp 5]⟩, ⟨some 85, none, .eff (.call 97) [.tmp 83, .tmp 84]⟩, ⟨some 86, none, .eff (.bsl 115 4) [.tmp 85]⟩, ⟨some 87, none, .eff (.app 115 4 32 [.int .i64 0, .int .i64 0, .int .i64 0, .int .i64 0]) [.tmp 79, .tmp 86]⟩, ⟨some 3, none, .pur .mov [.tmp 87]⟩]) [3])))))
  (.reg (straight [⟨some 18, none, .pur .mov [.tmp 4]⟩, ⟨some 19, none, .pur (.bin .add) [.tmp 18, .const (.int .i64 1)]⟩, ⟨some 4, none, .pur .mov [.tmp 19]⟩]) [4]))
def S_forebayref42_Round_L4 : SCode :=
  .seq (.seq (.reg (straight [⟨some 114, none, .pur .mov [.tmp 13]⟩, ⟨some 115, none, .pur .mov [.tmp 11]⟩, ⟨some 116, none, .pur (.bin .lss) [.tmp 114, .tmp 115]⟩]) [116])
  (.cond (.tmp 116) (.skip) (.exit 6)))
  (.seq (.block 7 (.seq (.reg (straight [⟨some 119, none, .pur .mov [.tmp 7]⟩, ⟨some 120, none, .pur .mov [.tmp 13]⟩, ⟨some 121, none, .pur (.ixa 1) [.tmp 119, .tmp 120]⟩, ⟨some 122, none, .ld none (.tmp 121)⟩, ⟨some 123, none, .pur .mov [.tmp 122]⟩, ⟨some 124, some (123, true), .pur .mov [.tmp 3]⟩, ⟨some 125, some (123, true), .pur .mov [.tmp 13]⟩, ⟨some 126, some (123, true), .eff (.call 99) [.tmp 124, .tmp 125]⟩, ⟨some 127, some (123, true), .pur .not [.tmp 126]⟩, ⟨some 128, none, .pur .pick [.tmp 123, .tmp 127, .const (.bool false)]⟩]) [128])
  (.cond (.tmp 128) (.reg (straight [⟨some 129, none, .pur .mov [.tmp 12]⟩, ⟨some 130, none, .pur (.bin .add) [.tmp 129, .const (.int .i64 1)]⟩, ⟨some 12, none, .pur .mov [.tmp 130]⟩]) [12]) (.skip))))
  (.reg (straight [⟨some 117, none, .pur .mov [.tmp 13]⟩, ⟨some 118, none, .pur (.bin .add) [.tmp 117, .const (.int .i64 1)]⟩, ⟨some 13, none, .pur .mov [.tmp 118]⟩]) [13]))
def S_forebayref42_Round_L3 : SCode :=
  .seq (.seq (.reg (straight [⟨some 90, none, .pur .mov [.tmp 9]⟩, ⟨some 91, none, .pur .mov [.tmp 3]⟩, ⟨some 92, none, .pur (.len false) [.tmp 91]⟩, ⟨some 93, none, .pur (.bin .lss) [.tmp 90, .tmp 92]⟩]) [93])
  (.cond (.tmp 93) (.skip) (.exit 4)))
  (.seq (.block 5 (.seq (.seq (.reg (straight [⟨some 96, none, .pur .mov [.tmp 7]⟩, ⟨some 97, none, .pur .mov [.tmp 9]⟩, ⟨some 98, none, .pur (.ixa 1) [.tmp 96, .tmp 97]⟩, ⟨some 99, none, .ld none (.tmp 98)⟩, ⟨some 100, none, .pur .not [.tmp 99]⟩, ⟨some 101, none, .pur .mov [.tmp 100]⟩, ⟨some 102, some (101, false), .pur .mov [.tmp 3]⟩, ⟨some 103, some (101, false), .pur .mov [.tmp 9]⟩, ⟨some 104, some (101, false), .eff (.call 99) [.tmp 102, .tmp 103]⟩, ⟨some 105, none, .pur .pick [.tmp 101, .const (.bool true), .tmp 104]⟩]) [105])
  (.cond (.tmp 105) (.exit 5) (.skip)))
  (.seq (.reg (straight [⟨some 106, none, .pur .mov [.tmp 3]⟩, ⟨some 107, none, .pur .mov [.tmp 9]⟩, ⟨some 108, none, .pur (.ixa 4) [.tmp 106, .tmp 107]⟩, ⟨some 109, none, .ld (some 4) (.tmp 108)⟩, ⟨some 10, none, .eff (.new 115 [.int .i64 0, .int .i64 0, .int .i64 0, .int .i64 0]) []⟩, ⟨none, none, .eff (.st 4) [.tmp 10, .tmp 109]⟩]) [10])
  (.seq (.reg (straight [⟨some 110, none, .ld (some 4) (.tmp 10)⟩, ⟨some 111, none, .eff (.call 96) [.tmp 110]⟩, ⟨some 11, none, .pur .mov [.tmp 111]⟩]) [11])
  (.seq (.seq (.reg (straight [⟨some 112, none, .pur .mov [.tmp 11]⟩, ⟨some 113, none, .pur (.bin .geq) [.tmp 112, .const (.int .i64 0)]⟩]) [113])
  (.cond (.tmp 113) (.seq (.reg (straight [⟨some 12, none, .pur .mov [.const (.int .i64 0)]⟩]) [12])
  (.seq (.seq (.reg (straight [⟨some 13, none, .pur .mov [.const (.int .i64 0)]⟩]) [13])
  (.block 6 (.loop S_forebayref42_Round_L4)))
  (.reg (straight [⟨some 131, none, .ld (some 4) (.tmp 10)⟩, ⟨some 132, none, .pur .mov [.tmp 12]⟩, ⟨some 133, none, .eff (.call 97) [.tmp 131, .tmp 132]⟩, ⟨none, none, .eff (.st 4) [.tmp 10, .tmp 133]⟩]) []))) (.skip)))
  (.reg (straight [⟨some 134, none, .pur .mov [.tmp 8]⟩, ⟨some 135, none, .ld (some 4) (.tmp 10)⟩, ⟨some 136, none, .eff (.bsl 115 4) [.tmp 135]⟩, ⟨some 137, none, .eff (.app 115 4 32 [.int .i64 0, .int .i64 0, .int .i64 0, .int .i64 0]) [.tmp 134, .tmp 136]⟩, ⟨some 8, none, .pur .mov [.tmp 137]⟩]) [8]))))))
  (.reg (straight [⟨some 94, none, .pur .mov [.tmp 9]⟩, ⟨some 95, none, .pur (.bin .add) [.tmp 94, .const (.int .i64 1)]⟩, ⟨some 9, none, .pur .mov [.tmp 95]⟩]) [9]))
def S_forebayref42_Round : Fun := ⟨139, [2, 4, 0, 17, 5, 6, 32, 49, 73, 3, 9, 93, 7, 105, 10, 11, 113, 13, 116, 128, 12, 8], [.tmp 2],
  .seq (.reg (straight [⟨some 2, none, .pur .mov [.const (.slice none 0 0)]⟩]) [2])
  (.seq (.reg (straight [⟨some 3, none, .pur .mov [.const (.slice none 0 0)]⟩]) [3])
  (.seq (.seq (.reg (straight [⟨some 4, none, .pur .mov [.const (.int .i64 0)]⟩]) [4])
  (.block 0 (.loop S_forebayref42_Round_L1)))
  (.seq (.reg (straight [⟨some 88, none, .pur .mov [.tmp 3]⟩, ⟨some 89, none, .eff (.call 98) [.tmp 88]⟩, ⟨some 7, none, .pur .mov [.tmp 89]⟩]) [7])
  (.seq (.reg (straight [⟨some 8, none, .pur .mov [.const (.slice none 0 0)]⟩]) [8])
  (.seq (.seq (.reg (straight [⟨some 9, none, .pur .mov [.const (.int .i64 0)]⟩]) [9])
  (.block 4 (.loop S_forebayref42_Round_L3)))
  (.seq (.reg (straight [⟨some 138, none, .pur .mov [.tmp 8]⟩, ⟨some 2, none, .pur .mov [.tmp 138]⟩]) [2])
  (.ret)))))))⟩
theorem K_forebayref42_Round : compF Try.prog 65 = some S_forebayref42_Round := by kernel_rfl

-- 66
def S_prog_sizes : Fun := ⟨13, [4, 0, 10, 1], [.tmp 4],
  .seq (.reg (straight [⟨some 4, none, .pur .mov [.const (.int .i64 0)]⟩]) [4])
  (.seq (.seq (.reg (straight [⟨some 5, none, .pur .mov [.tmp 0]⟩, ⟨some 6, none, .pur (.bin .lss) [.tmp 5, .const (.int .i64 0)]⟩, ⟨some 7, none, .pur .mov [.tmp 6]⟩, ⟨some 8, some (7, false), .pur .mov [.tmp 0]⟩, ⟨some 9, some (7, false), .pur (.bin .gtr) [.tmp 8, .const (.int .i64 256)]⟩, ⟨some 10, none, .pur .pick [.tmp 7, .const (.bool true), .tmp 9]⟩]) [10])
  (.cond (.tmp 10) (.seq (.reg (straight [⟨some 4, none, .pur .mov [.const (.int .i64 3)]⟩]) [4])
  (.ret)) (.skip)))
  (.seq (.reg (straight [⟨some 11, none, .pur .mov [.tmp 1]⟩, ⟨some 12, none, .eff (.call 100) [.tmp 11, .const (.int .i64 16)]⟩, ⟨some 4, none, .pur .mov [.tmp 12]⟩]) [4])
  (.ret)))⟩
theorem K_prog_sizes : compF Try.prog 66 = some S_prog_sizes := by kernel_rfl

-- 67
def S_prog_function_L1 : SCode :=
  .seq (.reg (straight [⟨some 18, none, .pur (.bin .lss) [.tmp 17, .tmp 16]⟩]) [18])
  (.seq (.cond (.tmp 18) (.skip) (.exit 0))
  (.seq (.block 1 (.seq (.reg (straight [⟨some 19, none, .pur (.ixa 4) [.tmp 15, .tmp 17]⟩, ⟨some 20, none, .ld (some 4) (.tmp 19)⟩, ⟨some 7, none, .eff (.new 115 [.int .i64 0, .int .i64 0, .int .i64 0, .int .i64 0]) []⟩, ⟨none, none, .eff (.st 4) [.tmp 7, .tmp 20]⟩]) [7])
  (.seq (.seq (.reg (straight [⟨some 21, none, .ld (some 4) (.tmp 7)⟩, ⟨some 22, none, .eff (.call 101) [.tmp 21]⟩, ⟨some 8, none, .pur .mov [.tmp 22]⟩]) [8])
  (.seq (.reg (straight [⟨some 23, none, .pur .mov [.tmp 8]⟩, ⟨some 24, none, .pur (.bin .neq) [.tmp 23, .const (.int .i64 0)]⟩]) [24])
  (.cond (.tmp 24) (.seq (.reg (straight [⟨some 25, none, .pur .mov [.tmp 8]⟩, ⟨some 4, none, .pur .mov [.tmp 25]⟩]) [4])
  (.ret)) (.skip))))
  (.seq (.reg (straight [⟨some 26, none, .ld (some 4) (.tmp 7)⟩, ⟨some 27, none, .pur .mov [.tmp 0]⟩, ⟨some 28, none, .pur (.len false) [.tmp 27]⟩, ⟨some 29, none, .pur .mov [.tmp 1]⟩, ⟨some 30, none, .eff (.call 102) [.tmp 26, .tmp 28, .tmp 29]⟩, ⟨some 31, none, .pur .not [.tmp 30]⟩]) [31])
  (.cond (.tmp 31) (.seq (.reg (straight [⟨some 4, none, .pur .mov [.const (.int .i64 11)]⟩]) [4])
  (.ret)) (.skip))))))
  (.reg (straight [⟨some 32, none, .pur (.bin .add) [.tmp 17, .const (.int .i64 1)]⟩, ⟨some 17, none, .pur .mov [.tmp 32]⟩]) [17])))
def S_prog_function : Fun := ⟨44, [4, 0, 5, 13, 17, 16, 18, 15, 7, 8, 24, 1, 31, 39, 40], [.tmp 4],
  .seq (.reg (straight [⟨some 4, none, .pur .mov [.const (.int .i64 0)]⟩]) [4])
  (.seq (.seq (.reg (straight [⟨some 9, none, .pur .mov [.tmp 0]⟩, ⟨some 10, none, .pur (.len false) [.tmp 9]⟩, ⟨some 11, none, .eff (.call 100) [.tmp 10, .const (.int .i64 200)]⟩, ⟨some 5, none, .pur .mov [.tmp 11]⟩]) [5])
  (.seq (.reg (straight [⟨some 12, none, .pur .mov [.tmp 5]⟩, ⟨some 13, none, .pur (.bin .neq) [.tmp 12, .const (.int .i64 0)]⟩]) [13])
  (.cond (.tmp 13) (.seq (.reg (straight [⟨some 14, none, .pur .mov [.tmp 5]⟩, ⟨some 4, none, .pur .mov [.tmp 14]⟩]) [4])
  (.ret)) (.skip))))
  (.seq (.seq (.reg (straight [⟨some 15, none, .pur .mov [.tmp 0]⟩, ⟨some 16, none, .pur (.len false) [.tmp 15]⟩, ⟨some 17, none, .pur .mov [.const (.int .i64 0)]⟩]) [15, 16, 17])
  (.block 0 (.loop S_prog_function_L1)))
  (.seq (.seq (.reg (straight [⟨some 33, none, .pur .mov [.tmp 0]⟩, ⟨some 34, none, .pur .mov [.tmp 0]⟩, ⟨some 35, none, .pur (.len false) [.tmp 34]⟩, ⟨some 36, none, .pur (.bin .sub) [.tmp 35, .const (.int .i64 1)]⟩, ⟨some 37, none, .pur (.ixa 4) [.tmp 33, .tmp 36]⟩, ⟨some 38, none, .pur (.fla 0) [.tmp 37]⟩, ⟨some 39, none, .ld none (.tmp 38)⟩]) [39])
  (.block 2 (.seq (.seq (.reg (straight [⟨some 41, none, .pur (.bin .eql) [.tmp 39, .const (.int .i64 0)]⟩, ⟨some 40, none, .pur .mov [.tmp 41]⟩]) [40])
  (.cond (.tmp 40) (.skip) (.seq (.reg (straight [⟨some 42, none, .pur (.bin .eql) [.tmp 39, .const (.int .i64 18)]⟩, ⟨some 40, none, .pur .mov [.tmp 42]⟩]) [40])
  (.cond (.tmp 40) (.skip) (.reg (straight [⟨some 43, none, .pur (.bin .eql) [.tmp 39, .const (.int .i64 25)]⟩, ⟨some 40, none, .pur .mov [.tmp 43]⟩]) [40])))))
  (.cond (.tmp 40) (.seq (.reg (straight [⟨some 4, none, .pur .mov [.const (.int .i64 0)]⟩]) [4])
  (.ret)) (.skip)))))
  (.seq (.reg (straight [⟨some 4, none, .pur .mov [.const (.int .i64 12)]⟩]) [4])
  (.ret)))))⟩
theorem K_prog_function : compF Try.prog 67 = some S_prog_function := by kernel_rfl

-- 90
def S_tidy_check_L1 : SCode :=
  .seq (.reg (straight [⟨some 17, none, .pur (.bin .lss) [.tmp 16, .tmp 15]⟩]) [17])
  (.seq (.cond (.tmp 17) (.skip) (.exit 1))
  (.seq (.block 2 (.seq (.reg (straight [⟨some 18, none, .pur (.ixa 4) [.tmp 14, .tmp 16]⟩, ⟨some 19, none, .ld (some 4) (.tmp 18)⟩, ⟨some 4, none, .eff (.new 115 [.int .i64 0, .int .i64 0, .int .i64 0, .int .i64 0]) []⟩, ⟨none, none, .eff (.st 4) [.tmp 4, .tmp 19]⟩]) [4])
  (.seq (.reg (straight [⟨some 20, none, .eff (.call 92) [.tmp 4]⟩, ⟨some 5, none, .pur .mov [.tmp 20]⟩]) [5])
  (.seq (.reg (straight [⟨some 21, none, .pur .mov [.tmp 5]⟩, ⟨some 22, none, .pur (.eqn true 0) [.tmp 21]⟩, ⟨some 23, none, .pur .mov [.tmp 22]⟩, ⟨some 24, some (23, true), .pur .mov [.tmp 5]⟩, ⟨some 25, some (23, true), .pur .nilc [.tmp 24]⟩, ⟨some 26, some (23, true), .ld none (.tmp 25)⟩, ⟨some 27, some (23, true), .pur (.bin .lss) [.tmp 26, .const (.int .i64 0)]⟩, ⟨some 28, some (23, true), .pur .mov [.tmp 27]⟩, ⟨some 29, some (28, false), .pur .mov [.tmp 5]⟩, ⟨some 30, some (28, false), .pur .nilc [.tmp 29]⟩, ⟨some 31, some (28, false), .ld none (.tmp 30)⟩, ⟨some 32, some (28, false), .pur .mov [.tmp 0]⟩, ⟨some 33, some (28, false), .pur (.len false) [.tmp 32]⟩, ⟨some 34, some (28, false), .pur (.bin .geq) [.tmp 31, .tmp 33]⟩, ⟨some 35, some (23, true), .pur .pick [.tmp 28, .const (.bool true), .tmp 34]⟩, ⟨some 36, none, .pur .pick [.tmp 23, .tmp 35, .const (.bool false)]⟩]) [36])
  (.cond (.tmp 36) (.seq (.reg (straight [⟨some 2, none, .pur .mov [.const (.int .i64 11)]⟩]) [2])
  (.ret)) (.skip))))))
  (.reg (straight [⟨some 37, none, .pur (.bin .add) [.tmp 16, .const (.int .i64 1)]⟩, ⟨some 16, none, .pur .mov [.tmp 37]⟩]) [16])))
def S_tidy_check : Fun := ⟨47, [2, 0, 6, 10, 16, 15, 17, 14, 4, 5, 36, 46], [.tmp 2],
  .seq (.reg (straight [⟨some 2, none, .pur .mov [.const (.int .i64 0)]⟩]) [2])
  (.seq (.block 0 (.seq (.reg (straight [⟨some 7, none, .pur .mov [.tmp 0]⟩, ⟨some 8, none, .pur (.len false) [.tmp 7]⟩, ⟨some 9, none, .pur (.bin .eql) [.tmp 8, .const (.int .i64 0)]⟩, ⟨some 6, none, .pur .mov [.tmp 9]⟩]) [6])
  (.cond (.tmp 6) (.seq (.reg (straight [⟨some 2, none, .pur .mov [.const (.int .i64 7)]⟩]) [2])
  (.ret)) (.seq (.reg (straight [⟨some 11, none, .pur .mov [.tmp 0]⟩, ⟨some 12, none, .pur (.len false) [.tmp 11]⟩, ⟨some 13, none, .pur (.bin .gtr) [.tmp 12, .const (.int .i64 200)]⟩, ⟨some 10, none, .pur .mov [.tmp 13]⟩]) [10])
  (.cond (.tmp 10) (.seq (.reg (straight [⟨some 2, none, .pur .mov [.const (.int .i64 9)]⟩]) [2])
  (.ret)) (.skip))))))
  (.seq (.seq (.reg (straight [⟨some 14, none, .pur .mov [.tmp 0]⟩, ⟨some 15, none, .pur (.len false) [.tmp 14]⟩, ⟨some 16, none, .pur .mov [.const (.int .i64 0)]⟩]) [14, 15, 16])
  (.block 1 (.loop S_tidy_check_L1)))
  (.seq (.seq (.reg (straight [⟨some 38, none, .pur .mov [.tmp 0]⟩, ⟨some 39, none, .pur .mov [.tmp 0]⟩, ⟨some 40, none, .pur (.len false) [.tmp 39]⟩, ⟨some 41, none, .pur (.bin .sub) [.tmp 40, .const (.int .i64 1)]⟩, ⟨some 42, none, .pur (.ixa 4) [.tmp 38, .tmp 41]⟩, ⟨some 43, none, .pur (.fla 0) [.tmp 42]⟩, ⟨some 44, none, .ld none (.tmp 43)⟩, ⟨some 45, none, .eff (.call 114) [.tmp 44]⟩, ⟨some 46, none, .pur .not [.tmp 45]⟩]) [46])
  (.cond (.tmp 46) (.seq (.reg (straight [⟨some 2, none, .pur .mov [.const (.int .i64 12)]⟩]) [2])
  (.ret)) (.skip)))
  (.seq (.reg (straight [⟨some 2, none, .pur .mov [.const (.int .i64 0)]⟩]) [2])
  (.ret)))))⟩
theorem K_tidy_check : compF Try.prog 90 = some S_tidy_check := by kernel_rfl

-- 91
def S_tidy_reached_L1 : SCode :=
  .seq (.seq (.reg (straight [⟨some 12, none, .pur .mov [.tmp 4]⟩, ⟨some 13, none, .pur (.len false) [.tmp 12]⟩, ⟨some 14, none, .pur (.bin .gtr) [.tmp 13, .const (.int .i64 0)]⟩]) [14])
  (.cond (.tmp 14) (.skip) (.exit 0)))
  (.block 1 (.seq (.reg (straight [⟨some 15, none, .pur .mov [.tmp 4]⟩, ⟨some 16, none, .pur .mov [.tmp 4]⟩, ⟨some 17, none, .pur (.len false) [.tmp 16]⟩, ⟨some 18, none, .pur (.bin .sub) [.tmp 17, .const (.int .i64 1)]⟩, ⟨some 19, none, .pur (.ixa 1) [.tmp 15, .tmp 18]⟩, ⟨some 20, none, .ld none (.tmp 19)⟩, ⟨some 5, none, .pur .mov [.tmp 20]⟩]) [5])
  (.seq (.reg (straight [⟨some 21, none, .pur .mov [.tmp 4]⟩, ⟨some 22, none, .pur .mov [.tmp 4]⟩, ⟨some 23, none, .pur (.len false) [.tmp 22]⟩, ⟨some 24, none, .pur (.bin .sub) [.tmp 23, .const (.int .i64 1)]⟩, ⟨some 25, none, .pur (.slc 1 false true) [.tmp 21, .tmp 24]⟩, ⟨some 4, none, .pur .mov [.tmp 25]⟩]) [4])
  (.seq (.seq (.reg (straight [⟨some 26, none, .pur .mov [.tmp 3]⟩, ⟨some 27, none, .pur .mov [.tmp 5]⟩, ⟨some 28, none, .pur (.ixa 1) [.tmp 26, .tmp 27]⟩, ⟨some 29, none, .ld none (.tmp 28)⟩]) [29])
  (.cond (.tmp 29) (.exit 1) (.skip)))
  (.seq (.reg (straight [⟨some 30, none, .pur .mov [.tmp 3]⟩, ⟨some 31, none, .pur .mov [.tmp 5]⟩, ⟨some 32, none, .pur (.ixa 1) [.tmp 30, .tmp 31]⟩, ⟨none, none, .eff (.st 1) [.tmp 32, .const (.bool true)]⟩]) [])
  (.seq (.reg (straight [⟨some 33, none, .pur .mov [.tmp 0]⟩, ⟨some 34, none, .pur .mov [.tmp 5]⟩, ⟨some 35, none, .pur (.ixa 4) [.tmp 33, .tmp 34]⟩, ⟨some 36, none, .ld (some 4) (.tmp 35)⟩, ⟨some 6, none, .eff (.new 115 [.int .i64 0, .int .i64 0, .int .i64 0, .int .i64 0]) []⟩, ⟨none, none, .eff (.st 4) [.tmp 6, .tmp 36]⟩]) [6])
  (.seq (.seq (.reg (straight [⟨some 37, none, .pur (.fla 0) [.tmp 6]⟩, ⟨some 38, none, .ld none (.tmp 37)⟩, ⟨some 39, none, .eff (.call 114) [.tmp 38]⟩, ⟨some 40, none, .pur .not [.tmp 39]⟩]) [40])
  (.cond (.tmp 40) (.reg (straight [⟨some 41, none, .pur .mov [.tmp 4]⟩, ⟨some 42, none, .pur .mov [.tmp 5]⟩, ⟨some 43, none, .pur (.bin .add) [.tmp 42, .const (.int .i64 1)]⟩, ⟨some 44, none, .eff (.bsl 3 1) [.tmp 43]⟩, ⟨some 45, none, .eff (.app 3 1 8 [.int .i64 0]) [.tmp 41, .tmp 44]⟩, ⟨some 4, none, .pur .mov [.tmp 45]⟩]) [4]) (.skip)))
  (.seq (.reg (straight [⟨some 46, none, .eff (.call 92) [.tmp 6]⟩, ⟨some 7, none, .pur .mov [.tmp 46]⟩]) [7])
  (.seq (.reg (straight [⟨some 47, none, .pur .mov [.tmp 7]⟩, ⟨some 48, none, .pur (.eqn true 0) [.tmp 47]⟩]) [48])
  (.cond (.tmp 48) (.reg (straight [⟨some 49, none, .pur .mov [.tmp 4]⟩, ⟨some 50, none, .pur .mov [.tmp 7]⟩, ⟨some 51, none, .pur .nilc [.tmp 50]⟩, ⟨some 52, none, .ld none (.tmp 51)⟩, ⟨some 53, none, .eff (.bsl 3 1) [.tmp 52]⟩, ⟨some 54, none, .eff (.app 3 1 8 [.int .i64 0]) [.tmp 49, .tmp 53]⟩, ⟨some 4, none, .pur .mov [.tmp 54]⟩]) [4]) (.skip)))))))))))
def S_tidy_reached : Fun := ⟨56, [2, 0, 4, 14, 3, 5, 29, 6, 40, 7, 48], [.tmp 2],
  .seq (.reg (straight [⟨some 2, none, .pur .mov [.const (.slice none 0 0)]⟩]) [2])
  (.seq (.reg (straight [⟨some 8, none, .pur .mov [.tmp 0]⟩, ⟨some 9, none, .pur (.len false) [.tmp 8]⟩, ⟨some 10, none, .eff (.mks 4 1 1 [.bool false]) [.tmp 9, .tmp 9]⟩, ⟨some 3, none, .pur .mov [.tmp 10]⟩]) [3])
  (.seq (.reg (straight [⟨some 11, none, .eff (.bsl 3 1) [.const (.int .i64 0)]⟩, ⟨some 4, none, .pur .mov [.tmp 11]⟩]) [4])
  (.seq (.block 0 (.loop S_tidy_reached_L1))
  (.seq (.reg (straight [⟨some 55, none, .pur .mov [.tmp 3]⟩, ⟨some 2, none, .pur .mov [.tmp 55]⟩]) [2])
  (.ret)))))⟩
theorem K_tidy_reached : compF Try.prog 91 = some S_tidy_reached := by kernel_rfl

-- 92
def S_tidy_target : Fun := ⟨17, [2, 0, 6, 7, 12], [.tmp 2],
  .seq (.reg (straight [⟨some 2, none, .pur .mov [.const (.pointer none)]⟩]) [2])
  (.seq (.seq (.reg (straight [⟨some 3, none, .pur .mov [.tmp 0]⟩, ⟨some 4, none, .pur .nilc [.tmp 3]⟩, ⟨some 5, none, .pur (.fla 0) [.tmp 4]⟩, ⟨some 6, none, .ld none (.tmp 5)⟩]) [6])
  (.block 0 (.seq (.reg (straight [⟨some 8, none, .pur (.bin .eql) [.tmp 6, .const (.int .i64 18)]⟩, ⟨some 7, none, .pur .mov [.tmp 8]⟩]) [7])
  (.cond (.tmp 7) (.seq (.reg (straight [⟨some 9, none, .pur .mov [.tmp 0]⟩, ⟨some 10, none, .pur .nilc [.tmp 9]⟩, ⟨some 11, none, .pur (.fla 1) [.tmp 10]⟩, ⟨some 2, none, .pur .mov [.tmp 11]⟩]) [2])
  (.ret)) (.seq (.reg (straight [⟨some 13, none, .pur (.bin .eql) [.tmp 6, .const (.int .i64 19)]⟩, ⟨some 12, none, .pur .mov [.tmp 13]⟩]) [12])
  (.cond (.tmp 12) (.seq (.reg (straight [⟨some 14, none, .pur .mov [.tmp 0]⟩, ⟨some 15, none, .pur .nilc [.tmp 14]⟩, ⟨some 16, none, .pur (.fla 2) [.tmp 15]⟩, ⟨some 2, none, .pur .mov [.tmp 16]⟩]) [2])
  (.ret)) (.skip)))))))
  (.seq (.reg (straight [⟨some 2, none, .pur .mov [.const (.pointer none)]⟩]) [2])
  (.ret)))⟩
theorem K_tidy_target : compF Try.prog 92 = some S_tidy_target := by kernel_rfl

-- 93
def S_tidy_ledOn_L1 : SCode :=
  .seq (.reg (straight [⟨some 11, none, .pur (.bin .lss) [.tmp 10, .tmp 9]⟩]) [11])
  (.seq (.cond (.tmp 11) (.skip) (.exit 0))
  (.seq (.block 1 (.seq (.reg (straight [⟨some 12, none, .pur .mov [.tmp 10]⟩, ⟨some 4, none, .pur .mov [.tmp 12]⟩]) [4])
  (.seq (.reg (straight [⟨some 13, none, .pur .mov [.tmp 3]⟩, ⟨some 14, none, .pur .mov [.tmp 4]⟩, ⟨some 15, none, .pur (.ixa 4) [.tmp 13, .tmp 14]⟩, ⟨some 16, none, .eff (.call 92) [.tmp 15]⟩, ⟨some 5, none, .pur .mov [.tmp 16]⟩]) [5])
  (.seq (.reg (straight [⟨some 17, none, .pur .mov [.tmp 5]⟩, ⟨some 18, none, .pur (.eqn true 0) [.tmp 17]⟩]) [18])
  (.cond (.tmp 18) (.reg (straight [⟨some 19, none, .pur .mov [.tmp 5]⟩, ⟨some 20, none, .pur .mov [.tmp 0]⟩, ⟨some 21, none, .pur .mov [.tmp 5]⟩, ⟨some 22, none, .pur .nilc [.tmp 21]⟩, ⟨some 23, none, .ld none (.tmp 22)⟩, ⟨some 24, none, .eff (.call 115) [.tmp 20, .tmp 23]⟩, ⟨some 25, none, .pur .nilc [.tmp 19]⟩, ⟨none, none, .eff (.st 1) [.tmp 25, .tmp 24]⟩]) []) (.skip))))))
  (.reg (straight [⟨some 26, none, .pur (.bin .add) [.tmp 10, .const (.int .i64 1)]⟩, ⟨some 10, none, .pur .mov [.tmp 26]⟩]) [10])))
def S_tidy_ledOn : Fun := ⟨28, [2, 0, 3, 10, 9, 11, 4, 5, 18], [.tmp 2],
  .seq (.reg (straight [⟨some 2, none, .pur .mov [.const (.slice none 0 0)]⟩]) [2])
  (.seq (.reg (straight [⟨some 6, none, .pur .mov [.tmp 0]⟩, ⟨some 7, none, .eff (.call 61) [.tmp 6]⟩, ⟨some 3, none, .pur .mov [.tmp 7]⟩]) [3])
  (.seq (.seq (.reg (straight [⟨some 8, none, .pur .mov [.tmp 3]⟩, ⟨some 9, none, .pur (.len false) [.tmp 8]⟩, ⟨some 10, none, .pur .mov [.const (.int .i64 0)]⟩]) [9, 10])
  (.block 0 (.loop S_tidy_ledOn_L1)))
  (.seq (.reg (straight [⟨some 27, none, .pur .mov [.tmp 3]⟩, ⟨some 2, none, .pur .mov [.tmp 27]⟩]) [2])
  (.ret))))⟩
theorem K_tidy_ledOn : compF Try.prog 93 = some S_tidy_ledOn := by kernel_rfl

-- 94
def S_forebayref04_many : Fun := ⟨10, [4, 0, 6, 1, 9], [.tmp 4],
  .seq (.reg (straight [⟨some 4, none, .pur .mov [.const (.int .i64 0)]⟩]) [4])
  (.seq (.seq (.reg (straight [⟨some 5, none, .pur .mov [.tmp 0]⟩, ⟨some 6, none, .pur (.bin .eql) [.tmp 5, .const (.int .i64 0)]⟩]) [6])
  (.cond (.tmp 6) (.seq (.reg (straight [⟨some 4, none, .pur .mov [.const (.int .i64 7)]⟩]) [4])
  (.ret)) (.skip)))
  (.seq (.seq (.reg (straight [⟨some 7, none, .pur .mov [.tmp 0]⟩, ⟨some 8, none, .pur .mov [.tmp 1]⟩, ⟨some 9, none, .pur (.bin .gtr) [.tmp 7, .tmp 8]⟩]) [9])
  (.cond (.tmp 9) (.seq (.reg (straight [⟨some 4, none, .pur .mov [.const (.int .i64 9)]⟩]) [4])
  (.ret)) (.skip)))
  (.seq (.reg (straight [⟨some 4, none, .pur .mov [.const (.int .i64 0)]⟩]) [4])
  (.ret))))⟩
theorem K_forebayref04_many : compF Try.prog 94 = some S_forebayref04_many := by kernel_rfl

-- 95
def S_forebayref03_Check_L1 : SCode :=
  .seq (.seq (.reg (straight [⟨some 27, none, .pur .mov [.tmp 5]⟩, ⟨some 28, none, .pur .mov [.tmp 3]⟩, ⟨some 29, none, .pur (.len true) [.tmp 28]⟩, ⟨some 30, none, .pur (.bin .lss) [.tmp 27, .tmp 29]⟩]) [30])
  (.cond (.tmp 30) (.skip) (.exit 0)))
  (.seq (.block 1 (.seq (.reg (straight [⟨some 34, none, .pur .mov [.tmp 3]⟩, ⟨some 35, none, .pur .mov [.tmp 5]⟩, ⟨some 36, none, .pur .mov [.tmp 5]⟩, ⟨some 37, none, .pur (.bin .add) [.tmp 36, .const (.int .i64 1)]⟩, ⟨some 38, none, .pur (.sls true true) [.tmp 34, .tmp 35, .tmp 37]⟩, ⟨some 39, none, .eff (.call 117) [.tmp 38]⟩, ⟨some 33, none, .pur .mov [.tmp 39]⟩, ⟨some 40, none, .pur (.ext 0) [.tmp 33]⟩, ⟨some 41, none, .pur (.ext 1) [.tmp 33]⟩, ⟨some 6, none, .pur .mov [.tmp 40]⟩, ⟨some 7, none, .pur .mov [.tmp 41]⟩]) [6, 7])
  (.seq (.reg (straight [⟨some 42, none, .pur .mov [.tmp 4]⟩, ⟨some 43, none, .pur .mov [.tmp 5]⟩, ⟨some 44, none, .pur (.ixa 1) [.tmp 42, .tmp 43]⟩, ⟨some 45, none, .ld none (.tmp 44)⟩, ⟨some 46, none, .pur .mov [.tmp 6]⟩, ⟨some 47, none, .pur (.bin .lss) [.tmp 45, .tmp 46]⟩, ⟨some 48, none, .pur .mov [.tmp 47]⟩, ⟨some 49, some (48, false), .pur .mov [.tmp 4]⟩, ⟨some 50, some (48, false), .pur .mov [.tmp 5]⟩, ⟨some 51, some (48, false), .pur (.ixa 1) [.tmp 49, .tmp 50]⟩, ⟨some 52, some (48, false), .ld none (.tmp 51)⟩, ⟨some 53, some (48, false), .pur .mov [.tmp 7]⟩, ⟨some 54, some (48, false), .pur (.bin .gtr) [.tmp 52, .tmp 53]⟩, ⟨some 55, none, .pur .pick [.tmp 48, .const (.bool true), .tmp 54]⟩]) [55])
  (.cond (.tmp 55) (.seq (.reg (straight [⟨some 2, none, .pur .mov [.const (.int .i64 3)]⟩]) [2])
  (.ret)) (.skip)))))
  (.reg (straight [⟨some 31, none, .pur .mov [.tmp 5]⟩, ⟨some 32, none, .pur (.bin .add) [.tmp 31, .const (.int .i64 1)]⟩, ⟨some 5, none, .pur .mov [.tmp 32]⟩]) [5]))
def S_forebayref03_Check_L2 : SCode :=
  .seq (.seq (.reg (straight [⟨some 58, none, .pur .mov [.tmp 8]⟩, ⟨some 59, none, .pur (.bin .lss) [.tmp 58, .const (.int .i64 3)]⟩]) [59])
  (.cond (.tmp 59) (.skip) (.exit 2)))
  (.seq (.block 3 (.seq (.reg (straight [⟨some 62, none, .pur .mov [.tmp 4]⟩, ⟨some 63, none, .pur .mov [.tmp 8]⟩, ⟨some 64, none, .pur (.ixa 1) [.tmp 62, .tmp 63]⟩, ⟨some 65, none, .ld none (.tmp 64)⟩, ⟨some 66, none, .pur (.bin .neq) [.tmp 65, .const (.int .i64 0)]⟩]) [66])
  (.cond (.tmp 66) (.seq (.reg (straight [⟨some 2, none, .pur .mov [.const (.int .i64 4)]⟩]) [2])
  (.ret)) (.skip))))
  (.reg (straight [⟨some 60, none, .pur .mov [.tmp 8]⟩, ⟨some 61, none, .pur (.bin .add) [.tmp 60, .const (.int .i64 1)]⟩, ⟨some 8, none, .pur .mov [.tmp 61]⟩]) [8]))
def S_forebayref03_Check : Fun := ⟨67, [2, 0, 1, 16, 5, 3, 30, 4, 6, 7, 55, 8, 59, 66], [.tmp 2],
  .seq (.reg (straight [⟨some 1, none, .eff (.box 115) [.tmp 0]⟩, ⟨some 2, none, .pur .mov [.const (.int .i64 0)]⟩]) [1, 2])
  (.seq (.seq (.reg (straight [⟨some 9, none, .pur (.fla 0) [.tmp 1]⟩, ⟨some 10, none, .ld none (.tmp 9)⟩, ⟨some 11, none, .pur (.bin .lss) [.tmp 10, .const (.int .i64 0)]⟩, ⟨some 12, none, .pur .mov [.tmp 11]⟩, ⟨some 13, some (12, false), .pur (.fla 0) [.tmp 1]⟩, ⟨some 14, some (12, false), .ld none (.tmp 13)⟩, ⟨some 15, some (12, false), .pur (.bin .gtr) [.tmp 14, .const (.int .i64 25)]⟩, ⟨some 16, none, .pur .pick [.tmp 12, .const (.bool true), .tmp 15]⟩]) [16])
  (.cond (.tmp 16) (.seq (.reg (straight [⟨some 2, none, .pur .mov [.const (.int .i64 5)]⟩]) [2])
  (.ret)) (.skip)))
  (.seq (.reg (straight [⟨some 17, none, .pur (.fla 0) [.tmp 1]⟩, ⟨some 18, none, .ld none (.tmp 17)⟩, ⟨some 19, none, .eff (.call 116) [.tmp 18]⟩, ⟨some 3, none, .pur .mov [.tmp 19]⟩]) [3])
  (.seq (.reg (straight [⟨some 20, none, .pur (.fla 1) [.tmp 1]⟩, ⟨some 21, none, .ld none (.tmp 20)⟩, ⟨some 22, none, .pur (.fla 2) [.tmp 1]⟩, ⟨some 23, none, .ld none (.tmp 22)⟩, ⟨some 24, none, .pur (.fla 3) [.tmp 1]⟩, ⟨some 25, none, .ld none (.tmp 24)⟩, ⟨some 26, none, .eff (.bsl 3 1) [.tmp 21, .tmp 23, .tmp 25]⟩, ⟨some 4, none, .pur .mov [.tmp 26]⟩]) [4])
  (.seq (.seq (.reg (straight [⟨some 5, none, .pur .mov [.const (.int .i64 0)]⟩]) [5])
  (.block 0 (.loop S_forebayref03_Check_L1)))
  (.seq (.seq (.reg (straight [⟨some 56, none, .pur .mov [.tmp 3]⟩, ⟨some 57, none, .pur (.len true) [.tmp 56]⟩, ⟨some 8, none, .pur .mov [.tmp 57]⟩]) [8])
  (.block 2 (.loop S_forebayref03_Check_L2)))
  (.seq (.reg (straight [⟨some 2, none, .pur .mov [.const (.int .i64 0)]⟩]) [2])
  (.ret)))))))⟩
theorem K_forebayref03_Check : compF Try.prog 95 = some S_forebayref03_Check := by kernel_rfl

-- 96
def S_forebayref42_target : Fun := ⟨13, [2, 0, 1, 5, 10], [.tmp 2],
  .seq (.reg (straight [⟨some 1, none, .eff (.box 115) [.tmp 0]⟩, ⟨some 2, none, .pur .mov [.const (.int .i64 0)]⟩]) [1, 2])
  (.seq (.seq (.reg (straight [⟨some 3, none, .pur (.fla 0) [.tmp 1]⟩, ⟨some 4, none, .ld none (.tmp 3)⟩, ⟨some 5, none, .pur (.bin .eql) [.tmp 4, .const (.int .i64 18)]⟩]) [5])
  (.cond (.tmp 5) (.seq (.reg (straight [⟨some 6, none, .pur (.fla 1) [.tmp 1]⟩, ⟨some 7, none, .ld none (.tmp 6)⟩, ⟨some 2, none, .pur .mov [.tmp 7]⟩]) [2])
  (.ret)) (.skip)))
  (.seq (.seq (.reg (straight [⟨some 8, none, .pur (.fla 0) [.tmp 1]⟩, ⟨some 9, none, .ld none (.tmp 8)⟩, ⟨some 10, none, .pur (.bin .eql) [.tmp 9, .const (.int .i64 19)]⟩]) [10])
  (.cond (.tmp 10) (.seq (.reg (straight [⟨some 11, none, .pur (.fla 2) [.tmp 1]⟩, ⟨some 12, none, .ld none (.tmp 11)⟩, ⟨some 2, none, .pur .mov [.tmp 12]⟩]) [2])
  (.ret)) (.skip)))
  (.seq (.reg (straight [⟨some 2, none, .pur .mov [.const (.int .i64 (-1))]⟩]) [2])
  (.ret))))⟩
theorem K_forebayref42_target : compF Try.prog 96 = some S_forebayref42_target := by kernel_rfl

-- 97
def S_forebayref42_with : Fun := ⟨16, [4, 0, 2, 7, 1, 12], [.cell 4 (some 4)],
  .seq (.reg (straight [⟨some 2, none, .eff (.box 115) [.tmp 0]⟩, ⟨some 4, none, .eff (.new 115 [.int .i64 0, .int .i64 0, .int .i64 0, .int .i64 0]) []⟩]) [2, 4])
  (.seq (.seq (.reg (straight [⟨some 5, none, .pur (.fla 0) [.tmp 2]⟩, ⟨some 6, none, .ld none (.tmp 5)⟩, ⟨some 7, none, .pur (.bin .eql) [.tmp 6, .const (.int .i64 18)]⟩]) [7])
  (.cond (.tmp 7) (.reg (straight [⟨some 8, none, .pur .mov [.tmp 1]⟩, ⟨some 9, none, .pur (.fla 1) [.tmp 2]⟩, ⟨none, none, .eff (.st 1) [.tmp 9, .tmp 8]⟩]) []) (.skip)))
  (.seq (.seq (.reg (straight [⟨some 10, none, .pur (.fla 0) [.tmp 2]⟩, ⟨some 11, none, .ld none (.tmp 10)⟩, ⟨some 12, none, .pur (.bin .eql) [.tmp 11, .const (.int .i64 19)]⟩]) [12])
  (.cond (.tmp 12) (.reg (straight [⟨some 13, none, .pur .mov [.tmp 1]⟩, ⟨some 14, none, .pur (.fla 2) [.tmp 2]⟩, ⟨none, none, .eff (.st 1) [.tmp 14, .tmp 13]⟩]) []) (.skip)))
  (.seq (.reg (straight [⟨some 15, none, .ld (some 4) (.tmp 2)⟩, ⟨none, none, .eff (.st 4) [.tmp 4, .tmp 15]⟩]) [])
  (.ret))))⟩
theorem K_forebayref42_with : compF Try.prog 97 = some S_forebayref42_with := by kernel_rfl

-- 98
def S_forebayref42_Reached_L2 : SCode :=
  .seq (.seq (.reg (straight [⟨some 13, none, .pur .mov [.tmp 5]⟩, ⟨some 14, none, .pur .mov [.tmp 0]⟩, ⟨some 15, none, .pur (.len false) [.tmp 14]⟩, ⟨some 16, none, .pur (.bin .lss) [.tmp 13, .tmp 15]⟩]) [16])
  (.cond (.tmp 16) (.skip) (.exit 2)))
  (.seq (.block 3 (.seq (.seq (.reg (straight [⟨some 19, none, .pur .mov [.tmp 3]⟩, ⟨some 20, none, .pur .mov [.tmp 5]⟩, ⟨some 21, none, .pur (.ixa 1) [.tmp 19, .tmp 20]⟩, ⟨some 22, none, .ld none (.tmp 21)⟩, ⟨some 23, none, .pur .not [.tmp 22]⟩]) [23])
  (.cond (.tmp 23) (.exit 3) (.skip)))
  (.seq (.seq (.reg (straight [⟨some 24, none, .pur .mov [.tmp 0]⟩, ⟨some 25, none, .pur .mov [.tmp 5]⟩, ⟨some 26, none, .pur (.ixa 4) [.tmp 24, .tmp 25]⟩, ⟨some 27, none, .ld (some 4) (.tmp 26)⟩, ⟨some 28, none, .eff (.call 118) [.tmp 27]⟩, ⟨some 29, none, .pur .not [.tmp 28]⟩, ⟨some 30, none, .pur .mov [.tmp 29]⟩, ⟨some 31, some (30, true), .pur .mov [.tmp 3]⟩, ⟨some 32, some (30, true), .pur .mov [.tmp 5]⟩, ⟨some 33, some (30, true), .pur (.bin .add) [.tmp 32, .const (.int .i64 1)]⟩, ⟨some 34, some (30, true), .pur (.ixa 1) [.tmp 31, .tmp 33]⟩, ⟨some 35, some (30, true), .ld none (.tmp 34)⟩, ⟨some 36, some (30, true), .pur .not [.tmp 35]⟩, ⟨some 37, none, .pur .pick [.tmp 30, .tmp 36, .const (.bool false)]⟩]) [37])
  (.cond (.tmp 37) (.seq (.reg (straight [⟨some 38, none, .pur .mov [.tmp 3]⟩, ⟨some 39, none, .pur .mov [.tmp 5]⟩, ⟨some 40, none, .pur (.bin .add) [.tmp 39, .const (.int .i64 1)]⟩, ⟨some 41, none, .pur (.ixa 1) [.tmp 38, .tmp 40]⟩, ⟨none, none, .eff (.st 1) [.tmp 41, .const (.bool true)]⟩]) [])
  (.reg (straight [⟨some 4, none, .pur .mov [.const (.bool true)]⟩]) [4])) (.skip)))
  (.seq (.reg (straight [⟨some 42, none, .pur .mov [.tmp 0]⟩, ⟨some 43, none, .pur .mov [.tmp 5]⟩, ⟨some 44, none, .pur (.ixa 4) [.tmp 42, .tmp 43]⟩, ⟨some 45, none, .ld (some 4) (.tmp 44)⟩, ⟨some 46, none, .eff (.call 96) [.tmp 45]⟩, ⟨some 6, none, .pur .mov [.tmp 46]⟩]) [6])
  (.seq (.reg (straight [⟨some 47, none, .pur .mov [.tmp 6]⟩, ⟨some 48, none, .pur (.bin .geq) [.tmp 47, .const (.int .i64 0)]⟩, ⟨some 49, none, .pur .mov [.tmp 48]⟩, ⟨some 50, some (49, true), .pur .mov [.tmp 3]⟩, ⟨some 51, some (49, true), .pur .mov [.tmp 6]⟩, ⟨some 52, some (49, true), .pur (.ixa 1) [.tmp 50, .tmp 51]⟩, ⟨some 53, some (49, true), .ld none (.tmp 52)⟩, ⟨some 54, some (49, true), .pur .not [.tmp 53]⟩, ⟨some 55, none, .pur .pick [.tmp 49, .tmp 54, .const (.bool false)]⟩]) [55])
  (.cond (.tmp 55) (.seq (.reg (straight [⟨some 56, none, .pur .mov [.tmp 3]⟩, ⟨some 57, none, .pur .mov [.tmp 6]⟩, ⟨some 58, none, .pur (.ixa 1) [.tmp 56, .tmp 57]⟩, ⟨none, none, .eff (.st 1) [.tmp 58, .const (.bool true)]⟩]) [])
  (.reg (straight [⟨some 4, none, .pur .mov [.const (.bool true)]⟩]) [4])) (.skip)))))))
  (.reg (straight [⟨some 17, none, .pur .mov [.tmp 5]⟩, ⟨some 18, none, .pur (.bin .add) [.tmp 17, .const (.int .i64 1)]⟩, ⟨some 5, none, .pur .mov [.tmp 18]⟩]) [5]))
def S_forebayref42_Reached_L1 : SCode :=
  .seq (.seq (.reg (straight [⟨some 12, none, .pur .mov [.tmp 4]⟩]) [12])
  (.cond (.tmp 12) (.skip) (.exit 0)))
  (.block 1 (.seq (.reg (straight [⟨some 4, none, .pur .mov [.const (.bool false)]⟩]) [4])
  (.seq (.reg (straight [⟨some 5, none, .pur .mov [.const (.int .i64 0)]⟩]) [5])
  (.block 2 (.loop S_forebayref42_Reached_L2)))))
def S_forebayref42_Reached : Fun := ⟨60, [2, 0, 3, 4, 12, 5, 16, 23, 37, 6, 55], [.tmp 2],
  .seq (.reg (straight [⟨some 2, none, .pur .mov [.const (.slice none 0 0)]⟩]) [2])
  (.seq (.reg (straight [⟨some 7, none, .pur .mov [.tmp 0]⟩, ⟨some 8, none, .pur (.len false) [.tmp 7]⟩, ⟨some 9, none, .eff (.mks 4 1 1 [.bool false]) [.tmp 8, .tmp 8]⟩, ⟨some 3, none, .pur .mov [.tmp 9]⟩]) [3])
  (.seq (.reg (straight [⟨some 10, none, .pur .mov [.tmp 3]⟩, ⟨some 11, none, .pur (.ixa 1) [.tmp 10, .const (.int .i64 0)]⟩, ⟨none, none, .eff (.st 1) [.tmp 11, .const (.bool true)]⟩]) [])
  (.seq (.seq (.reg (straight [⟨some 4, none, .pur .mov [.const (.bool true)]⟩]) [4])
  (.block 0 (.loop S_forebayref42_Reached_L1)))
  (.seq (.reg (straight [⟨some 59, none, .pur .mov [.tmp 3]⟩, ⟨some 2, none, .pur .mov [.tmp 59]⟩]) [2])
  (.ret)))))⟩
theorem K_forebayref42_Reached : compF Try.prog 98 = some S_forebayref42_Reached := by kernel_rfl

-- 99
def S_forebayref42_Useless : Fun := ⟨54, [4, 1, 0, 12, 18], [.tmp 4],
  .seq (.reg (straight [⟨some 4, none, .pur .mov [.const (.bool false)]⟩]) [4])
  (.seq (.seq (.reg (straight [⟨some 5, none, .pur .mov [.tmp 1]⟩, ⟨some 6, none, .pur (.bin .lss) [.tmp 5, .const (.int .i64 0)]⟩, ⟨some 7, none, .pur .mov [.tmp 6]⟩, ⟨some 8, some (7, false), .pur .mov [.tmp 1]⟩, ⟨some 9, some (7, false), .pur .mov [.tmp 0]⟩, ⟨some 10, some (7, false), .pur (.len false) [.tmp 9]⟩, ⟨some 11, some (7, false), .pur (.bin .geq) [.tmp 8, .tmp 10]⟩, ⟨some 12, none, .pur .pick [.tmp 7, .const (.bool true), .tmp 11]⟩]) [12])
  (.cond (.tmp 12) (.seq (.reg (straight [⟨some 4, none, .pur .mov [.const (.bool false)]⟩]) [4])
  (.ret)) (.skip)))
  (.seq (.seq (.reg (straight [⟨some 13, none, .pur .mov [.tmp 0]⟩, ⟨some 14, none, .pur .mov [.tmp 1]⟩, ⟨some 15, none, .pur (.ixa 4) [.tmp 13, .tmp 14]⟩, ⟨some 16, none, .pur (.fla 0) [.tmp 15]⟩, ⟨some 17, none, .ld none (.tmp 16)⟩, ⟨some 18, none, .pur (.bin .eql) [.tmp 17, .const (.int .i64 2)]⟩]) [18])
  (.cond (.tmp 18) (.seq (.reg (straight [⟨some 19, none, .pur .mov [.tmp 0]⟩, ⟨some 20, none, .pur .mov [.tmp 1]⟩, ⟨some 21, none, .pur (.ixa 4) [.tmp 19, .tmp 20]⟩, ⟨some 22, none, .pur (.fla 1) [.tmp 21]⟩, ⟨some 23, none, .ld none (.tmp 22)⟩, ⟨some 24, none, .pur .mov [.tmp 0]⟩, ⟨some 25, none, .pur .mov [.tmp 1]⟩, ⟨some 26, none, .pur (.ixa 4) [.tmp 24, .tmp 25]⟩, ⟨some 27, none, .pur (.fla 2) [.tmp 26]⟩, ⟨some 28, none, .ld none (.tmp 27)⟩, ⟨some 29, none, .pur (.bin .eql) [.tmp 23, .tmp 28]⟩, ⟨some 4, none, .pur .mov [.tmp 29]⟩]) [4])
  (.ret)) (.skip)))
  (.seq (.reg (straight [⟨some 30, none, .pur .mov [.tmp 0]⟩, ⟨some 31, none, .pur .mov [.tmp 1]⟩, ⟨some 32, none, .pur (.ixa 4) [.tmp 30, .tmp 31]⟩, ⟨some 33, none, .pur (.fla 0) [.tmp 32]⟩, ⟨some 34, none, .ld none (.tmp 33)⟩, ⟨some 35, none, .pur (.bin .eql) [.tmp 34, .const (.int .i64 18)]⟩, ⟨some 36, none, .pur .mov [.tmp 35]⟩, ⟨some 37, some (36, false), .pur .mov [.tmp 0]⟩, ⟨some 38, some (36, false), .pur .mov [.tmp 1]⟩, ⟨some 39, some (36, false), .pur (.ixa 4) [.tmp 37, .tmp 38]⟩, ⟨some 40, some (36, false), .pur (.fla 0) [.tmp 39]⟩, ⟨some 41, some (36, false), .ld none (.tmp 40)⟩, ⟨some 42, some (36, false), .pur (.bin .eql) [.tmp 41, .const (.int .i64 19)]⟩, ⟨some 43, none, .pur .pick [.tmp 36, .const (.bool true), .tmp 42]⟩, ⟨some 44, none, .pur .mov [.tmp 43]⟩, ⟨some 45, some (44, true), .pur .mov [.tmp 0]⟩, ⟨some 46, some (44, true), .pur .mov [.tmp 1]⟩, ⟨some 47, some (44, true), .pur (.ixa 4) [.tmp 45, .tmp 46]⟩, ⟨some 48, some (44, true), .ld (some 4) (.tmp 47)⟩, ⟨some 49, some (44, true), .eff (.call 96) [.tmp 48]⟩, ⟨some 50, some (44, true), .pur .mov [.tmp 1]⟩, ⟨some 51, some (44, true), .pur (.bin .add) [.tmp 50, .const (.int .i64 1)]⟩, ⟨some 52, some (44, true), .pur (.bin .eql) [.tmp 49, .tmp 51]⟩, ⟨some 53, none, .pur .pick [.tmp 44, .tmp 52, .const (.bool false)]⟩, ⟨some 4, none, .pur .mov [.tmp 53]⟩]) [4])
  (.ret))))⟩
theorem K_forebayref42_Useless : compF Try.prog 99 = some S_forebayref42_Useless := by kernel_rfl

-- 100
def S_prog_many : Fun := ⟨12, [4, 0, 5, 1, 8], [.tmp 4],
  .seq (.reg (straight [⟨some 4, none, .pur .mov [.const (.int .i64 0)]⟩]) [4])
  (.seq (.block 0 (.seq (.reg (straight [⟨some 6, none, .pur .mov [.tmp 0]⟩, ⟨some 7, none, .pur (.bin .eql) [.tmp 6, .const (.int .i64 0)]⟩, ⟨some 5, none, .pur .mov [.tmp 7]⟩]) [5])
  (.cond (.tmp 5) (.seq (.reg (straight [⟨some 4, none, .pur .mov [.const (.int .i64 7)]⟩]) [4])
  (.ret)) (.seq (.reg (straight [⟨some 9, none, .pur .mov [.tmp 0]⟩, ⟨some 10, none, .pur .mov [.tmp 1]⟩, ⟨some 11, none, .pur (.bin .gtr) [.tmp 9, .tmp 10]⟩, ⟨some 8, none, .pur .mov [.tmp 11]⟩]) [8])
  (.cond (.tmp 8) (.seq (.reg (straight [⟨some 4, none, .pur .mov [.const (.int .i64 9)]⟩]) [4])
  (.ret)) (.skip))))))
  (.seq (.reg (straight [⟨some 4, none, .pur .mov [.const (.int .i64 0)]⟩]) [4])
  (.ret)))⟩
theorem K_prog_many : compF Try.prog 100 = some S_prog_many := by kernel_rfl

-- 101
def S_ins_Check_L1 : SCode :=
  .seq (.reg (straight [⟨some 24, none, .pur (.bin .lss) [.tmp 23, .tmp 22]⟩]) [24])
  (.seq (.cond (.tmp 24) (.skip) (.exit 0))
  (.seq (.block 1 (.seq (.reg (straight [⟨some 25, none, .pur .mov [.tmp 23]⟩, ⟨some 5, none, .pur .mov [.tmp 25]⟩]) [5])
  (.seq (.reg (.run ⟨some 26, none, .pur .mov [.tmp 3]⟩ (.run ⟨some 27, none, .pur .mov [.tmp 5]⟩ (.run ⟨some 28, none, .pur .ixs [.tmp 26, .tmp 27]⟩ (.run ⟨some 29, none, .pur .mov [.tmp 5]⟩ (.run ⟨some 30, none, .pur (.ixaA 3 1) [.tmp 4, .tmp 29]⟩ (.run ⟨some 31, none, .ld none (.tmp 30)⟩ (.eff ⟨some 32, none, .eff (.call 121) [.tmp 28, .tmp 31]⟩ [] (.run ⟨some 33, none, .pur .not [.tmp 32]⟩ .done)))))))) [33])
  (.cond (.tmp 33) (.seq (.reg (straight [⟨some 2, none, .pur .mov [.const (.int .i64 3)]⟩]) [2])
  (.ret)) (.skip)))))
  (.reg (straight [⟨some 34, none, .pur (.bin .add) [.tmp 23, .const (.int .i64 1)]⟩, ⟨some 23, none, .pur .mov [.tmp 34]⟩]) [23])))
def S_ins_Check_L2 : SCode :=
  .seq (.reg (straight [⟨some 40, none, .pur (.bin .lss) [.tmp 39, .tmp 38]⟩]) [40])
  (.seq (.cond (.tmp 40) (.skip) (.exit 2))
  (.seq (.block 3 (.seq (.reg (straight [⟨some 41, none, .pur (.ixa 1) [.tmp 37, .tmp 39]⟩, ⟨some 42, none, .ld none (.tmp 41)⟩, ⟨some 7, none, .pur .mov [.tmp 42]⟩]) [7])
  (.seq (.reg (straight [⟨some 43, none, .pur .mov [.tmp 7]⟩, ⟨some 44, none, .pur (.bin .neq) [.tmp 43, .const (.int .i64 0)]⟩]) [44])
  (.cond (.tmp 44) (.seq (.reg (straight [⟨some 2, none, .pur .mov [.const (.int .i64 4)]⟩]) [2])
  (.ret)) (.skip)))))
  (.reg (straight [⟨some 45, none, .pur (.bin .add) [.tmp 39, .const (.int .i64 1)]⟩, ⟨some 39, none, .pur .mov [.tmp 45]⟩]) [39])))
def S_ins_Check : Fun := ⟨46, [2, 0, 1, 15, 3, 23, 22, 24, 5, 4, 33, 39, 38, 40, 37, 7, 44], [.tmp 2],
  .seq (.reg (straight [⟨some 1, none, .eff (.box 115) [.tmp 0]⟩, ⟨some 2, none, .pur .mov [.const (.int .i64 0)]⟩]) [1, 2])
  (.seq (.seq (.reg (straight [⟨some 8, none, .pur (.fla 0) [.tmp 1]⟩, ⟨some 9, none, .ld none (.tmp 8)⟩, ⟨some 10, none, .pur (.bin .lss) [.tmp 9, .const (.int .i64 0)]⟩, ⟨some 11, none, .pur .mov [.tmp 10]⟩, ⟨some 12, some (11, false), .pur (.fla 0) [.tmp 1]⟩, ⟨some 13, some (11, false), .ld none (.tmp 12)⟩, ⟨some 14, some (11, false), .pur (.bin .geq) [.tmp 13, .const (.int .i64 26)]⟩, ⟨some 15, none, .pur .pick [.tmp 11, .const (.bool true), .tmp 14]⟩]) [15])
  (.cond (.tmp 15) (.seq (.reg (straight [⟨some 2, none, .pur .mov [.const (.int .i64 5)]⟩]) [2])
  (.ret)) (.skip)))
  (.seq (.reg (.run ⟨some 16, none, .pur (.fla 0) [.tmp 1]⟩ (.run ⟨some 17, none, .ld none (.tmp 16)⟩ (.run ⟨some 19, none, .ld (some 4) (.tmp 1)⟩ (.both (.eff ⟨some 18, none, .eff (.call 119) [.tmp 17]⟩ [⟨some 19, none, .ld (some 4) (.tmp 1)⟩] (.both (.eff ⟨some 20, none, .eff (.call 120) [.tmp 19]⟩ [] (.eff ⟨some 4, none, .eff (.new 179 [.int .i64 0, .int .i64 0, .int .i64 0]) []⟩ [] (.run ⟨some 3, none, .pur .mov [.tmp 18]⟩ (.eff ⟨none, none, .eff (.st 3) [.tmp 4, .tmp 20]⟩ [] .done)))) (.eff ⟨some 4, none, .eff (.new 179 [.int .i64 0, .int .i64 0, .int .i64 0]) []⟩ [⟨some 19, none, .ld (some 4) (.tmp 1)⟩] (.eff ⟨some 20, none, .eff (.call 120) [.tmp 19]⟩ [] (.run ⟨some 3, none, .pur .mov [.tmp 18]⟩ (.eff ⟨none, none, .eff (.st 3) [.tmp 4, .tmp 20]⟩ [] .done)))))) (.eff ⟨some 4, none, .eff (.new 179 [.int .i64 0, .int .i64 0, .int .i64 0]) []⟩ [⟨some 19, none, .ld (some 4) (.tmp 1)⟩, ⟨some 17, none, .ld none (.tmp 16)⟩] (.eff ⟨some 18, none, .eff (.call 119) [.tmp 17]⟩ [⟨some 19, none, .ld (some 4) (.tmp 1)⟩] (.eff ⟨some 20, none, .eff (.call 120) [.tmp 19]⟩ [] (.run ⟨some 3, none, .pur .mov [.tmp 18]⟩ (.eff ⟨none, none, .eff (.st 3) [.tmp 4, .tmp 20]⟩ [] .done))))))))) [4, 3])
  (.seq (.seq (.reg (straight [⟨some 21, none, .pur .mov [.tmp 3]⟩, ⟨some 22, none, .pur (.len true) [.tmp 21]⟩, ⟨some 23, none, .pur .mov [.const (.int .i64 0)]⟩]) [22, 23])
  (.block 0 (.loop S_ins_Check_L1)))
  (.seq (.seq (.reg (straight [⟨some 35, none, .pur .mov [.tmp 3]⟩, ⟨some 36, none, .pur (.len true) [.tmp 35]⟩, ⟨some 37, none, .pur (.slcA 3 1 true false) [.tmp 4, .tmp 36]⟩, ⟨some 38, none, .pur (.len false) [.tmp 37]⟩, ⟨some 39, none, .pur .mov [.const (.int .i64 0)]⟩]) [37, 38, 39])
  (.block 2 (.loop S_ins_Check_L2)))
  (.seq (.reg (straight [⟨some 2, none, .pur .mov [.const (.int .i64 0)]⟩]) [2])
  (.ret))))))⟩
theorem K_ins_Check : compF Try.prog 101 = some S_ins_Check := by kernel_rfl

-- 102
def S_prog_leads : Fun := ⟨28, [6, 0, 3, 8, 9, 1, 15, 21, 2], [.tmp 6],
  .seq (.reg (straight [⟨some 3, none, .eff (.box 115) [.tmp 0]⟩, ⟨some 6, none, .pur .mov [.const (.bool false)]⟩]) [3, 6])
  (.seq (.seq (.reg (straight [⟨some 7, none, .pur (.fla 0) [.tmp 3]⟩, ⟨some 8, none, .ld none (.tmp 7)⟩]) [8])
  (.block 0 (.seq (.reg (straight [⟨some 10, none, .pur (.bin .eql) [.tmp 8, .const (.int .i64 18)]⟩, ⟨some 9, none, .pur .mov [.tmp 10]⟩]) [9])
  (.cond (.tmp 9) (.seq (.reg (straight [⟨some 11, none, .pur (.fla 1) [.tmp 3]⟩, ⟨some 12, none, .ld none (.tmp 11)⟩, ⟨some 13, none, .pur .mov [.tmp 1]⟩, ⟨some 14, none, .pur (.bin .lss) [.tmp 12, .tmp 13]⟩, ⟨some 6, none, .pur .mov [.tmp 14]⟩]) [6])
  (.ret)) (.seq (.reg (straight [⟨some 16, none, .pur (.bin .eql) [.tmp 8, .const (.int .i64 19)]⟩, ⟨some 15, none, .pur .mov [.tmp 16]⟩]) [15])
  (.cond (.tmp 15) (.seq (.reg (straight [⟨some 17, none, .pur (.fla 2) [.tmp 3]⟩, ⟨some 18, none, .ld none (.tmp 17)⟩, ⟨some 19, none, .pur .mov [.tmp 1]⟩, ⟨some 20, none, .pur (.bin .lss) [.tmp 18, .tmp 19]⟩, ⟨some 6, none, .pur .mov [.tmp 20]⟩]) [6])
  (.ret)) (.seq (.seq (.reg (straight [⟨some 22, none, .pur (.bin .eql) [.tmp 8, .const (.int .i64 20)]⟩, ⟨some 21, none, .pur .mov [.tmp 22]⟩]) [21])
  (.cond (.tmp 21) (.skip) (.reg (straight [⟨some 23, none, .pur (.bin .eql) [.tmp 8, .const (.int .i64 22)]⟩, ⟨some 21, none, .pur .mov [.tmp 23]⟩]) [21])))
  (.cond (.tmp 21) (.seq (.reg (straight [⟨some 24, none, .pur (.fla 1) [.tmp 3]⟩, ⟨some 25, none, .ld none (.tmp 24)⟩, ⟨some 26, none, .pur .mov [.tmp 2]⟩, ⟨some 27, none, .pur (.bin .lss) [.tmp 25, .tmp 26]⟩, ⟨some 6, none, .pur .mov [.tmp 27]⟩]) [6])
  (.ret)) (.skip)))))))))
  (.seq (.reg (straight [⟨some 6, none, .pur .mov [.const (.bool true)]⟩]) [6])
  (.ret)))⟩
theorem K_prog_leads : compF Try.prog 102 = some S_prog_leads := by kernel_rfl

-- 114
def S_tidy_ends : Fun := ⟨13, [2, 0], [.tmp 2],
  .seq (.reg (straight [⟨some 2, none, .pur .mov [.const (.bool false)]⟩]) [2])
  (.seq (.reg (straight [⟨some 3, none, .pur .mov [.tmp 0]⟩, ⟨some 4, none, .pur (.bin .eql) [.tmp 3, .const (.int .i64 0)]⟩, ⟨some 5, none, .pur .mov [.tmp 4]⟩, ⟨some 6, some (5, false), .pur .mov [.tmp 0]⟩, ⟨some 7, some (5, false), .pur (.bin .eql) [.tmp 6, .const (.int .i64 18)]⟩, ⟨some 8, none, .pur .pick [.tmp 5, .const (.bool true), .tmp 7]⟩, ⟨some 9, none, .pur .mov [.tmp 8]⟩, ⟨some 10, some (9, false), .pur .mov [.tmp 0]⟩, ⟨some 11, some (9, false), .pur (.bin .eql) [.tmp 10, .const (.int .i64 25)]⟩, ⟨some 12, none, .pur .pick [.tmp 9, .const (.bool true), .tmp 11]⟩, ⟨some 2, none, .pur .mov [.tmp 12]⟩]) [2])
  (.ret))⟩
theorem K_tidy_ends : compF Try.prog 114 = some S_tidy_ends := by kernel_rfl

-- 115
def S_tidy_leads_L1 : SCode :=
  .seq (.reg (straight [⟨some 10, none, .pur (.bin .lss) [.tmp 9, .tmp 8]⟩]) [10])
  (.seq (.cond (.tmp 10) (.skip) (.exit 0))
  (.seq (.block 1 (.seq (.seq (.reg (straight [⟨some 11, none, .pur .mov [.tmp 0]⟩, ⟨some 12, none, .pur .mov [.tmp 5]⟩, ⟨some 13, none, .pur (.ixa 4) [.tmp 11, .tmp 12]⟩, ⟨some 14, none, .pur (.fla 0) [.tmp 13]⟩, ⟨some 15, none, .ld none (.tmp 14)⟩, ⟨some 16, none, .pur (.bin .neq) [.tmp 15, .const (.int .i64 18)]⟩, ⟨some 17, none, .pur .mov [.tmp 16]⟩, ⟨some 18, some (17, false), .pur .mov [.tmp 0]⟩, ⟨some 19, some (17, false), .pur .mov [.tmp 5]⟩, ⟨some 20, some (17, false), .pur (.ixa 4) [.tmp 18, .tmp 19]⟩, ⟨some 21, some (17, false), .pur (.fla 1) [.tmp 20]⟩, ⟨some 22, some (17, false), .ld none (.tmp 21)⟩, ⟨some 23, some (17, false), .pur .mov [.tmp 5]⟩, ⟨some 24, some (17, false), .pur (.bin .eql) [.tmp 22, .tmp 23]⟩, ⟨some 25, none, .pur .pick [.tmp 17, .const (.bool true), .tmp 24]⟩]) [25])
  (.cond (.tmp 25) (.seq (.reg (straight [⟨some 26, none, .pur .mov [.tmp 5]⟩, ⟨some 4, none, .pur .mov [.tmp 26]⟩]) [4])
  (.ret)) (.skip)))
  (.reg (straight [⟨some 27, none, .pur .mov [.tmp 0]⟩, ⟨some 28, none, .pur .mov [.tmp 5]⟩, ⟨some 29, none, .pur (.ixa 4) [.tmp 27, .tmp 28]⟩, ⟨some 30, none, .pur (.fla 1) [.tmp 29]⟩, ⟨some 31, none, .ld none (.tmp 30)⟩, ⟨some 5, none, .pur .mov [.tmp 31]⟩]) [5])))
  (.reg (straight [⟨some 32, none, .pur (.bin .add) [.tmp 9, .const (.int .i64 1)]⟩, ⟨some 9, none, .pur .mov [.tmp 32]⟩]) [9])))
def S_tidy_leads : Fun := ⟨34, [4, 1, 0, 9, 8, 10, 5, 25], [.tmp 4],
  .seq (.reg (straight [⟨some 4, none, .pur .mov [.const (.int .i64 0)]⟩]) [4])
  (.seq (.reg (straight [⟨some 6, none, .pur .mov [.tmp 1]⟩, ⟨some 5, none, .pur .mov [.tmp 6]⟩]) [5])
  (.seq (.seq (.reg (straight [⟨some 7, none, .pur .mov [.tmp 0]⟩, ⟨some 8, none, .pur (.len false) [.tmp 7]⟩, ⟨some 9, none, .pur .mov [.const (.int .i64 0)]⟩]) [8, 9])
  (.block 0 (.loop S_tidy_leads_L1)))
  (.seq (.reg (straight [⟨some 33, none, .pur .mov [.tmp 1]⟩, ⟨some 4, none, .pur .mov [.tmp 33]⟩]) [4])
  (.ret))))⟩
theorem K_tidy_leads : compF Try.prog 115 = some S_tidy_leads := by kernel_rfl

-- 116
def S_forebayref03_Form : Fun := ⟨13, [2, 0, 8], [.tmp 2],
  .seq (.reg (straight [⟨some 2, none, .pur .mov [.const (.string ⟨#[]⟩)]⟩]) [2])
  (.seq (.seq (.reg (straight [⟨some 3, none, .pur .mov [.tmp 0]⟩, ⟨some 4, none, .pur (.bin .lss) [.tmp 3, .const (.int .i64 0)]⟩, ⟨some 5, none, .pur .mov [.tmp 4]⟩, ⟨some 6, some (5, false), .pur .mov [.tmp 0]⟩, ⟨some 7, some (5, false), .pur (.bin .gtr) [.tmp 6, .const (.int .i64 25)]⟩, ⟨some 8, none, .pur .pick [.tmp 5, .const (.bool true), .tmp 7]⟩]) [8])
  (.cond (.tmp 8) (.seq (.reg (straight [⟨some 2, none, .pur .mov [.const (.string ⟨#[]⟩)]⟩]) [2])
  (.ret)) (.skip)))
  (.seq (.reg (straight [⟨some 9, none, .eff (.call 123) []⟩, ⟨some 10, none, .pur .mov [.tmp 0]⟩, ⟨some 11, none, .pur (.ixa 1) [.tmp 9, .tmp 10]⟩, ⟨some 12, none, .ld none (.tmp 11)⟩, ⟨some 2, none, .pur .mov [.tmp 12]⟩]) [2])
  (.ret)))⟩
theorem K_forebayref03_Form : compF Try.prog 116 = some S_forebayref03_Form := by kernel_rfl

-- 117
def S_forebayref03_ends : Fun := ⟨11, [2, 3, 0, 4, 5, 7, 9], [.tmp 2, .tmp 3],
  .seq (.reg (straight [⟨some 2, none, .pur .mov [.const (.int .i64 0)]⟩, ⟨some 3, none, .pur .mov [.const (.int .i64 0)]⟩]) [2, 3])
  (.seq (.seq (.reg (straight [⟨some 4, none, .pur .mov [.tmp 0]⟩]) [4])
  (.block 0 (.seq (.reg (straight [⟨some 6, none, .pur (.bin .eql) [.tmp 4, .const (.string ⟨#[114]⟩)]⟩, ⟨some 5, none, .pur .mov [.tmp 6]⟩]) [5])
  (.cond (.tmp 5) (.seq (.reg (straight [⟨some 2, none, .pur .mov [.const (.int .i64 0)]⟩, ⟨some 3, none, .pur .mov [.const (.int .i64 7)]⟩]) [2, 3])
  (.ret)) (.seq (.reg (straight [⟨some 8, none, .pur (.bin .eql) [.tmp 4, .const (.string ⟨#[102]⟩)]⟩, ⟨some 7, none, .pur .mov [.tmp 8]⟩]) [7])
  (.cond (.tmp 7) (.seq (.reg (straight [⟨some 2, none, .pur .mov [.const (.int .i64 0)]⟩, ⟨some 3, none, .pur .mov [.const (.int .i64 15)]⟩]) [2, 3])
  (.ret)) (.seq (.reg (straight [⟨some 10, none, .pur (.bin .eql) [.tmp 4, .const (.string ⟨#[116]⟩)]⟩, ⟨some 9, none, .pur .mov [.tmp 10]⟩]) [9])
  (.cond (.tmp 9) (.seq (.reg (straight [⟨some 2, none, .pur .mov [.const (.int .i64 0)]⟩, ⟨some 3, none, .pur .mov [.const (.int .i64 199)]⟩]) [2, 3])
  (.ret)) (.skip)))))))))
  (.seq (.reg (straight [⟨some 2, none, .pur .mov [.const (.int .i64 (-32768))]⟩, ⟨some 3, none, .pur .mov [.const (.int .i64 32767)]⟩]) [2, 3])
  (.ret)))⟩
theorem K_forebayref03_ends : compF Try.prog 117 = some S_forebayref03_ends := by kernel_rfl

-- 118
def S_forebayref42_ends : Fun := ⟨16, [2, 0, 1], [.tmp 2],
  .seq (.reg (straight [⟨some 1, none, .eff (.box 115) [.tmp 0]⟩, ⟨some 2, none, .pur .mov [.const (.bool false)]⟩]) [1, 2])
  (.seq (.reg (straight [⟨some 3, none, .pur (.fla 0) [.tmp 1]⟩, ⟨some 4, none, .ld none (.tmp 3)⟩, ⟨some 5, none, .pur (.bin .eql) [.tmp 4, .const (.int .i64 0)]⟩, ⟨some 6, none, .pur .mov [.tmp 5]⟩, ⟨some 7, some (6, false), .pur (.fla 0) [.tmp 1]⟩, ⟨some 8, some (6, false), .ld none (.tmp 7)⟩, ⟨some 9, some (6, false), .pur (.bin .eql) [.tmp 8, .const (.int .i64 18)]⟩, ⟨some 10, none, .pur .pick [.tmp 6, .const (.bool true), .tmp 9]⟩, ⟨some 11, none, .pur .mov [.tmp 10]⟩, ⟨some 12, some (11, false), .pur (.fla 0) [.tmp 1]⟩, ⟨some 13, some (11, false), .ld none (.tmp 12)⟩, ⟨some 14, some (11, false), .pur (.bin .eql) [.tmp 13, .const (.int .i64 25)]⟩, ⟨some 15, none, .pur .pick [.tmp 11, .const (.bool true), .tmp 14]⟩, ⟨some 2, none, .pur .mov [.tmp 15]⟩]) [2])
  (.ret))⟩
theorem K_forebayref42_ends : compF Try.prog 118 = some S_forebayref42_ends := by kernel_rfl

-- 119
def S_ins_Form : Fun := ⟨48, [2, 0, 4, 15, 22, 29, 32, 35, 38, 3], [.tmp 2],
  .seq (.reg (straight [⟨some 2, none, .pur .mov [.const (.string ⟨#[]⟩)]⟩]) [2])
  (.seq (.reg (straight [⟨some 3, none, .pur .mov [.const (.string ⟨#[]⟩)]⟩]) [3])
  (.seq (.block 0 (.seq (.block 7 (.seq (.block 6 (.seq (.block 5 (.seq (.block 4 (.seq (.block 3 (.seq (.block 2 (.seq (.block 1 (.seq (.seq (.seq (.seq (.reg (straight [⟨some 5, none, .pur .mov [.tmp 0]⟩, ⟨some 6, none, .pur (.bin .geq) [.tmp 5, .const (.int .i64 3)]⟩, ⟨some 7, none, .pur .mov [.tmp 6]⟩, ⟨some 8, some (7, true), .pur .mov [.tmp 0]⟩, ⟨some 9, some (7, true), .pur (.bin .leq) [.tmp 8, .const (.int .i64 12)]⟩, ⟨some 10, none, .pur .pick [.tmp 7, .tmp 9, .const (.bool false)]⟩, ⟨some 4, none, .pur .mov [.tmp 10]⟩]) [4])
  (.cond (.tmp 4) (.skip) (.seq (.reg (straight [⟨some 11, none, .pur .mov [.tmp 0]⟩, ⟨some 12, none, .pur (.bin .eql) [.tmp 11, .const (.int .i64 15)]⟩, ⟨some 4, none, .pur .mov [.tmp 12]⟩]) [4])
  (.cond (.tmp 4) (.skip) (.reg (straight [⟨some 13, none, .pur .mov [.tmp 0]⟩, ⟨some 14, none, .pur (.bin .eql) [.tmp 13, .const (.int .i64 16)]⟩, ⟨some 4, none, .pur .mov [.tmp 14]⟩]) [4])))))
  (.cond (.tmp 4) (.exit 1) (.skip)))
  (.seq (.seq (.seq (.reg (straight [⟨some 16, none, .pur .mov [.tmp 0]⟩, ⟨some 17, none, .pur (.bin .eql) [.tmp 16, .const (.int .i64 2)]⟩, ⟨some 15, none, .pur .mov [.tmp 17]⟩]) [15])
  (.cond (.tmp 15) (.skip) (.seq (.reg (straight [⟨some 18, none, .pur .mov [.tmp 0]⟩, ⟨some 19, none, .pur (.bin .eql) [.tmp 18, .const (.int .i64 13)]⟩, ⟨some 15, none, .pur .mov [.tmp 19]⟩]) [15])
  (.cond (.tmp 15) (.skip) (.reg (straight [⟨some 20, none, .pur .mov [.tmp 0]⟩, ⟨some 21, none, .pur (.bin .eql) [.tmp 20, .const (.int .i64 14)]⟩, ⟨some 15, none, .pur .mov [.tmp 21]⟩]) [15])))))
  (.cond (.tmp 15) (.exit 2) (.skip)))
  (.seq (.seq (.seq (.reg (straight [⟨some 23, none, .pur .mov [.tmp 0]⟩, ⟨some 24, none, .pur (.bin .eql) [.tmp 23, .const (.int .i64 17)]⟩, ⟨some 22, none, .pur .mov [.tmp 24]⟩]) [22])
  (.cond (.tmp 22) (.skip) (.seq (.reg (straight [⟨some 25, none, .pur .mov [.tmp 0]⟩, ⟨some 26, none, .pur (.bin .eql) [.tmp 25, .const (.int .i64 23)]⟩, ⟨some 22, none, .pur .mov [.tmp 26]⟩]) [22])
  (.cond (.tmp 22) (.skip) (.reg (straight [⟨some 27, none, .pur .mov [.tmp 0]⟩, ⟨some 28, none, .pur (.bin .eql) [.tmp 27, .const (.int .i64 24)]⟩, ⟨some 22, none, .pur .mov [.tmp 28]⟩]) [22])))))
  (.cond (.tmp 22) (.exit 3) (.skip)))
  (.seq (.seq (.reg (straight [⟨some 30, none, .pur .mov [.tmp 0]⟩, ⟨some 31, none, .pur (.bin .eql) [.tmp 30, .const (.int .i64 1)]⟩, ⟨some 29, none, .pur .mov [.tmp 31]⟩]) [29])
  (.cond (.tmp 29) (.exit 4) (.skip)))
  (.seq (.seq (.reg (straight [⟨some 33, none, .pur .mov [.tmp 0]⟩, ⟨some 34, none, .pur (.bin .eql) [.tmp 33, .const (.int .i64 19)]⟩, ⟨some 32, none, .pur .mov [.tmp 34]⟩]) [32])
  (.cond (.tmp 32) (.exit 5) (.skip)))
  (.seq (.seq (.reg (straight [⟨some 36, none, .pur .mov [.tmp 0]⟩, ⟨some 37, none, .pur (.bin .eql) [.tmp 36, .const (.int .i64 18)]⟩, ⟨some 35, none, .pur .mov [.tmp 37]⟩]) [35])
  (.cond (.tmp 35) (.exit 6) (.skip)))
  (.seq (.seq (.reg (straight [⟨some 39, none, .pur .mov [.tmp 0]⟩, ⟨some 40, none, .pur (.bin .eql) [.tmp 39, .const (.int .i64 20)]⟩, ⟨some 38, none, .pur .mov [.tmp 40]⟩]) [38])
  (.cond (.tmp 38) (.skip) (.reg (straight [⟨some 41, none, .pur .mov [.tmp 0]⟩, ⟨some 42, none, .pur (.bin .eql) [.tmp 41, .const (.int .i64 22)]⟩, ⟨some 38, none, .pur .mov [.tmp 42]⟩]) [38])))
  (.cond (.tmp 38) (.exit 7) (.skip)))))))))
  (.exit 0)))
  (.reg (straight [⟨some 3, none, .pur .mov [.const (.string ⟨#[114]⟩)]⟩]) [3])))
  (.reg (straight [⟨some 43, none, .pur .mov [.tmp 3]⟩, ⟨some 44, none, .pur (.bin .add) [.tmp 43, .const (.string ⟨#[114]⟩)]⟩, ⟨some 3, none, .pur .mov [.tmp 44]⟩]) [3])))
  (.seq (.reg (straight [⟨some 45, none, .pur .mov [.tmp 3]⟩, ⟨some 46, none, .pur (.bin .add) [.tmp 45, .const (.string ⟨#[114]⟩)]⟩, ⟨some 3, none, .pur .mov [.tmp 46]⟩]) [3])
  (.exit 0))))
  (.seq (.reg (straight [⟨some 3, none, .pur .mov [.const (.string ⟨#[114, 110]⟩)]⟩]) [3])
  (.exit 0))))
  (.seq (.reg (straight [⟨some 3, none, .pur .mov [.const (.string ⟨#[114, 116]⟩)]⟩]) [3])
  (.exit 0))))
  (.seq (.reg (straight [⟨some 3, none, .pur .mov [.const (.string ⟨#[116]⟩)]⟩]) [3])
  (.exit 0))))
  (.seq (.reg (straight [⟨some 3, none, .pur .mov [.const (.string ⟨#[102]⟩)]⟩]) [3])
  (.exit 0))))
  (.seq (.reg (straight [⟨some 47, none, .pur .mov [.tmp 3]⟩, ⟨some 2, none, .pur .mov [.tmp 47]⟩]) [2])
  (.ret))))⟩
theorem K_ins_Form : compF Try.prog 119 = some S_ins_Form := by kernel_rfl

-- 120
def S_ins_fields : Fun := ⟨10, [2, 0, 1], [.cell 2 (some 3)],
  .seq (.reg (straight [⟨some 1, none, .eff (.box 115) [.tmp 0]⟩, ⟨some 2, none, .eff (.new 179 [.int .i64 0, .int .i64 0, .int .i64 0]) []⟩]) [1, 2])
  (.seq (.reg (straight [⟨some 3, none, .pur (.fla 1) [.tmp 1]⟩, ⟨some 4, none, .ld none (.tmp 3)⟩, ⟨some 5, none, .pur (.fla 2) [.tmp 1]⟩, ⟨some 6, none, .ld none (.tmp 5)⟩, ⟨some 7, none, .pur (.fla 3) [.tmp 1]⟩, ⟨some 8, none, .ld none (.tmp 7)⟩, ⟨some 9, none, .pur (.bld [.int .i64 0, .int .i64 0, .int .i64 0] [(0, 1), (1, 1), (2, 1)]) [.tmp 4, .tmp 6, .tmp 8]⟩, ⟨none, none, .eff (.st 3) [.tmp 2, .tmp 9]⟩]) [])
  (.ret))⟩
theorem K_ins_fields : compF Try.prog 120 = some S_ins_fields := by kernel_rfl

-- 121
def S_ins_fits : Fun := ⟨36, [4, 0, 5, 6, 1, 14, 22], [.tmp 4],
  .seq (.reg (straight [⟨some 4, none, .pur .mov [.const (.bool false)]⟩]) [4])
  (.seq (.seq (.reg (straight [⟨some 5, none, .pur .mov [.tmp 0]⟩]) [5])
  (.block 0 (.seq (.reg (straight [⟨some 7, none, .pur (.bin .eql) [.tmp 5, .const (.int .u8 114)]⟩, ⟨some 6, none, .pur .mov [.tmp 7]⟩]) [6])
  (.cond (.tmp 6) (.seq (.reg (straight [⟨some 8, none, .pur .mov [.tmp 1]⟩, ⟨some 9, none, .pur (.bin .geq) [.tmp 8, .const (.int .i64 0)]⟩, ⟨some 10, none, .pur .mov [.tmp 9]⟩, ⟨some 11, some (10, true), .pur .mov [.tmp 1]⟩, ⟨some 12, some (10, true), .pur (.bin .leq) [.tmp 11, .const (.int .i64 7)]⟩, ⟨some 13, none, .pur .pick [.tmp 10, .tmp 12, .const (.bool false)]⟩, ⟨some 4, none, .pur .mov [.tmp 13]⟩]) [4])
  (.ret)) (.seq (.reg (straight [⟨some 15, none, .pur (.bin .eql) [.tmp 5, .const (.int .u8 102)]⟩, ⟨some 14, none, .pur .mov [.tmp 15]⟩]) [14])
  (.cond (.tmp 14) (.seq (.reg (straight [⟨some 16, none, .pur .mov [.tmp 1]⟩, ⟨some 17, none, .pur (.bin .geq) [.tmp 16, .const (.int .i64 0)]⟩, ⟨some 18, none, .pur .mov [.tmp 17]⟩, ⟨some 19, some (18, true), .pur .mov [.tmp 1]⟩, ⟨some 20, some (18, true), .pur (.bin .leq) [.tmp 19, .const (.int .i64 15)]⟩, ⟨some 21, none, .pur .pick [.tmp 18, .tmp 20, .const (.bool false)]⟩, ⟨some 4, none, .pur .mov [.tmp 21]⟩]) [4])
  (.ret)) (.seq (.reg (straight [⟨some 23, none, .pur (.bin .eql) [.tmp 5, .const (.int .u8 116)]⟩, ⟨some 22, none, .pur .mov [.tmp 23]⟩]) [22])
  (.cond (.tmp 22) (.seq (.reg (straight [⟨some 24, none, .pur .mov [.tmp 1]⟩, ⟨some 25, none, .pur (.bin .geq) [.tmp 24, .const (.int .i64 0)]⟩, ⟨some 26, none, .pur .mov [.tmp 25]⟩, ⟨some 27, some (26, true), .pur .mov [.tmp 1]⟩, ⟨some 28, some (26, true), .pur (.bin .leq) [.tmp 27, .const (.int .i64 199)]⟩, ⟨some 29, none, .pur .pick [.tmp 26, .tmp 28, .const (.bool false)]⟩, ⟨some 4, none, .pur .mov [.tmp 29]⟩]) [4])
  (.ret)) (.skip)))))))))
  (.seq (.reg (straight [⟨some 30, none, .pur .mov [.tmp 1]⟩, ⟨some 31, none, .pur (.bin .geq) [.tmp 30, .const (.int .i64 (-32768))]⟩, ⟨some 32, none, .pur .mov [.tmp 31]⟩, ⟨some 33, some (32, true), .pur .mov [.tmp 1]⟩, ⟨some 34, some (32, true), .pur (.bin .leq) [.tmp 33, .const (.int .i64 32767)]⟩, ⟨some 35, none, .pur .pick [.tmp 32, .tmp 34, .const (.bool false)]⟩, ⟨some 4, none, .pur .mov [.tmp 35]⟩]) [4])
  (.ret)))⟩
theorem K_ins_fits : compF Try.prog 121 = some S_ins_fits := by kernel_rfl

-- 123
def S_forebayref03_Forms : Fun := ⟨2, [0], [.tmp 0],
  .seq (.reg (straight [⟨some 0, none, .pur .mov [.const (.slice none 0 0)]⟩]) [0])
  (.seq (.reg (straight [⟨some 1, none, .eff (.bsl 9 1) [.const (.string ⟨#[]⟩), .const (.string ⟨#[114, 110]⟩), .const (.string ⟨#[114, 114]⟩), .const (.string ⟨#[114, 114, 114]⟩), .const (.string ⟨#[114, 114, 114]⟩), .const (.string ⟨#[114, 114, 114]⟩), .const (.string ⟨#[114, 114, 114]⟩), .const (.string ⟨#[114, 114, 114]⟩), .const (.string ⟨#[114, 114, 114]⟩), .const (.string ⟨#[114, 114, 114]⟩), .const (.string ⟨#[114, 114, 114]⟩), .const (.string ⟨#[114, 114, 114]⟩), .const (.string ⟨#[114, 114, 114]⟩), .const (.string ⟨#[114, 114]⟩), .const (.string ⟨#[114, 114]⟩), .const (.string ⟨#[114, 114, 114]⟩), .const (.string ⟨#[114, 114, 114]⟩), .const (.string ⟨#[114]⟩), .const (.string ⟨#[116]⟩), .const (.string ⟨#[114, 116]⟩), .const (.string ⟨#[102]⟩), .const (.string ⟨#[]⟩), .const (.string ⟨#[102]⟩), .const (.string ⟨#[114]⟩), .const (.string ⟨#[114]⟩), .const (.string ⟨#[]⟩)]⟩, ⟨some 0, none, .pur .mov [.tmp 1]⟩]) [0])
  (.ret))⟩
theorem K_forebayref03_Forms : compF Try.prog 123 = some S_forebayref03_Forms := by kernel_rfl

end Go.Proofs.Ythgmfjkbgacfaaa
