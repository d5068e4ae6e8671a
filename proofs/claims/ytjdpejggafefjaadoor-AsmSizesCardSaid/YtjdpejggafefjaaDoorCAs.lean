import Derived.Test.YtjdpejggafefjaaDoorKj
import Derived.Test.YtjdpejggafefjaaDoorProg
import Derived.KernelRfl
namespace Go.Proofs.YtjdpejggafefjaaDoor
open Go Go.Kx Go.Proofs
set_option linter.unusedVariables false
set_option maxRecDepth 100000

-- 8
def S_forebaylaw06_AsmLines : Fun := ⟨61, [4, 0, 13, 1, 16, 2, 9, 5, 7, 6, 8, 11, 10], [.tmp 4],
  .seq (.reg (straight [⟨some 2, none, .eff (.box 50) [.tmp 0]⟩, ⟨some 4, none, .pur .mov [.const (.bool false)]⟩]) [2, 4])
  (.seq (.seq (.reg (straight [⟨some 12, none, .eff (.call 38) []⟩, ⟨some 13, none, .pur .not [.tmp 12]⟩]) [13])
  (.cond (.tmp 13) (.seq (.reg (straight [⟨some 4, none, .pur .mov [.const (.bool false)]⟩]) [4])
  (.ret)) (.skip)))
  (.seq (.seq (.reg (straight [⟨some 14, none, .pur .mov [.tmp 1]⟩, ⟨some 15, none, .pur (.len true) [.tmp 14]⟩, ⟨some 16, none, .pur (.bin .gtr) [.tmp 15, .const (.int .i64 1000)]⟩]) [16])
  (.cond (.tmp 16) (.seq (.reg (straight [⟨some 4, none, .pur .mov [.const (.bool true)]⟩]) [4])
  (.ret)) (.skip)))
  (.seq (.reg (straight [⟨some 18, none, .pur .mov [.tmp 1]⟩, ⟨some 19, none, .eff (.call 39) [.tmp 18]⟩, ⟨some 17, none, .pur .mov [.tmp 19]⟩, ⟨some 20, none, .pur (.ext 0) [.tmp 17]⟩, ⟨some 21, none, .pur (.ext 1) [.tmp 17]⟩, ⟨some 5, none, .eff (.new 50 [.int .i64 0, .int .i64 0, .int .i64 0, .int .i64 0]) []⟩, ⟨none, none, .eff (.st 4) [.tmp 5, .tmp 20]⟩, ⟨some 6, none, .pur .mov [.tmp 21]⟩]) [5, 6])
  (.seq (.reg (straight [⟨some 23, none, .pur .mov [.tmp 1]⟩, ⟨some 24, none, .eff (.call 40) [.tmp 23]⟩, ⟨some 22, none, .pur .mov [.tmp 24]⟩, ⟨some 25, none, .pur (.ext 0) [.tmp 22]⟩, ⟨some 26, none, .pur (.ext 1) [.tmp 22]⟩, ⟨some 7, none, .eff (.new 50 [.int .i64 0, .int .i64 0, .int .i64 0, .int .i64 0]) []⟩, ⟨none, none, .eff (.st 4) [.tmp 7, .tmp 25]⟩, ⟨some 8, none, .pur .mov [.tmp 26]⟩]) [7, 8])
  (.seq (.reg (straight [⟨some 27, none, .ld (some 4) (.tmp 2)⟩, ⟨some 28, none, .eff (.call 41) [.tmp 27]⟩, ⟨some 9, none, .pur .mov [.tmp 28]⟩]) [9])
  (.seq (.reg (straight [⟨some 30, none, .pur .mov [.tmp 9]⟩, ⟨some 31, none, .eff (.call 39) [.tmp 30]⟩, ⟨some 29, none, .pur .mov [.tmp 31]⟩, ⟨some 32, none, .pur (.ext 0) [.tmp 29]⟩, ⟨some 33, none, .pur (.ext 1) [.tmp 29]⟩, ⟨some 10, none, .eff (.new 50 [.int .i64 0, .int .i64 0, .int .i64 0, .int .i64 0]) []⟩, ⟨none, none, .eff (.st 4) [.tmp 10, .tmp 32]⟩, ⟨some 11, none, .pur .mov [.tmp 33]⟩]) [10, 11])
  (.seq (.reg (straight [⟨some 34, none, .ld (some 4) (.tmp 5)⟩, ⟨some 35, none, .ld (some 4) (.tmp 7)⟩, ⟨some 36, none, .pur (.eqs false [.int .i64, .int .i64, .int .i64, .int .i64]) [.tmp 34, .tmp 35]⟩, ⟨some 37, none, .pur .mov [.tmp 36]⟩, ⟨some 38, some (37, true), .pur .mov [.tmp 6]⟩, ⟨some 39, some (37, true), .pur .mov [.tmp 8]⟩, ⟨some 40, some (37, true), .pur (.bin .eql) [.tmp 38, .tmp 39]⟩, ⟨some 41, none, .pur .pick [.tmp 37, .tmp 40, .const (.bool false)]⟩, ⟨some 42, none, .pur .mov [.tmp 41]⟩, ⟨some 43, some (42, true), .pur .mov [.tmp 9]⟩, ⟨some 44, some (42, true), .ld (some 4) (.tmp 2)⟩, ⟨some 45, some (42, true), .eff (.call 42) [.tmp 44]⟩, ⟨some 46, some (42, true), .pur (.bin .eql) [.tmp 43, .tmp 45]⟩, ⟨some 47, none, .pur .pick [.tmp 42, .tmp 46, .const (.bool false)]⟩, ⟨some 48, none, .pur .mov [.tmp 47]⟩, ⟨some 49, some (48, true), .pur .mov [.tmp 9]⟩, ⟨some 50, some (48, true), .pur (.bin .eql) [.tmp 49, .const (.string ⟨#[]⟩)]⟩, ⟨some 51, some (48, true), .pur .mov [.tmp 50]⟩, ⟨some 52, some (51, false), .pur .mov [.tmp 11]⟩, ⟨some 53, some (51, false), .pur (.bin .eql) [.tmp 52, .const (.int .i64 0)]⟩, ⟨some 54, some (51, false), .pur .mov [.tmp 53]⟩, ⟨some 55, some (54, true), .ld (some 4) (.tmp 10)⟩, ⟨some 56, some (54, true), .ld (some 4) (.tmp 2)⟩, ⟨some 57, some (54, true), .pur (.eqs false [.int .i64, .int .i64, .int .i64, .int .i64]) [.tmp 55, .tmp 56]⟩, ⟨some 58, some (51, false), .pur .pick [.tmp 54, .tmp 57, .const (.bool false)]⟩, ⟨some 59, some (48, true), .pur .pick [.tmp 51, .const (.bool true), .tmp 58]⟩, ⟨some 60, none, .pur .pick [.tmp 48, .tmp 59, .const (.bool false)]⟩, ⟨some 4, none, .pur .mov [.tmp 60]⟩]) [4])
  (.ret))))))))⟩
theorem K_forebaylaw06_AsmLines : compF Tryd.prog 8 = some S_forebaylaw06_AsmLines := by kernel_rfl

-- 9
def S_forebaylaw06_AsmReads : Fun := ⟨30, [2, 8, 0, 11, 4, 6, 3, 5], [.tmp 2],
  .seq (.reg (straight [⟨some 2, none, .pur .mov [.const (.bool false)]⟩]) [2])
  (.seq (.seq (.reg (straight [⟨some 7, none, .eff (.call 38) []⟩, ⟨some 8, none, .pur .not [.tmp 7]⟩]) [8])
  (.cond (.tmp 8) (.seq (.reg (straight [⟨some 2, none, .pur .mov [.const (.bool false)]⟩]) [2])
  (.ret)) (.skip)))
  (.seq (.seq (.reg (straight [⟨some 9, none, .pur .mov [.tmp 0]⟩, ⟨some 10, none, .pur (.len true) [.tmp 9]⟩, ⟨some 11, none, .pur (.bin .gtr) [.tmp 10, .const (.int .i64 65000)]⟩]) [11])
  (.cond (.tmp 11) (.seq (.reg (straight [⟨some 2, none, .pur .mov [.const (.bool true)]⟩]) [2])
  (.ret)) (.skip)))
  (.seq (.reg (straight [⟨some 13, none, .pur .mov [.tmp 0]⟩, ⟨some 14, none, .eff (.call 43) [.tmp 13]⟩, ⟨some 12, none, .pur .mov [.tmp 14]⟩, ⟨some 15, none, .pur (.ext 0) [.tmp 12]⟩, ⟨some 16, none, .pur (.ext 1) [.tmp 12]⟩, ⟨some 3, none, .eff (.new 57 [.int .i64 0, .slice none 0 0]) []⟩, ⟨none, none, .eff (.st 2) [.tmp 3, .tmp 15]⟩, ⟨some 4, none, .pur .mov [.tmp 16]⟩]) [3, 4])
  (.seq (.reg (straight [⟨some 18, none, .pur .mov [.tmp 0]⟩, ⟨some 19, none, .eff (.call 44) [.tmp 18]⟩, ⟨some 17, none, .pur .mov [.tmp 19]⟩, ⟨some 20, none, .pur (.ext 0) [.tmp 17]⟩, ⟨some 21, none, .pur (.ext 1) [.tmp 17]⟩, ⟨some 5, none, .eff (.new 57 [.int .i64 0, .slice none 0 0]) []⟩, ⟨none, none, .eff (.st 2) [.tmp 5, .tmp 20]⟩, ⟨some 6, none, .pur .mov [.tmp 21]⟩]) [5, 6])
  (.seq (.reg (straight [⟨some 22, none, .pur .mov [.tmp 4]⟩, ⟨some 23, none, .pur .mov [.tmp 6]⟩, ⟨some 24, none, .pur (.bin .eql) [.tmp 22, .tmp 23]⟩, ⟨some 25, none, .pur .mov [.tmp 24]⟩, ⟨some 26, some (25, true), .ld (some 2) (.tmp 3)⟩, ⟨some 27, some (25, true), .ld (some 2) (.tmp 5)⟩, ⟨some 28, some (25, true), .eff (.call 45) [.tmp 26, .tmp 27]⟩, ⟨some 29, none, .pur .pick [.tmp 25, .tmp 28, .const (.bool false)]⟩, ⟨some 2, none, .pur .mov [.tmp 29]⟩]) [2])
  (.ret))))))⟩
theorem K_forebaylaw06_AsmReads : compF Tryd.prog 9 = some S_forebaylaw06_AsmReads := by kernel_rfl

-- 12
def S_forebaylaw06_AsmTexts : Fun := ⟨50, [2, 0, 10, 1, 12, 3, 5, 4, 6, 8, 7], [.tmp 2],
  .seq (.reg (straight [⟨some 1, none, .eff (.box 57) [.tmp 0]⟩, ⟨some 2, none, .pur .mov [.const (.bool false)]⟩]) [1, 2])
  (.seq (.seq (.reg (straight [⟨some 9, none, .eff (.call 38) []⟩, ⟨some 10, none, .pur .not [.tmp 9]⟩]) [10])
  (.cond (.tmp 10) (.seq (.reg (straight [⟨some 2, none, .pur .mov [.const (.bool false)]⟩]) [2])
  (.ret)) (.skip)))
  (.seq (.seq (.reg (straight [⟨some 11, none, .ld (some 2) (.tmp 1)⟩, ⟨some 12, none, .eff (.call 51) [.tmp 11]⟩]) [12])
  (.cond (.tmp 12) (.seq (.reg (straight [⟨some 2, none, .pur .mov [.const (.bool true)]⟩]) [2])
  (.ret)) (.skip)))
  (.seq (.reg (straight [⟨some 14, none, .ld (some 2) (.tmp 1)⟩, ⟨some 15, none, .eff (.call 53) [.tmp 14]⟩, ⟨some 16, none, .eff (.call 52) [.tmp 15]⟩, ⟨some 13, none, .pur .mov [.tmp 16]⟩, ⟨some 17, none, .pur (.ext 0) [.tmp 13]⟩, ⟨some 18, none, .pur (.ext 1) [.tmp 13]⟩, ⟨some 3, none, .pur .mov [.tmp 17]⟩, ⟨some 4, none, .pur .mov [.tmp 18]⟩]) [3, 4])
  (.seq (.reg (straight [⟨some 20, none, .ld (some 2) (.tmp 1)⟩, ⟨some 21, none, .eff (.call 54) [.tmp 20]⟩, ⟨some 19, none, .pur .mov [.tmp 21]⟩, ⟨some 22, none, .pur (.ext 0) [.tmp 19]⟩, ⟨some 23, none, .pur (.ext 1) [.tmp 19]⟩, ⟨some 5, none, .pur .mov [.tmp 22]⟩, ⟨some 6, none, .pur .mov [.tmp 23]⟩]) [5, 6])
  (.seq (.reg (straight [⟨some 25, none, .pur .mov [.tmp 3]⟩, ⟨some 26, none, .eff (.call 43) [.tmp 25]⟩, ⟨some 24, none, .pur .mov [.tmp 26]⟩, ⟨some 27, none, .pur (.ext 0) [.tmp 24]⟩, ⟨some 28, none, .pur (.ext 1) [.tmp 24]⟩, ⟨some 7, none, .eff (.new 57 [.int .i64 0, .slice none 0 0]) []⟩, ⟨none, none, .eff (.st 2) [.tmp 7, .tmp 27]⟩, ⟨some 8, none, .pur .mov [.tmp 28]⟩]) [7, 8])
  (.seq (.reg (straight [⟨some 29, none, .pur .mov [.tmp 3]⟩, ⟨some 30, none, .pur .mov [.tmp 5]⟩, ⟨some 31, none, .pur (.bin .eql) [.tmp 29, .tmp 30]⟩, ⟨some 32, none, .pur .mov [.tmp 31]⟩, ⟨some 33, some (32, true), .pur .mov [.tmp 4]⟩, ⟨some 34, some (32, true), .pur .mov [.tmp 6]⟩, ⟨some 35, some (32, true), .pur (.bin .eql) [.tmp 33, .tmp 34]⟩, ⟨some 36, none, .pur .pick [.tmp 32, .tmp 35, .const (.bool false)]⟩, ⟨some 37, none, .pur .mov [.tmp 36]⟩, ⟨some 38, some (37, true), .pur .mov [.tmp 6]⟩, ⟨some 39, some (37, true), .pur (.bin .neq) [.tmp 38, .const (.int .i64 0)]⟩, ⟨some 40, some (37, true), .pur .mov [.tmp 39]⟩, ⟨some 41, some (40, false), .pur .mov [.tmp 8]⟩, ⟨some 42, some (40, false), .pur (.bin .eql) [.tmp 41, .const (.int .i64 0)]⟩, ⟨some 43, some (40, false), .pur .mov [.tmp 42]⟩, ⟨some 44, some (43, true), .ld (some 2) (.tmp 1)⟩, ⟨some 45, some (43, true), .ld (some 2) (.tmp 7)⟩, ⟨some 46, some (43, true), .eff (.call 45) [.tmp 44, .tmp 45]⟩, ⟨some 47, some (40, false), .pur .pick [.tmp 43, .tmp 46, .const (.bool false)]⟩, ⟨some 48, some (37, true), .pur .pick [.tmp 40, .const (.bool true), .tmp 47]⟩, ⟨some 49, none, .pur .pick [.tmp 37, .tmp 48, .const (.bool false)]⟩, ⟨some 2, none, .pur .mov [.tmp 49]⟩]) [2])
  (.ret)))))))⟩
theorem K_forebaylaw06_AsmTexts : compF Tryd.prog 12 = some S_forebaylaw06_AsmTexts := by kernel_rfl

-- 13
def S_forebaylaw06_AsmLoose_L1 : SCode :=
  .seq (.seq (.reg (straight [⟨some 30, none, .pur .mov [.tmp 8]⟩, ⟨some 31, none, .pur .mov [.tmp 1]⟩, ⟨some 32, none, .pur (.toInt .i64) [.tmp 31]⟩, ⟨some 33, none, .pur (.bin .rem) [.tmp 32, .const (.int .i64 4)]⟩, ⟨some 34, none, .pur (.bin .lss) [.tmp 30, .tmp 33]⟩]) [34])
  (.cond (.tmp 34) (.skip) (.exit 0)))
  (.seq (.block 1 (.reg (straight [⟨some 37, none, .pur .mov [.tmp 7]⟩, ⟨some 38, none, .pur (.bin .add) [.tmp 37, .const (.string ⟨#[32]⟩)]⟩, ⟨some 7, none, .pur .mov [.tmp 38]⟩]) [7]))
  (.reg (straight [⟨some 35, none, .pur .mov [.tmp 8]⟩, ⟨some 36, none, .pur (.bin .add) [.tmp 35, .const (.int .i64 1)]⟩, ⟨some 8, none, .pur .mov [.tmp 36]⟩]) [8]))
def S_forebaylaw06_AsmLoose_L2 : SCode :=
  .seq (.seq (.reg (straight [⟨some 41, none, .pur .mov [.tmp 10]⟩, ⟨some 42, none, .pur .mov [.tmp 5]⟩, ⟨some 43, none, .pur (.len true) [.tmp 42]⟩, ⟨some 44, none, .pur (.bin .lss) [.tmp 41, .tmp 43]⟩]) [44])
  (.cond (.tmp 44) (.skip) (.exit 2)))
  (.seq (.block 3 (.seq (.reg (straight [⟨some 47, none, .pur .mov [.tmp 5]⟩, ⟨some 48, none, .pur .mov [.tmp 10]⟩, ⟨some 49, none, .pur .ixs [.tmp 47, .tmp 48]⟩]) [49])
  (.block 4 (.seq (.reg (straight [⟨some 58, none, .pur (.bin .eql) [.tmp 49, .const (.int .u8 32)]⟩, ⟨some 57, none, .pur .mov [.tmp 58]⟩]) [57])
  (.cond (.tmp 57) (.reg (straight [⟨some 59, none, .pur .mov [.tmp 9]⟩, ⟨some 60, none, .pur .mov [.tmp 7]⟩, ⟨some 61, none, .pur (.bin .add) [.tmp 59, .tmp 60]⟩, ⟨some 62, none, .pur (.bin .add) [.tmp 61, .const (.string ⟨#[32]⟩)]⟩, ⟨some 9, none, .pur .mov [.tmp 62]⟩]) [9]) (.seq (.reg (straight [⟨some 64, none, .pur (.bin .eql) [.tmp 49, .const (.int .u8 10)]⟩, ⟨some 63, none, .pur .mov [.tmp 64]⟩]) [63])
  (.cond (.tmp 63) (.reg (straight [⟨some 65, none, .pur .mov [.tmp 9]⟩, ⟨some 66, none, .pur .mov [.tmp 7]⟩, ⟨some 67, none, .pur (.bin .add) [.tmp 65, .tmp 66]⟩, ⟨some 68, none, .pur (.bin .add) [.tmp 67, .const (.string ⟨#[10]⟩)]⟩, ⟨some 69, none, .pur .mov [.tmp 7]⟩, ⟨some 70, none, .pur (.bin .add) [.tmp 68, .tmp 69]⟩, ⟨some 71, none, .pur (.bin .add) [.tmp 70, .const (.string ⟨#[10]⟩)]⟩, ⟨some 72, none, .pur .mov [.tmp 7]⟩, ⟨some 73, none, .pur (.bin .add) [.tmp 71, .tmp 72]⟩, ⟨some 9, none, .pur .mov [.tmp 73]⟩]) [9]) (.reg (straight [⟨some 50, none, .pur .mov [.tmp 9]⟩, ⟨some 51, none, .pur .mov [.tmp 5]⟩, ⟨some 52, none, .pur .mov [.tmp 10]⟩, ⟨some 53, none, .pur .mov [.tmp 10]⟩, ⟨some 54, none, .pur (.bin .add) [.tmp 53, .const (.int .i64 1)]⟩, ⟨some 55, none, .pur (.sls true true) [.tmp 51, .tmp 52, .tmp 54]⟩, ⟨some 56, none, .pur (.bin .add) [.tmp 50, .tmp 55]⟩, ⟨some 9, none, .pur .mov [.tmp 56]⟩]) [9]))))))))
  (.reg (straight [⟨some 45, none, .pur .mov [.tmp 10]⟩, ⟨some 46, none, .pur (.bin .add) [.tmp 45, .const (.int .i64 1)]⟩, ⟨some 10, none, .pur .mov [.tmp 46]⟩]) [10]))
def S_forebaylaw06_AsmLoose : Fun := ⟨86, [4, 0, 14, 2, 16, 6, 5, 29, 8, 1, 34, 7, 10, 44, 49, 57, 9, 63, 12, 11], [.tmp 4],
  .seq (.reg (straight [⟨some 2, none, .eff (.box 57) [.tmp 0]⟩, ⟨some 4, none, .pur .mov [.const (.bool false)]⟩]) [2, 4])
  (.seq (.seq (.reg (straight [⟨some 13, none, .eff (.call 38) []⟩, ⟨some 14, none, .pur .not [.tmp 13]⟩]) [14])
  (.cond (.tmp 14) (.seq (.reg (straight [⟨some 4, none, .pur .mov [.const (.bool false)]⟩]) [4])
  (.ret)) (.skip)))
  (.seq (.seq (.reg (straight [⟨some 15, none, .ld (some 2) (.tmp 2)⟩, ⟨some 16, none, .eff (.call 51) [.tmp 15]⟩]) [16])
  (.cond (.tmp 16) (.seq (.reg (straight [⟨some 4, none, .pur .mov [.const (.bool true)]⟩]) [4])
  (.ret)) (.skip)))
  (.seq (.reg (straight [⟨some 18, none, .ld (some 2) (.tmp 2)⟩, ⟨some 19, none, .eff (.call 53) [.tmp 18]⟩, ⟨some 20, none, .eff (.call 52) [.tmp 19]⟩, ⟨some 17, none, .pur .mov [.tmp 20]⟩, ⟨some 21, none, .pur (.ext 0) [.tmp 17]⟩, ⟨some 22, none, .pur (.ext 1) [.tmp 17]⟩, ⟨some 5, none, .pur .mov [.tmp 21]⟩, ⟨some 6, none, .pur .mov [.tmp 22]⟩]) [5, 6])
  (.seq (.seq (.reg (straight [⟨some 23, none, .pur .mov [.tmp 6]⟩, ⟨some 24, none, .pur (.bin .neq) [.tmp 23, .const (.int .i64 0)]⟩, ⟨some 25, none, .pur .mov [.tmp 24]⟩, ⟨some 26, some (25, false), .pur .mov [.tmp 5]⟩, ⟨some 27, some (25, false), .pur (.len true) [.tmp 26]⟩, ⟨some 28, some (25, false), .pur (.bin .gtr) [.tmp 27, .const (.int .i64 6000)]⟩, ⟨some 29, none, .pur .pick [.tmp 25, .const (.bool true), .tmp 28]⟩]) [29])
  (.cond (.tmp 29) (.seq (.reg (straight [⟨some 4, none, .pur .mov [.const (.bool true)]⟩]) [4])
  (.ret)) (.skip)))
  (.seq (.reg (straight [⟨some 7, none, .pur .mov [.const (.string ⟨#[]⟩)]⟩]) [7])
  (.seq (.seq (.reg (straight [⟨some 8, none, .pur .mov [.const (.int .i64 0)]⟩]) [8])
  (.block 0 (.loop S_forebaylaw06_AsmLoose_L1)))
  (.seq (.reg (straight [⟨some 39, none, .pur .mov [.tmp 7]⟩, ⟨some 40, none, .pur (.bin .add) [.tmp 39, .const (.string ⟨#[10]⟩)]⟩, ⟨some 9, none, .pur .mov [.tmp 40]⟩]) [9])
  (.seq (.seq (.reg (straight [⟨some 10, none, .pur .mov [.const (.int .i64 0)]⟩]) [10])
  (.block 2 (.loop S_forebaylaw06_AsmLoose_L2)))
  (.seq (.reg (straight [⟨some 75, none, .pur .mov [.tmp 9]⟩, ⟨some 76, none, .eff (.call 43) [.tmp 75]⟩, ⟨some 74, none, .pur .mov [.tmp 76]⟩, ⟨some 77, none, .pur (.ext 0) [.tmp 74]⟩, ⟨some 78, none, .pur (.ext 1) [.tmp 74]⟩, ⟨some 11, none, .eff (.new 57 [.int .i64 0, .slice none 0 0]) []⟩, ⟨none, none, .eff (.st 2) [.tmp 11, .tmp 77]⟩, ⟨some 12, none, .pur .mov [.tmp 78]⟩]) [11, 12])
  (.seq (.reg (straight [⟨some 79, none, .pur .mov [.tmp 12]⟩, ⟨some 80, none, .pur (.bin .eql) [.tmp 79, .const (.int .i64 0)]⟩, ⟨some 81, none, .pur .mov [.tmp 80]⟩, ⟨some 82, some (81, true), .ld (some 2) (.tmp 2)⟩, ⟨some 83, some (81, true), .ld (some 2) (.tmp 11)⟩, ⟨some 84, some (81, true), .eff (.call 45) [.tmp 82, .tmp 83]⟩, ⟨some 85, none, .pur .pick [.tmp 81, .tmp 84, .const (.bool false)]⟩, ⟨some 4, none, .pur .mov [.tmp 85]⟩]) [4])
  (.ret)))))))))))⟩
theorem K_forebaylaw06_AsmLoose : compF Tryd.prog 13 = some S_forebaylaw06_AsmLoose := by kernel_rfl

-- 14
def S_forebaylaw06_AsmSizes_L2 : SCode :=
  .seq (.seq (.reg (straight [⟨some 66, none, .pur .mov [.tmp 10]⟩, ⟨some 67, none, .pur (.fla 1) [.tmp 1]⟩, ⟨some 68, none, .ld none (.tmp 67)⟩, ⟨some 69, none, .pur .mov [.tmp 9]⟩, ⟨some 70, none, .pur (.ixa 1) [.tmp 68, .tmp 69]⟩, ⟨some 71, none, .ld none (.tmp 70)⟩, ⟨some 72, none, .pur (.len false) [.tmp 71]⟩, ⟨some 73, none, .pur (.bin .lss) [.tmp 66, .tmp 72]⟩]) [73])
  (.cond (.tmp 73) (.skip) (.exit 2)))
  (.seq (.block 3 (.seq (.seq (.reg (.run ⟨some 76, none, .pur .mov [.tmp 8]⟩ (.run ⟨some 77, none, .pur .mov [.tmp 7]⟩ (.run ⟨some 78, none, .pur (.len false) [.tmp 77]⟩ (.run ⟨some 79, none, .pur (.bin .geq) [.tmp 76, .tmp 78]⟩ (.run ⟨some 80, none, .pur .mov [.tmp 79]⟩ (.run ⟨some 81, some (80, false), .pur .mov [.tmp 7]⟩ (.run ⟨some 82, some (80, false), .pur .mov [.tmp 8]⟩ (.run ⟨some 83, some (80, false), .pur (.ixa 1) [.tmp 81, .tmp 82]⟩ (.run ⟨some 84, some (80, false), .ld none (.tmp 83)⟩ (.run ⟨some 85, some (80, false), .pur (.fla 1) [.tmp 1]⟩ (.run ⟨some 86, some (80, false), .ld none (.tmp 85)⟩ (.run ⟨some 87, some (80, false), .pur .mov [.tmp 9]⟩ (.run ⟨some 88, some (80, false), .pur (.ixa 1) [.tmp 86, .tmp 87]⟩ (.run ⟨some 89, some (80, false), .ld none (.tmp 88)⟩ (.run ⟨some 90, some (80, false), .pur .mov [.tmp 10]⟩ (.run ⟨some 91, some (80, false), .pur (.ixa 4) [.tmp 89, .tmp 90]⟩ (.run ⟨some 92, some (80, false), .ld (some 4) (.tmp 91)⟩ (.eff ⟨some 93, some (80, false), .eff (.call 41) [.tmp 92]⟩ [⟨some 84, some (80, false), .ld none (.tmp 83)⟩] (.run ⟨some 94, some (80, false), .pur (.bin .neq) [.tmp 84, .tmp 93]⟩ (.run ⟨some 95, none, .pur .pick [.tmp 80, .const (.bool true), .tmp 94]⟩ .done)))))))))))))))))))) [95])
  (.cond (.tmp 95) (.seq (.reg (straight [⟨some 2, none, .pur .mov [.const (.bool false)]⟩]) [2])
  (.ret)) (.skip)))
  (.reg (straight [⟨some 96, none, .pur .mov [.tmp 8]⟩, ⟨some 97, none, .pur (.bin .add) [.tmp 96, .const (.int .i64 1)]⟩, ⟨some 8, none, .pur .mov [.tmp 97]⟩]) [8])))
  (.reg (straight [⟨some 74, none, .pur .mov [.tmp 10]⟩, ⟨some 75, none, .pur (.bin .add) [.tmp 74, .const (.int .i64 1)]⟩, ⟨some 10, none, .pur .mov [.tmp 75]⟩]) [10]))
def S_forebaylaw06_AsmSizes_L1 : SCode :=
  .seq (.seq (.reg (straight [⟨some 46, none, .pur .mov [.tmp 9]⟩, ⟨some 47, none, .pur (.fla 1) [.tmp 1]⟩, ⟨some 48, none, .ld none (.tmp 47)⟩, ⟨some 49, none, .pur (.len false) [.tmp 48]⟩, ⟨some 50, none, .pur (.bin .lss) [.tmp 46, .tmp 49]⟩]) [50])
  (.cond (.tmp 50) (.skip) (.exit 0)))
  (.seq (.block 1 (.seq (.seq (.reg (straight [⟨some 53, none, .pur .mov [.tmp 8]⟩, ⟨some 54, none, .pur .mov [.tmp 7]⟩, ⟨some 55, none, .pur (.len false) [.tmp 54]⟩, ⟨some 56, none, .pur (.bin .geq) [.tmp 53, .tmp 55]⟩, ⟨some 57, none, .pur .mov [.tmp 56]⟩, ⟨some 58, some (57, false), .pur .mov [.tmp 7]⟩, ⟨some 59, some (57, false), .pur .mov [.tmp 8]⟩, ⟨some 60, some (57, false), .pur (.ixa 1) [.tmp 58, .tmp 59]⟩, ⟨some 61, some (57, false), .ld none (.tmp 60)⟩, ⟨some 62, some (57, false), .pur (.bin .neq) [.tmp 61, .const (.string ⟨#[102, 117, 110, 99, 116, 105, 111, 110]⟩)]⟩, ⟨some 63, none, .pur .pick [.tmp 57, .const (.bool true), .tmp 62]⟩]) [63])
  (.cond (.tmp 63) (.seq (.reg (straight [⟨some 2, none, .pur .mov [.const (.bool false)]⟩]) [2])
  (.ret)) (.skip)))
  (.seq (.reg (straight [⟨some 64, none, .pur .mov [.tmp 8]⟩, ⟨some 65, none, .pur (.bin .add) [.tmp 64, .const (.int .i64 1)]⟩, ⟨some 8, none, .pur .mov [.tmp 65]⟩]) [8])
  (.seq (.reg (straight [⟨some 10, none, .pur .mov [.const (.int .i64 0)]⟩]) [10])
  (.block 2 (.loop S_forebaylaw06_AsmSizes_L2))))))
  (.reg (straight [⟨some 51, none, .pur .mov [.tmp 9]⟩, ⟨some 52, none, .pur (.bin .add) [.tmp 51, .const (.int .i64 1)]⟩, ⟨some 9, none, .pur .mov [.tmp 52]⟩]) [9]))
def S_forebaylaw06_AsmSizes : Fun := ⟨135, [2, 0, 16, 1, 18, 4, 6, 36, 3, 9, 50, 8, 7, 63, 10, 73, 95, 11, 12, 14, 5, 13], [.tmp 2],
  .seq (.reg (straight [⟨some 1, none, .eff (.box 57) [.tmp 0]⟩, ⟨some 2, none, .pur .mov [.const (.bool false)]⟩]) [1, 2])
  (.seq (.seq (.reg (straight [⟨some 15, none, .eff (.call 38) []⟩, ⟨some 16, none, .pur .not [.tmp 15]⟩]) [16])
  (.cond (.tmp 16) (.seq (.reg (straight [⟨some 2, none, .pur .mov [.const (.bool false)]⟩]) [2])
  (.ret)) (.skip)))
  (.seq (.seq (.reg (straight [⟨some 17, none, .ld (some 2) (.tmp 1)⟩, ⟨some 18, none, .eff (.call 51) [.tmp 17]⟩]) [18])
  (.cond (.tmp 18) (.seq (.reg (straight [⟨some 2, none, .pur .mov [.const (.bool true)]⟩]) [2])
  (.ret)) (.skip)))
  (.seq (.reg (straight [⟨some 20, none, .ld (some 2) (.tmp 1)⟩, ⟨some 21, none, .eff (.call 53) [.tmp 20]⟩, ⟨some 22, none, .eff (.call 52) [.tmp 21]⟩, ⟨some 19, none, .pur .mov [.tmp 22]⟩, ⟨some 23, none, .pur (.ext 0) [.tmp 19]⟩, ⟨some 24, none, .pur (.ext 1) [.tmp 19]⟩, ⟨some 3, none, .pur .mov [.tmp 23]⟩, ⟨some 4, none, .pur .mov [.tmp 24]⟩]) [3, 4])
  (.seq (.reg (straight [⟨some 26, none, .ld (some 2) (.tmp 1)⟩, ⟨some 27, none, .eff (.call 53) [.tmp 26]⟩, ⟨some 28, none, .eff (.call 55) [.tmp 27]⟩, ⟨some 25, none, .pur .mov [.tmp 28]⟩, ⟨some 29, none, .pur (.ext 0) [.tmp 25]⟩, ⟨some 30, none, .pur (.ext 1) [.tmp 25]⟩, ⟨some 5, none, .pur .mov [.tmp 29]⟩, ⟨some 6, none, .pur .mov [.tmp 30]⟩]) [5, 6])
  (.seq (.seq (.reg (straight [⟨some 31, none, .pur .mov [.tmp 4]⟩, ⟨some 32, none, .pur (.bin .neq) [.tmp 31, .const (.int .i64 0)]⟩, ⟨some 33, none, .pur .mov [.tmp 32]⟩, ⟨some 34, some (33, false), .pur .mov [.tmp 6]⟩, ⟨some 35, some (33, false), .pur (.bin .neq) [.tmp 34, .const (.int .i64 0)]⟩, ⟨some 36, none, .pur .pick [.tmp 33, .const (.bool true), .tmp 35]⟩]) [36])
  (.cond (.tmp 36) (.seq (.reg (straight [⟨some 37, none, .pur .mov [.tmp 4]⟩, ⟨some 38, none, .pur .mov [.tmp 6]⟩, ⟨some 39, none, .pur (.bin .eql) [.tmp 37, .tmp 38]⟩, ⟨some 40, none, .pur .mov [.tmp 39]⟩, ⟨some 41, some (40, true), .pur .mov [.tmp 3]⟩, ⟨some 42, some (40, true), .pur (.bin .eql) [.tmp 41, .const (.string ⟨#[]⟩)]⟩, ⟨some 43, none, .pur .pick [.tmp 40, .tmp 42, .const (.bool false)]⟩, ⟨some 2, none, .pur .mov [.tmp 43]⟩]) [2])
  (.ret)) (.skip)))
  (.seq (.reg (straight [⟨some 44, none, .pur .mov [.tmp 3]⟩, ⟨some 45, none, .eff (.call 26) [.tmp 44]⟩, ⟨some 7, none, .pur .mov [.tmp 45]⟩]) [7])
  (.seq (.reg (straight [⟨some 8, none, .pur .mov [.const (.int .i64 1)]⟩]) [8])
  (.seq (.seq (.reg (straight [⟨some 9, none, .pur .mov [.const (.int .i64 0)]⟩]) [9])
  (.block 0 (.loop S_forebaylaw06_AsmSizes_L1)))
  (.seq (.reg (straight [⟨some 99, none, .pur .mov [.tmp 3]⟩, ⟨some 100, none, .eff (.call 43) [.tmp 99]⟩, ⟨some 98, none, .pur .mov [.tmp 100]⟩, ⟨some 101, none, .pur (.ext 0) [.tmp 98]⟩, ⟨some 102, none, .pur (.ext 1) [.tmp 98]⟩, ⟨some 11, none, .eff (.new 57 [.int .i64 0, .slice none 0 0]) []⟩, ⟨none, none, .eff (.st 2) [.tmp 11, .tmp 101]⟩, ⟨some 12, none, .pur .mov [.tmp 102]⟩]) [11, 12])
  (.seq (.reg (straight [⟨some 104, none, .ld (some 2) (.tmp 11)⟩, ⟨some 105, none, .eff (.call 55) [.tmp 104]⟩, ⟨some 103, none, .pur .mov [.tmp 105]⟩, ⟨some 106, none, .pur (.ext 0) [.tmp 103]⟩, ⟨some 107, none, .pur (.ext 1) [.tmp 103]⟩, ⟨some 13, none, .pur .mov [.tmp 106]⟩, ⟨some 14, none, .pur .mov [.tmp 107]⟩]) [13, 14])
  (.seq (.reg (.run ⟨some 108, none, .pur .mov [.tmp 8]⟩ (.run ⟨some 109, none, .pur .mov [.tmp 7]⟩ (.run ⟨some 110, none, .pur (.len false) [.tmp 109]⟩ (.run ⟨some 111, none, .pur (.bin .eql) [.tmp 108, .tmp 110]⟩ (.run ⟨some 112, none, .pur .mov [.tmp 111]⟩ (.run ⟨some 113, some (112, true), .pur .mov [.tmp 7]⟩ (.run ⟨some 114, some (112, true), .pur (.ixa 1) [.tmp 113, .const (.int .i64 0)]⟩ (.run ⟨some 115, some (112, true), .ld none (.tmp 114)⟩ (.run ⟨some 116, some (112, true), .pur (.fla 0) [.tmp 1]⟩ (.run ⟨some 117, some (112, true), .ld none (.tmp 116)⟩ (.eff ⟨some 118, some (112, true), .eff (.call 32) [.tmp 117]⟩ [⟨some 115, some (112, true), .ld none (.tmp 114)⟩] (.run ⟨some 119, some (112, true), .pur (.bin .add) [.const (.string ⟨#[109, 101, 109, 111, 114, 121, 32]⟩), .tmp 118]⟩ (.run ⟨some 120, some (112, true), .pur (.bin .eql) [.tmp 115, .tmp 119]⟩ (.run ⟨some 121, none, .pur .pick [.tmp 112, .tmp 120, .const (.bool false)]⟩ (.run ⟨some 122, none, .pur .mov [.tmp 121]⟩ (.run ⟨some 123, some (122, true), .pur .mov [.tmp 12]⟩ (.run ⟨some 124, some (122, true), .pur (.bin .eql) [.tmp 123, .const (.int .i64 0)]⟩ (.run ⟨some 125, none, .pur .pick [.tmp 122, .tmp 124, .const (.bool false)]⟩ (.run ⟨some 126, none, .pur .mov [.tmp 125]⟩ (.run ⟨some 127, some (126, true), .pur .mov [.tmp 14]⟩ (.run ⟨some 128, some (126, true), .pur (.bin .eql) [.tmp 127, .const (.int .i64 0)]⟩ (.run ⟨some 129, none, .pur .pick [.tmp 126, .tmp 128, .const (.bool false)]⟩ (.run ⟨some 130, none, .pur .mov [.tmp 129]⟩ (.run ⟨some 131, some (130, true), .pur .mov [.tmp 5]⟩ (.run ⟨some 132, some (130, true), .pur .mov [.tmp 13]⟩ (.run ⟨some 133, some (130, true), .pur (.bin .eql) [.tmp 131, .tmp 132]⟩ (.run ⟨some 134, none, .pur .pick [.tmp 130, .tmp 133, .const (.bool false)]⟩ (.run ⟨some 2, none, .pur .mov [.tmp 134]⟩ .done)))))))))))))))))))))))))))) [2])
  (.ret))))))))))))⟩
theorem K_forebaylaw06_AsmSizes : compF Tryd.prog 14 = some S_forebaylaw06_AsmSizes := by kernel_rfl

-- 38
def S_forebaylaw06_works : Fun := ⟨48, [0, 2, 1, 4, 3], [.tmp 0],
  .seq (.reg (straight [⟨some 0, none, .pur .mov [.const (.bool false)]⟩]) [0])
  (.seq (.reg (straight [⟨some 6, none, .eff (.call 39) [.const (.string ⟨#[115, 101, 116, 32, 50, 32, 45, 49]⟩)]⟩, ⟨some 5, none, .pur .mov [.tmp 6]⟩, ⟨some 7, none, .pur (.ext 0) [.tmp 5]⟩, ⟨some 8, none, .pur (.ext 1) [.tmp 5]⟩, ⟨some 1, none, .eff (.new 50 [.int .i64 0, .int .i64 0, .int .i64 0, .int .i64 0]) []⟩, ⟨none, none, .eff (.st 4) [.tmp 1, .tmp 7]⟩, ⟨some 2, none, .pur .mov [.tmp 8]⟩]) [1, 2])
  (.seq (.reg (straight [⟨some 10, none, .eff (.call 43) [.const (.string ⟨#[109, 101, 109, 111, 114, 121, 32, 51, 10, 102, 117, 110, 99, 116, 105, 111, 110, 10, 101, 109, 105, 116, 32, 49, 10, 114, 101, 116, 10]⟩)]⟩, ⟨some 9, none, .pur .mov [.tmp 10]⟩, ⟨some 11, none, .pur (.ext 0) [.tmp 9]⟩, ⟨some 12, none, .pur (.ext 1) [.tmp 9]⟩, ⟨some 3, none, .eff (.new 57 [.int .i64 0, .slice none 0 0]) []⟩, ⟨none, none, .eff (.st 2) [.tmp 3, .tmp 11]⟩, ⟨some 4, none, .pur .mov [.tmp 12]⟩]) [3, 4])
  (.seq (.reg (straight [⟨some 13, none, .pur .mov [.tmp 2]⟩, ⟨some 14, none, .pur (.bin .eql) [.tmp 13, .const (.int .i64 0)]⟩, ⟨some 15, none, .pur .mov [.tmp 14]⟩, ⟨some 16, some (15, true), .ld (some 4) (.tmp 1)⟩, ⟨some 17, some (15, true), .pur (.bld [.int .i64 0, .int .i64 0, .int .i64 0, .int .i64 0] [(0, 1), (1, 1), (2, 1)]) [.const (.int .i64 1), .const (.int .i64 2), .const (.int .i64 (-1))]⟩, ⟨some 18, some (15, true), .pur (.eqs false [.int .i64, .int .i64, .int .i64, .int .i64]) [.tmp 16, .tmp 17]⟩, ⟨some 19, none, .pur .pick [.tmp 15, .tmp 18, .const (.bool false)]⟩, ⟨some 20, none, .pur .mov [.tmp 19]⟩, ⟨some 21, some (20, true), .ld (some 4) (.tmp 1)⟩, ⟨some 22, some (20, true), .eff (.call 41) [.tmp 21]⟩, ⟨some 23, some (20, true), .pur (.bin .eql) [.tmp 22, .const (.string ⟨#[115, 101, 116, 32, 50, 32, 45, 49]⟩)]⟩, ⟨some 24, none, .pur .pick [.tmp 20, .tmp 23, .const (.bool false)]⟩, ⟨some 25, none, .pur .mov [.tmp 24]⟩, ⟨some 26, some (25, true), .pur .mov [.tmp 4]⟩, ⟨some 27, some (25, true), .pur (.bin .eql) [.tmp 26, .const (.int .i64 0)]⟩, ⟨some 28, none, .pur .pick [.tmp 25, .tmp 27, .const (.bool false)]⟩, ⟨some 29, none, .pur .mov [.tmp 28]⟩, ⟨some 30, some (29, true), .pur (.fla 0) [.tmp 3]⟩, ⟨some 31, some (29, true), .ld none (.tmp 30)⟩, ⟨some 32, some (29, true), .pur (.bin .eql) [.tmp 31, .const (.int .i64 3)]⟩, ⟨some 33, none, .pur .pick [.tmp 29, .tmp 32, .const (.bool false)]⟩, ⟨some 34, none, .pur .mov [.tmp 33]⟩, ⟨some 35, some (34, true), .pur (.fla 1) [.tmp 3]⟩, ⟨some 36, some (34, true), .ld none (.tmp 35)⟩, ⟨some 37, some (34, true), .pur (.len false) [.tmp 36]⟩, ⟨some 38, some (34, true), .pur (.bin .eql) [.tmp 37, .const (.int .i64 1)]⟩, ⟨some 39, none, .pur .pick [.tmp 34, .tmp 38, .const (.bool false)]⟩, ⟨some 40, none, .pur .mov [.tmp 39]⟩, ⟨some 41, some (40, true), .pur (.fla 1) [.tmp 3]⟩, ⟨some 42, some (40, true), .ld none (.tmp 41)⟩, ⟨some 43, some (40, true), .pur (.ixa 1) [.tmp 42, .const (.int .i64 0)]⟩, ⟨some 44, some (40, true), .ld none (.tmp 43)⟩, ⟨some 45, some (40, true), .pur (.len false) [.tmp 44]⟩, ⟨some 46, some (40, true), .pur (.bin .eql) [.tmp 45, .const (.int .i64 2)]⟩, ⟨some 47, none, .pur .pick [.tmp 40, .tmp 46, .const (.bool false)]⟩, ⟨some 0, none, .pur .mov [.tmp 47]⟩]) [0])
  (.ret))))⟩
theorem K_forebaylaw06_works : compF Tryd.prog 38 = some S_forebaylaw06_works := by kernel_rfl

-- 39
def S_asm_Parse : Fun := ⟨60, [2, 3, 0, 14, 4, 5, 20, 7, 30, 6, 9, 42, 8, 10, 11, 56], [.cell 2 (some 4), .tmp 3],
  .seq (.reg (straight [⟨some 2, none, .eff (.new 50 [.int .i64 0, .int .i64 0, .int .i64 0, .int .i64 0]) []⟩, ⟨some 3, none, .pur .mov [.const (.int .i64 0)]⟩]) [2, 3])
  (.seq (.reg (straight [⟨some 4, none, .eff (.new 50 [.int .i64 0, .int .i64 0, .int .i64 0, .int .i64 0]) []⟩]) [4])
  (.seq (.seq (.reg (straight [⟨some 12, none, .pur .mov [.tmp 0]⟩, ⟨some 13, none, .pur (.len true) [.tmp 12]⟩, ⟨some 14, none, .pur (.bin .gtr) [.tmp 13, .const (.int .i64 400)]⟩]) [14])
  (.cond (.tmp 14) (.seq (.reg (straight [⟨some 15, none, .ld (some 4) (.tmp 4)⟩, ⟨none, none, .eff (.st 4) [.tmp 2, .tmp 15]⟩, ⟨some 3, none, .pur .mov [.const (.int .i64 9)]⟩]) [3])
  (.ret)) (.skip)))
  (.seq (.reg (straight [⟨some 16, none, .pur .mov [.tmp 0]⟩, ⟨some 17, none, .eff (.call 47) [.tmp 16]⟩, ⟨some 5, none, .pur .mov [.tmp 17]⟩]) [5])
  (.seq (.seq (.reg (straight [⟨some 18, none, .pur .mov [.tmp 5]⟩, ⟨some 19, none, .pur (.len false) [.tmp 18]⟩, ⟨some 20, none, .pur (.bin .eql) [.tmp 19, .const (.int .i64 0)]⟩]) [20])
  (.cond (.tmp 20) (.seq (.reg (straight [⟨some 21, none, .ld (some 4) (.tmp 4)⟩, ⟨none, none, .eff (.st 4) [.tmp 2, .tmp 21]⟩, ⟨some 3, none, .pur .mov [.const (.int .i64 7)]⟩]) [3])
  (.ret)) (.skip)))
  (.seq (.reg (straight [⟨some 23, none, .pur .mov [.tmp 5]⟩, ⟨some 24, none, .pur (.ixa 1) [.tmp 23, .const (.int .i64 0)]⟩, ⟨some 25, none, .ld none (.tmp 24)⟩, ⟨some 26, none, .eff (.call 67) [.tmp 25]⟩, ⟨some 22, none, .pur .mov [.tmp 26]⟩, ⟨some 27, none, .pur (.ext 0) [.tmp 22]⟩, ⟨some 28, none, .pur (.ext 1) [.tmp 22]⟩, ⟨some 6, none, .pur .mov [.tmp 27]⟩, ⟨some 7, none, .pur .mov [.tmp 28]⟩]) [6, 7])
  (.seq (.seq (.reg (straight [⟨some 29, none, .pur .mov [.tmp 7]⟩, ⟨some 30, none, .pur .not [.tmp 29]⟩]) [30])
  (.cond (.tmp 30) (.seq (.reg (straight [⟨some 31, none, .ld (some 4) (.tmp 4)⟩, ⟨none, none, .eff (.st 4) [.tmp 2, .tmp 31]⟩, ⟨some 3, none, .pur .mov [.const (.int .i64 70)]⟩]) [3])
  (.ret)) (.skip)))
  (.seq (.reg (.run ⟨some 33, none, .pur .mov [.tmp 5]⟩ (.run ⟨some 34, none, .pur (.slc 1 true false) [.tmp 33, .const (.int .i64 1)]⟩ (.run ⟨some 35, none, .pur .mov [.tmp 6]⟩ (.both (.eff ⟨some 36, none, .eff (.call 69) [.tmp 35]⟩ [] (.run ⟨some 37, none, .pur (.len true) [.tmp 36]⟩ (.both (.eff ⟨some 38, none, .eff (.call 68) [.tmp 34, .tmp 37]⟩ [] (.run ⟨some 32, none, .pur .mov [.tmp 38]⟩ (.run ⟨some 39, none, .pur (.ext 0) [.tmp 32]⟩ (.run ⟨some 40, none, .pur (.ext 1) [.tmp 32]⟩ (.eff ⟨some 8, none, .eff (.new 89 [.int .i64 0, .int .i64 0, .int .i64 0]) []⟩ [] (.eff ⟨none, none, .eff (.st 3) [.tmp 8, .tmp 39]⟩ [] (.run ⟨some 9, none, .pur .mov [.tmp 40]⟩ .done))))))) (.eff ⟨some 8, none, .eff (.new 89 [.int .i64 0, .int .i64 0, .int .i64 0]) []⟩ [] (.eff ⟨some 38, none, .eff (.call 68) [.tmp 34, .tmp 37]⟩ [] (.run ⟨some 32, none, .pur .mov [.tmp 38]⟩ (.run ⟨some 39, none, .pur (.ext 0) [.tmp 32]⟩ (.run ⟨some 40, none, .pur (.ext 1) [.tmp 32]⟩ (.eff ⟨none, none, .eff (.st 3) [.tmp 8, .tmp 39]⟩ [] (.run ⟨some 9, none, .pur .mov [.tmp 40]⟩ .done)))))))))) (.eff ⟨some 8, none, .eff (.new 89 [.int .i64 0, .int .i64 0, .int .i64 0]) []⟩ [] (.eff ⟨some 36, none, .eff (.call 69) [.tmp 35]⟩ [] (.run ⟨some 37, none, .pur (.len true) [.tmp 36]⟩ (.eff ⟨some 38, none, .eff (.call 68) [.tmp 34, .tmp 37]⟩ [] (.run ⟨some 32, none, .pur .mov [.tmp 38]⟩ (.run ⟨some 39, none, .pur (.ext 0) [.tmp 32]⟩ (.run ⟨some 40, none, .pur (.ext 1) [.tmp 32]⟩ (.eff ⟨none, none, .eff (.st 3) [.tmp 8, .tmp 39]⟩ [] (.run ⟨some 9, none, .pur .mov [.tmp 40]⟩ .done))))))))))))) [8, 9])
  (.seq (.seq (.reg (straight [⟨some 41, none, .pur .mov [.tmp 9]⟩, ⟨some 42, none, .pur (.bin .neq) [.tmp 41, .const (.int .i64 0)]⟩]) [42])
  (.cond (.tmp 42) (.seq (.reg (straight [⟨some 43, none, .ld (some 4) (.tmp 4)⟩, ⟨some 44, none, .pur .mov [.tmp 9]⟩, ⟨none, none, .eff (.st 4) [.tmp 2, .tmp 43]⟩, ⟨some 3, none, .pur .mov [.tmp 44]⟩]) [3])
  (.ret)) (.skip)))
  (.seq (.reg (straight [⟨some 45, none, .pur .mov [.tmp 6]⟩, ⟨some 46, none, .pur (.ixaA 3 1) [.tmp 8, .const (.int .i64 0)]⟩, ⟨some 47, none, .ld none (.tmp 46)⟩, ⟨some 48, none, .pur (.ixaA 3 1) [.tmp 8, .const (.int .i64 1)]⟩, ⟨some 49, none, .ld none (.tmp 48)⟩, ⟨some 50, none, .pur (.ixaA 3 1) [.tmp 8, .const (.int .i64 2)]⟩, ⟨some 51, none, .ld none (.tmp 50)⟩, ⟨some 52, none, .pur (.bld [.int .i64 0, .int .i64 0, .int .i64 0, .int .i64 0] [(0, 1), (1, 1), (2, 1), (3, 1)]) [.tmp 45, .tmp 47, .tmp 49, .tmp 51]⟩, ⟨some 10, none, .eff (.new 50 [.int .i64 0, .int .i64 0, .int .i64 0, .int .i64 0]) []⟩, ⟨none, none, .eff (.st 4) [.tmp 10, .tmp 52]⟩]) [10])
  (.seq (.seq (.reg (straight [⟨some 53, none, .ld (some 4) (.tmp 10)⟩, ⟨some 54, none, .eff (.call 70) [.tmp 53]⟩, ⟨some 11, none, .pur .mov [.tmp 54]⟩]) [11])
  (.seq (.reg (straight [⟨some 55, none, .pur .mov [.tmp 11]⟩, ⟨some 56, none, .pur (.bin .neq) [.tmp 55, .const (.int .i64 0)]⟩]) [56])
  (.cond (.tmp 56) (.seq (.reg (straight [⟨some 57, none, .ld (some 4) (.tmp 4)⟩, ⟨some 58, none, .pur .mov [.tmp 11]⟩, ⟨none, none, .eff (.st 4) [.tmp 2, .tmp 57]⟩, ⟨some 3, none, .pur .mov [.tmp 58]⟩]) [3])
  (.ret)) (.skip))))
  (.seq (.reg (straight [⟨some 59, none, .ld (some 4) (.tmp 10)⟩, ⟨none, none, .eff (.st 4) [.tmp 2, .tmp 59]⟩, ⟨some 3, none, .pur .mov [.const (.int .i64 0)]⟩]) [3])
  (.ret))))))))))))⟩
theorem K_asm_Parse : compF Tryd.prog 39 = some S_asm_Parse := by kernel_rfl

-- 40
def S_forebayref06_Parse_L1 : SCode :=
  .seq (.seq (.reg (straight [⟨some 28, none, .pur .mov [.tmp 8]⟩, ⟨some 29, none, .pur .mov [.tmp 7]⟩, ⟨some 30, none, .pur (.len false) [.tmp 29]⟩, ⟨some 31, none, .pur (.bin .lss) [.tmp 28, .tmp 30]⟩]) [31])
  (.cond (.tmp 31) (.skip) (.exit 0)))
  (.seq (.block 1 (.seq (.reg (straight [⟨some 34, none, .pur .mov [.tmp 7]⟩, ⟨some 35, none, .pur .mov [.tmp 8]⟩, ⟨some 36, none, .pur (.ixa 1) [.tmp 34, .tmp 35]⟩, ⟨some 37, none, .ld none (.tmp 36)⟩, ⟨some 38, none, .pur .mov [.tmp 5]⟩, ⟨some 39, none, .pur (.ixa 1) [.tmp 38, .const (.int .i64 0)]⟩, ⟨some 40, none, .ld none (.tmp 39)⟩, ⟨some 41, none, .pur (.bin .eql) [.tmp 37, .tmp 40]⟩]) [41])
  (.cond (.tmp 41) (.reg (straight [⟨some 42, none, .pur .mov [.tmp 8]⟩, ⟨some 6, none, .pur .mov [.tmp 42]⟩]) [6]) (.skip))))
  (.reg (straight [⟨some 32, none, .pur .mov [.tmp 8]⟩, ⟨some 33, none, .pur (.bin .add) [.tmp 32, .const (.int .i64 1)]⟩, ⟨some 8, none, .pur .mov [.tmp 33]⟩]) [8]))
def S_forebayref06_Parse_L2 : SCode :=
  .seq (.seq (.reg (straight [⟨some 61, none, .pur .mov [.tmp 11]⟩, ⟨some 62, none, .pur .mov [.tmp 9]⟩, ⟨some 63, none, .pur (.bin .lss) [.tmp 61, .tmp 62]⟩]) [63])
  (.cond (.tmp 63) (.skip) (.exit 2)))
  (.seq (.block 3 (.seq (.reg (straight [⟨some 67, none, .pur .mov [.tmp 5]⟩, ⟨some 68, none, .pur .mov [.tmp 11]⟩, ⟨some 69, none, .pur (.bin .add) [.tmp 68, .const (.int .i64 1)]⟩, ⟨some 70, none, .pur (.ixa 1) [.tmp 67, .tmp 69]⟩, ⟨some 71, none, .ld none (.tmp 70)⟩, ⟨some 72, none, .eff (.call 30) [.tmp 71]⟩, ⟨some 66, none, .pur .mov [.tmp 72]⟩, ⟨some 73, none, .pur (.ext 0) [.tmp 66]⟩, ⟨some 74, none, .pur (.ext 1) [.tmp 66]⟩, ⟨some 12, none, .pur .mov [.tmp 73]⟩, ⟨some 13, none, .pur .mov [.tmp 74]⟩]) [12, 13])
  (.seq (.seq (.reg (straight [⟨some 75, none, .pur .mov [.tmp 13]⟩, ⟨some 76, none, .pur .not [.tmp 75]⟩]) [76])
  (.cond (.tmp 76) (.seq (.reg (straight [⟨some 77, none, .ld (some 4) (.tmp 4)⟩, ⟨none, none, .eff (.st 4) [.tmp 2, .tmp 77]⟩, ⟨some 3, none, .pur .mov [.const (.int .i64 4)]⟩]) [3])
  (.ret)) (.skip)))
  (.reg (straight [⟨some 78, none, .pur .mov [.tmp 11]⟩, ⟨some 79, none, .pur .mov [.tmp 12]⟩, ⟨some 80, none, .pur (.ixaA 3 1) [.tmp 10, .tmp 78]⟩, ⟨none, none, .eff (.st 1) [.tmp 80, .tmp 79]⟩]) []))))
  (.reg (straight [⟨some 64, none, .pur .mov [.tmp 11]⟩, ⟨some 65, none, .pur (.bin .add) [.tmp 64, .const (.int .i64 1)]⟩, ⟨some 11, none, .pur .mov [.tmp 65]⟩]) [11]))
def S_forebayref06_Parse : Fun := ⟨96, [2, 3, 0, 19, 4, 5, 25, 8, 7, 31, 41, 6, 44, 9, 53, 59, 11, 63, 13, 76, 12, 10, 14, 15, 92], [.cell 2 (some 4), .tmp 3],
  .seq (.reg (straight [⟨some 2, none, .eff (.new 50 [.int .i64 0, .int .i64 0, .int .i64 0, .int .i64 0]) []⟩, ⟨some 3, none, .pur .mov [.const (.int .i64 0)]⟩]) [2, 3])
  (.seq (.reg (straight [⟨some 16, none, .pur (.bld [.int .i64 0, .int .i64 0, .int .i64 0, .int .i64 0] []) []⟩, ⟨some 4, none, .eff (.new 50 [.int .i64 0, .int .i64 0, .int .i64 0, .int .i64 0]) []⟩, ⟨none, none, .eff (.st 4) [.tmp 4, .tmp 16]⟩]) [4])
  (.seq (.seq (.reg (straight [⟨some 17, none, .pur .mov [.tmp 0]⟩, ⟨some 18, none, .pur (.len true) [.tmp 17]⟩, ⟨some 19, none, .pur (.bin .gtr) [.tmp 18, .const (.int .i64 400)]⟩]) [19])
  (.cond (.tmp 19) (.seq (.reg (straight [⟨some 20, none, .ld (some 4) (.tmp 4)⟩, ⟨none, none, .eff (.st 4) [.tmp 2, .tmp 20]⟩, ⟨some 3, none, .pur .mov [.const (.int .i64 9)]⟩]) [3])
  (.ret)) (.skip)))
  (.seq (.reg (straight [⟨some 21, none, .pur .mov [.tmp 0]⟩, ⟨some 22, none, .eff (.call 27) [.tmp 21]⟩, ⟨some 5, none, .pur .mov [.tmp 22]⟩]) [5])
  (.seq (.seq (.reg (straight [⟨some 23, none, .pur .mov [.tmp 5]⟩, ⟨some 24, none, .pur (.len false) [.tmp 23]⟩, ⟨some 25, none, .pur (.bin .eql) [.tmp 24, .const (.int .i64 0)]⟩]) [25])
  (.cond (.tmp 25) (.seq (.reg (straight [⟨some 26, none, .ld (some 4) (.tmp 4)⟩, ⟨none, none, .eff (.st 4) [.tmp 2, .tmp 26]⟩, ⟨some 3, none, .pur .mov [.const (.int .i64 7)]⟩]) [3])
  (.ret)) (.skip)))
  (.seq (.reg (straight [⟨some 6, none, .pur .mov [.const (.int .i64 (-1))]⟩]) [6])
  (.seq (.reg (straight [⟨some 27, none, .eff (.call 71) []⟩, ⟨some 7, none, .pur .mov [.tmp 27]⟩]) [7])
  (.seq (.seq (.reg (straight [⟨some 8, none, .pur .mov [.const (.int .i64 0)]⟩]) [8])
  (.block 0 (.loop S_forebayref06_Parse_L1)))
  (.seq (.seq (.reg (straight [⟨some 43, none, .pur .mov [.tmp 6]⟩, ⟨some 44, none, .pur (.bin .lss) [.tmp 43, .const (.int .i64 0)]⟩]) [44])
  (.cond (.tmp 44) (.seq (.reg (straight [⟨some 45, none, .ld (some 4) (.tmp 4)⟩, ⟨none, none, .eff (.st 4) [.tmp 2, .tmp 45]⟩, ⟨some 3, none, .pur .mov [.const (.int .i64 70)]⟩]) [3])
  (.ret)) (.skip)))
  (.seq (.reg (straight [⟨some 46, none, .pur .mov [.tmp 6]⟩, ⟨some 47, none, .eff (.call 72) [.tmp 46]⟩, ⟨some 48, none, .pur (.len true) [.tmp 47]⟩, ⟨some 9, none, .pur .mov [.tmp 48]⟩]) [9])
  (.seq (.seq (.reg (straight [⟨some 49, none, .pur .mov [.tmp 5]⟩, ⟨some 50, none, .pur (.len false) [.tmp 49]⟩, ⟨some 51, none, .pur (.bin .sub) [.tmp 50, .const (.int .i64 1)]⟩, ⟨some 52, none, .pur .mov [.tmp 9]⟩, ⟨some 53, none, .pur (.bin .lss) [.tmp 51, .tmp 52]⟩]) [53])
  (.cond (.tmp 53) (.seq (.reg (straight [⟨some 54, none, .ld (some 4) (.tmp 4)⟩, ⟨none, none, .eff (.st 4) [.tmp 2, .tmp 54]⟩, ⟨some 3, none, .pur .mov [.const (.int .i64 1)]⟩]) [3])
  (.ret)) (.skip)))
  (.seq (.seq (.reg (straight [⟨some 55, none, .pur .mov [.tmp 5]⟩, ⟨some 56, none, .pur (.len false) [.tmp 55]⟩, ⟨some 57, none, .pur (.bin .sub) [.tmp 56, .const (.int .i64 1)]⟩, ⟨some 58, none, .pur .mov [.tmp 9]⟩, ⟨some 59, none, .pur (.bin .gtr) [.tmp 57, .tmp 58]⟩]) [59])
  (.cond (.tmp 59) (.seq (.reg (straight [⟨some 60, none, .ld (some 4) (.tmp 4)⟩, ⟨none, none, .eff (.st 4) [.tmp 2, .tmp 60]⟩, ⟨some 3, none, .pur .mov [.const (.int .i64 2)]⟩]) [3])
  (.ret)) (.skip)))
  (.seq (.reg (straight [⟨some 10, none, .eff (.new 89 [.int .i64 0, .int .i64 0, .int .i64 0]) []⟩]) [10])
  (.seq (.seq (.reg (straight [⟨some 11, none, .pur .mov [.const (.int .i64 0)]⟩]) [11])
  (.block 2 (.loop S_forebayref06_Parse_L2)))
  (.seq (.reg (straight [⟨some 81, none, .pur .mov [.tmp 6]⟩, ⟨some 82, none, .pur (.ixaA 3 1) [.tmp 10, .const (.int .i64 0)]⟩, ⟨some 83, none, .ld none (.tmp 82)⟩, ⟨some 84, none, .pur (.ixaA 3 1) [.tmp 10, .const (.int .i64 1)]⟩, ⟨some 85, none, .ld none (.tmp 84)⟩, ⟨some 86, none, .pur (.ixaA 3 1) [.tmp 10, .const (.int .i64 2)]⟩, ⟨some 87, none, .ld none (.tmp 86)⟩, ⟨some 88, none, .pur (.bld [.int .i64 0, .int .i64 0, .int .i64 0, .int .i64 0] [(0, 1), (1, 1), (2, 1), (3, 1)]) [.tmp 81, .tmp 83, .tmp 85, .tmp 87]⟩, ⟨some 14, none, .eff (.new 50 [.int .i64 0, .int .i64 0, .int .i64 0, .int .i64 0]) []⟩, ⟨none, none, .eff (.st 4) [.tmp 14, .tmp 88]⟩]) [14])
  (.seq (.reg (straight [⟨some 89, none, .ld (some 4) (.tmp 14)⟩, ⟨some 90, none, .eff (.call 73) [.tmp 89]⟩, ⟨some 15, none, .pur .mov [.tmp 90]⟩]) [15])
  (.seq (.seq (.reg (straight [⟨some 91, none, .pur .mov [.tmp 15]⟩, ⟨some 92, none, .pur (.bin .neq) [.tmp 91, .const (.int .i64 0)]⟩]) [92])
  (.cond (.tmp 92) (.seq (.reg (straight [⟨some 93, none, .ld (some 4) (.tmp 4)⟩, ⟨some 94, none, .pur .mov [.tmp 15]⟩, ⟨none, none, .eff (.st 4) [.tmp 2, .tmp 93]⟩, ⟨some 3, none, .pur .mov [.tmp 94]⟩]) [3])
  (.ret)) (.skip)))
  (.seq (.reg (straight [⟨some 95, none, .ld (some 4) (.tmp 14)⟩, ⟨none, none, .eff (.st 4) [.tmp 2, .tmp 95]⟩, ⟨some 3, none, .pur .mov [.const (.int .i64 0)]⟩]) [3])
  (.ret))))))))))))))))))⟩
theorem K_forebayref06_Parse : compF Tryd.prog 40 = some S_forebayref06_Parse := by kernel_rfl

-- 41
def S_asm_Line_L1 : SCode :=
  .seq (.reg (straight [⟨some 27, none, .pur (.bin .lss) [.tmp 26, .tmp 25]⟩]) [27])
  (.seq (.cond (.tmp 27) (.skip) (.exit 0))
  (.seq (.block 1 (.seq (.reg (straight [⟨some 28, none, .pur (.ixa 1) [.tmp 24, .tmp 26]⟩, ⟨some 29, none, .ld none (.tmp 28)⟩, ⟨some 5, none, .pur .mov [.tmp 29]⟩]) [5])
  (.reg (straight [⟨some 30, none, .pur .mov [.tmp 3]⟩, ⟨some 31, none, .pur .mov [.tmp 5]⟩, ⟨some 32, none, .eff (.call 31) [.tmp 31]⟩, ⟨some 33, none, .eff (.bsl 9 1) [.tmp 32]⟩, ⟨some 34, none, .eff (.app 9 1 16 [.string ⟨#[]⟩]) [.tmp 30, .tmp 33]⟩, ⟨some 3, none, .pur .mov [.tmp 34]⟩]) [3])))
  (.reg (straight [⟨some 35, none, .pur (.bin .add) [.tmp 26, .const (.int .i64 1)]⟩, ⟨some 26, none, .pur .mov [.tmp 35]⟩]) [26])))
def S_asm_Line : Fun := ⟨38, [2, 0, 1, 8, 26, 25, 27, 24, 3, 5], [.tmp 2],
  .seq (.reg (straight [⟨some 1, none, .eff (.box 50) [.tmp 0]⟩, ⟨some 2, none, .pur .mov [.const (.string ⟨#[]⟩)]⟩]) [1, 2])
  (.seq (.seq (.reg (straight [⟨some 6, none, .ld (some 4) (.tmp 1)⟩, ⟨some 7, none, .eff (.call 70) [.tmp 6]⟩, ⟨some 8, none, .pur (.bin .neq) [.tmp 7, .const (.int .i64 0)]⟩]) [8])
  (.cond (.tmp 8) (.seq (.reg (straight [⟨some 2, none, .pur .mov [.const (.string ⟨#[]⟩)]⟩]) [2])
  (.ret)) (.skip)))
  (.seq (.reg (straight [⟨some 9, none, .pur (.fla 0) [.tmp 1]⟩, ⟨some 10, none, .ld none (.tmp 9)⟩, ⟨some 11, none, .eff (.call 74) [.tmp 10]⟩, ⟨some 12, none, .eff (.bsl 9 1) [.tmp 11]⟩, ⟨some 3, none, .pur .mov [.tmp 12]⟩]) [3])
  (.seq (.seq (.reg (.run ⟨some 13, none, .pur (.fla 1) [.tmp 1]⟩ (.run ⟨some 14, none, .ld none (.tmp 13)⟩ (.run ⟨some 15, none, .pur (.fla 2) [.tmp 1]⟩ (.run ⟨some 16, none, .ld none (.tmp 15)⟩ (.run ⟨some 17, none, .pur (.fla 3) [.tmp 1]⟩ (.run ⟨some 18, none, .ld none (.tmp 17)⟩ (.run ⟨some 20, none, .pur (.fla 0) [.tmp 1]⟩ (.run ⟨some 21, none, .ld none (.tmp 20)⟩ (.run ⟨some 26, none, .pur .mov [.const (.int .i64 0)]⟩ (.both (.eff ⟨some 19, none, .eff (.bsl 3 1) [.tmp 14, .tmp 16, .tmp 18]⟩ [⟨some 21, none, .ld none (.tmp 20)⟩] (.eff ⟨some 22, none, .eff (.call 69) [.tmp 21]⟩ [] (.run ⟨some 23, none, .pur (.len true) [.tmp 22]⟩ (.run ⟨some 24, none, .pur (.slc 1 false true) [.tmp 19, .tmp 23]⟩ (.run ⟨some 25, none, .pur (.len false) [.tmp 24]⟩ .done))))) (.eff ⟨some 22, none, .eff (.call 69) [.tmp 21]⟩ [⟨some 18, none, .ld none (.tmp 17)⟩, ⟨some 16, none, .ld none (.tmp 15)⟩, ⟨some 14, none, .ld none (.tmp 13)⟩] (.run ⟨some 23, none, .pur (.len true) [.tmp 22]⟩ (.eff ⟨some 19, none, .eff (.bsl 3 1) [.tmp 14, .tmp 16, .tmp 18]⟩ [] (.run ⟨some 24, none, .pur (.slc 1 false true) [.tmp 19, .tmp 23]⟩ (.run ⟨some 25, none, .pur (.len false) [.tmp 24]⟩ .done))))))))))))))) [24, 25, 26])
  (.block 0 (.loop S_asm_Line_L1)))
  (.seq (.reg (straight [⟨some 36, none, .pur .mov [.tmp 3]⟩, ⟨some 37, none, .eff (.call 49) [.tmp 36]⟩, ⟨some 2, none, .pur .mov [.tmp 37]⟩]) [2])
  (.ret)))))⟩
theorem K_asm_Line : compF Tryd.prog 41 = some S_asm_Line := by kernel_rfl

-- 42
def S_forebayref06_Line_L1 : SCode :=
  .seq (.seq (.reg (straight [⟨some 21, none, .pur .mov [.tmp 5]⟩, ⟨some 22, none, .pur (.fla 0) [.tmp 1]⟩, ⟨some 23, none, .ld none (.tmp 22)⟩, ⟨some 24, none, .eff (.call 72) [.tmp 23]⟩, ⟨some 25, none, .pur (.len true) [.tmp 24]⟩, ⟨some 26, none, .pur (.bin .lss) [.tmp 21, .tmp 25]⟩]) [26])
  (.cond (.tmp 26) (.skip) (.exit 0)))
  (.seq (.block 1 (.reg (straight [⟨some 29, none, .pur .mov [.tmp 3]⟩, ⟨some 30, none, .pur (.bin .add) [.tmp 29, .const (.string ⟨#[32]⟩)]⟩, ⟨some 31, none, .pur .mov [.tmp 4]⟩, ⟨some 32, none, .pur .mov [.tmp 5]⟩, ⟨some 33, none, .pur (.ixa 1) [.tmp 31, .tmp 32]⟩, ⟨some 34, none, .ld none (.tmp 33)⟩, ⟨some 35, none, .eff (.call 32) [.tmp 34]⟩, ⟨some 36, none, .pur (.bin .add) [.tmp 30, .tmp 35]⟩, ⟨some 3, none, .pur .mov [.tmp 36]⟩]) [3]))
  (.reg (straight [⟨some 27, none, .pur .mov [.tmp 5]⟩, ⟨some 28, none, .pur (.bin .add) [.tmp 27, .const (.int .i64 1)]⟩, ⟨some 5, none, .pur .mov [.tmp 28]⟩]) [5]))
def S_forebayref06_Line : Fun := ⟨38, [2, 0, 1, 8, 5, 26, 3, 4], [.tmp 2],
  .seq (.reg (straight [⟨some 1, none, .eff (.box 50) [.tmp 0]⟩, ⟨some 2, none, .pur .mov [.const (.string ⟨#[]⟩)]⟩]) [1, 2])
  (.seq (.seq (.reg (straight [⟨some 6, none, .ld (some 4) (.tmp 1)⟩, ⟨some 7, none, .eff (.call 73) [.tmp 6]⟩, ⟨some 8, none, .pur (.bin .neq) [.tmp 7, .const (.int .i64 0)]⟩]) [8])
  (.cond (.tmp 8) (.seq (.reg (straight [⟨some 2, none, .pur .mov [.const (.string ⟨#[]⟩)]⟩]) [2])
  (.ret)) (.skip)))
  (.seq (.reg (.run ⟨some 10, none, .pur (.fla 0) [.tmp 1]⟩ (.run ⟨some 11, none, .ld none (.tmp 10)⟩ (.eff ⟨some 9, none, .eff (.call 71) []⟩ [⟨some 11, none, .ld none (.tmp 10)⟩] (.run ⟨some 12, none, .pur (.ixa 1) [.tmp 9, .tmp 11]⟩ (.run ⟨some 13, none, .ld none (.tmp 12)⟩ (.run ⟨some 3, none, .pur .mov [.tmp 13]⟩ .done)))))) [3])
  (.seq (.reg (straight [⟨some 14, none, .pur (.fla 1) [.tmp 1]⟩, ⟨some 15, none, .ld none (.tmp 14)⟩, ⟨some 16, none, .pur (.fla 2) [.tmp 1]⟩, ⟨some 17, none, .ld none (.tmp 16)⟩, ⟨some 18, none, .pur (.fla 3) [.tmp 1]⟩, ⟨some 19, none, .ld none (.tmp 18)⟩, ⟨some 20, none, .eff (.bsl 3 1) [.tmp 15, .tmp 17, .tmp 19]⟩, ⟨some 4, none, .pur .mov [.tmp 20]⟩]) [4])
  (.seq (.seq (.reg (straight [⟨some 5, none, .pur .mov [.const (.int .i64 0)]⟩]) [5])
  (.block 0 (.loop S_forebayref06_Line_L1)))
  (.seq (.reg (straight [⟨some 37, none, .pur .mov [.tmp 3]⟩, ⟨some 2, none, .pur .mov [.tmp 37]⟩]) [2])
  (.ret))))))⟩
theorem K_forebayref06_Line : compF Tryd.prog 42 = some S_forebayref06_Line := by kernel_rfl

-- 43
def S_asm_Read_L1 : SCode :=
  .seq (.reg (straight [⟨some 41, none, .pur (.bin .lss) [.tmp 40, .tmp 39]⟩]) [41])
  (.seq (.cond (.tmp 41) (.skip) (.exit 0))
  (.seq (.block 1 (.seq (.reg (straight [⟨some 42, none, .pur (.ixa 1) [.tmp 38, .tmp 40]⟩, ⟨some 43, none, .ld none (.tmp 42)⟩, ⟨some 10, none, .pur .mov [.tmp 43]⟩]) [10])
  (.seq (.reg (straight [⟨some 44, none, .pur .mov [.tmp 10]⟩, ⟨some 45, none, .eff (.call 77) [.tmp 4, .tmp 44]⟩, ⟨some 11, none, .pur .mov [.tmp 45]⟩]) [11])
  (.seq (.reg (straight [⟨some 46, none, .pur .mov [.tmp 11]⟩, ⟨some 47, none, .pur (.bin .neq) [.tmp 46, .const (.int .i64 0)]⟩]) [47])
  (.cond (.tmp 47) (.seq (.reg (straight [⟨some 48, none, .ld (some 2) (.tmp 5)⟩, ⟨some 49, none, .pur .mov [.tmp 11]⟩, ⟨none, none, .eff (.st 2) [.tmp 2, .tmp 48]⟩, ⟨some 3, none, .pur .mov [.tmp 49]⟩]) [3])
  (.ret)) (.skip))))))
  (.reg (straight [⟨some 50, none, .pur (.bin .add) [.tmp 40, .const (.int .i64 1)]⟩, ⟨some 40, none, .pur .mov [.tmp 50]⟩]) [40])))
def S_asm_Read : Fun := ⟨58, [2, 3, 0, 15, 5, 6, 21, 8, 32, 7, 4, 40, 39, 41, 38, 10, 11, 47, 12, 54], [.cell 2 (some 2), .tmp 3],
  .seq (.reg (straight [⟨some 2, none, .eff (.new 57 [.int .i64 0, .slice none 0 0]) []⟩, ⟨some 3, none, .pur .mov [.const (.int .i64 0)]⟩]) [2, 3])
  (.seq (.reg (straight [⟨some 4, none, .eff (.new 57 [.int .i64 0, .slice none 0 0]) []⟩, ⟨some 5, none, .eff (.new 57 [.int .i64 0, .slice none 0 0]) []⟩]) [4, 5])
  (.seq (.seq (.reg (straight [⟨some 13, none, .pur .mov [.tmp 0]⟩, ⟨some 14, none, .pur (.len true) [.tmp 13]⟩, ⟨some 15, none, .pur (.bin .gtr) [.tmp 14, .const (.int .i64 60000)]⟩]) [15])
  (.cond (.tmp 15) (.seq (.reg (straight [⟨some 16, none, .ld (some 2) (.tmp 5)⟩, ⟨none, none, .eff (.st 2) [.tmp 2, .tmp 16]⟩, ⟨some 3, none, .pur .mov [.const (.int .i64 9)]⟩]) [3])
  (.ret)) (.skip)))
  (.seq (.reg (straight [⟨some 17, none, .pur .mov [.tmp 0]⟩, ⟨some 18, none, .eff (.call 75) [.tmp 17]⟩, ⟨some 6, none, .pur .mov [.tmp 18]⟩]) [6])
  (.seq (.seq (.reg (straight [⟨some 19, none, .pur .mov [.tmp 6]⟩, ⟨some 20, none, .pur (.len false) [.tmp 19]⟩, ⟨some 21, none, .pur (.bin .eql) [.tmp 20, .const (.int .i64 0)]⟩]) [21])
  (.cond (.tmp 21) (.seq (.reg (straight [⟨some 22, none, .ld (some 2) (.tmp 5)⟩, ⟨none, none, .eff (.st 2) [.tmp 2, .tmp 22]⟩, ⟨some 3, none, .pur .mov [.const (.int .i64 4)]⟩]) [3])
  (.ret)) (.skip)))
  (.seq (.reg (straight [⟨some 24, none, .pur .mov [.tmp 6]⟩, ⟨some 25, none, .pur (.ixa 1) [.tmp 24, .const (.int .i64 0)]⟩, ⟨some 26, none, .ld none (.tmp 25)⟩, ⟨some 27, none, .eff (.call 47) [.tmp 26]⟩, ⟨some 28, none, .eff (.call 76) [.tmp 27]⟩, ⟨some 23, none, .pur .mov [.tmp 28]⟩, ⟨some 29, none, .pur (.ext 0) [.tmp 23]⟩, ⟨some 30, none, .pur (.ext 1) [.tmp 23]⟩, ⟨some 7, none, .pur .mov [.tmp 29]⟩, ⟨some 8, none, .pur .mov [.tmp 30]⟩]) [7, 8])
  (.seq (.seq (.reg (straight [⟨some 31, none, .pur .mov [.tmp 8]⟩, ⟨some 32, none, .pur (.bin .neq) [.tmp 31, .const (.int .i64 0)]⟩]) [32])
  (.cond (.tmp 32) (.seq (.reg (straight [⟨some 33, none, .ld (some 2) (.tmp 5)⟩, ⟨some 34, none, .pur .mov [.tmp 8]⟩, ⟨none, none, .eff (.st 2) [.tmp 2, .tmp 33]⟩, ⟨some 3, none, .pur .mov [.tmp 34]⟩]) [3])
  (.ret)) (.skip)))
  (.seq (.reg (straight [⟨some 35, none, .pur .mov [.tmp 7]⟩, ⟨some 36, none, .pur (.fla 0) [.tmp 4]⟩, ⟨none, none, .eff (.st 1) [.tmp 36, .tmp 35]⟩]) [])
  (.seq (.seq (.reg (straight [⟨some 37, none, .pur .mov [.tmp 6]⟩, ⟨some 38, none, .pur (.slc 1 true false) [.tmp 37, .const (.int .i64 1)]⟩, ⟨some 39, none, .pur (.len false) [.tmp 38]⟩, ⟨some 40, none, .pur .mov [.const (.int .i64 0)]⟩]) [38, 39, 40])
  (.block 0 (.loop S_asm_Read_L1)))
  (.seq (.seq (.reg (straight [⟨some 51, none, .ld (some 2) (.tmp 4)⟩, ⟨some 52, none, .eff (.call 78) [.tmp 51]⟩, ⟨some 12, none, .pur .mov [.tmp 52]⟩]) [12])
  (.seq (.reg (straight [⟨some 53, none, .pur .mov [.tmp 12]⟩, ⟨some 54, none, .pur (.bin .neq) [.tmp 53, .const (.int .i64 0)]⟩]) [54])
  (.cond (.tmp 54) (.seq (.reg (straight [⟨some 55, none, .ld (some 2) (.tmp 5)⟩, ⟨some 56, none, .pur .mov [.tmp 12]⟩, ⟨none, none, .eff (.st 2) [.tmp 2, .tmp 55]⟩, ⟨some 3, none, .pur .mov [.tmp 56]⟩]) [3])
  (.ret)) (.skip))))
  (.seq (.reg (straight [⟨some 57, none, .ld (some 2) (.tmp 4)⟩, ⟨none, none, .eff (.st 2) [.tmp 2, .tmp 57]⟩, ⟨some 3, none, .pur .mov [.const (.int .i64 0)]⟩]) [3])
  (.ret)))))))))))⟩
theorem K_asm_Read : compF Tryd.prog 43 = some S_asm_Read := by kernel_rfl

-- 44
def S_forebayref06_Read_L1 : SCode :=
  .seq (.seq (.reg (straight [⟨some 24, none, .pur .mov [.tmp 8]⟩, ⟨some 25, none, .pur .mov [.tmp 5]⟩, ⟨some 26, none, .pur (.len false) [.tmp 25]⟩, ⟨some 27, none, .pur (.bin .lss) [.tmp 24, .tmp 26]⟩]) [27])
  (.cond (.tmp 27) (.skip) (.exit 0)))
  (.seq (.block 1 (.seq (.reg (straight [⟨some 30, none, .pur .mov [.tmp 5]⟩, ⟨some 31, none, .pur .mov [.tmp 8]⟩, ⟨some 32, none, .pur (.ixa 1) [.tmp 30, .tmp 31]⟩, ⟨some 33, none, .ld none (.tmp 32)⟩, ⟨some 34, none, .eff (.call 27) [.tmp 33]⟩, ⟨some 9, none, .pur .mov [.tmp 34]⟩]) [9])
  (.seq (.seq (.reg (straight [⟨some 35, none, .pur .mov [.tmp 9]⟩, ⟨some 36, none, .pur (.len false) [.tmp 35]⟩, ⟨some 37, none, .pur (.bin .eql) [.tmp 36, .const (.int .i64 0)]⟩]) [37])
  (.cond (.tmp 37) (.exit 1) (.skip)))
  (.seq (.seq (.reg (straight [⟨some 38, none, .pur .mov [.tmp 7]⟩, ⟨some 39, none, .pur .not [.tmp 38]⟩]) [39])
  (.cond (.tmp 39) (.seq (.seq (.reg (straight [⟨some 40, none, .pur .mov [.tmp 9]⟩, ⟨some 41, none, .pur (.len false) [.tmp 40]⟩, ⟨some 42, none, .pur (.bin .neq) [.tmp 41, .const (.int .i64 2)]⟩, ⟨some 43, none, .pur .mov [.tmp 42]⟩, ⟨some 44, some (43, false), .pur .mov [.tmp 9]⟩, ⟨some 45, some (43, false), .pur (.ixa 1) [.tmp 44, .const (.int .i64 0)]⟩, ⟨some 46, some (43, false), .ld none (.tmp 45)⟩, ⟨some 47, some (43, false), .pur (.bin .neq) [.tmp 46, .const (.string ⟨#[109, 101, 109, 111, 114, 121]⟩)]⟩, ⟨some 48, none, .pur .pick [.tmp 43, .const (.bool true), .tmp 47]⟩]) [48])
  (.cond (.tmp 48) (.seq (.reg (straight [⟨some 49, none, .ld (some 2) (.tmp 4)⟩, ⟨none, none, .eff (.st 2) [.tmp 2, .tmp 49]⟩, ⟨some 3, none, .pur .mov [.const (.int .i64 4)]⟩]) [3])
  (.ret)) (.skip)))
  (.seq (.reg (straight [⟨some 51, none, .pur .mov [.tmp 9]⟩, ⟨some 52, none, .pur (.ixa 1) [.tmp 51, .const (.int .i64 1)]⟩, ⟨some 53, none, .ld none (.tmp 52)⟩, ⟨some 54, none, .eff (.call 30) [.tmp 53]⟩, ⟨some 50, none, .pur .mov [.tmp 54]⟩, ⟨some 55, none, .pur (.ext 0) [.tmp 50]⟩, ⟨some 56, none, .pur (.ext 1) [.tmp 50]⟩, ⟨some 10, none, .pur .mov [.tmp 55]⟩, ⟨some 11, none, .pur .mov [.tmp 56]⟩]) [10, 11])
  (.seq (.seq (.reg (straight [⟨some 57, none, .pur .mov [.tmp 11]⟩, ⟨some 58, none, .pur .not [.tmp 57]⟩]) [58])
  (.cond (.tmp 58) (.seq (.reg (straight [⟨some 59, none, .ld (some 2) (.tmp 4)⟩, ⟨none, none, .eff (.st 2) [.tmp 2, .tmp 59]⟩, ⟨some 3, none, .pur .mov [.const (.int .i64 4)]⟩]) [3])
  (.ret)) (.skip)))
  (.seq (.reg (straight [⟨some 60, none, .pur .mov [.tmp 10]⟩, ⟨some 61, none, .pur (.fla 0) [.tmp 6]⟩, ⟨none, none, .eff (.st 1) [.tmp 61, .tmp 60]⟩]) [])
  (.seq (.reg (straight [⟨some 7, none, .pur .mov [.const (.bool true)]⟩]) [7])
  (.exit 1)))))) (.skip)))
  (.seq (.seq (.reg (straight [⟨some 62, none, .pur .mov [.tmp 9]⟩, ⟨some 63, none, .pur (.len false) [.tmp 62]⟩, ⟨some 64, none, .pur (.bin .eql) [.tmp 63, .const (.int .i64 1)]⟩, ⟨some 65, none, .pur .mov [.tmp 64]⟩, ⟨some 66, some (65, true), .pur .mov [.tmp 9]⟩, ⟨some 67, some (65, true), .pur (.ixa 1) [.tmp 66, .const (.int .i64 0)]⟩, ⟨some 68, some (65, true), .ld none (.tmp 67)⟩, ⟨some 69, some (65, true), .pur (.bin .eql) [.tmp 68, .const (.string ⟨#[102, 117, 110, 99, 116, 105, 111, 110]⟩)]⟩, ⟨some 70, none, .pur .pick [.tmp 65, .tmp 69, .const (.bool false)]⟩]) [70])
  (.cond (.tmp 70) (.seq (.reg (straight [⟨some 71, none, .pur (.fla 1) [.tmp 6]⟩, ⟨some 72, none, .ld none (.tmp 71)⟩, ⟨some 73, none, .eff (.bsl 70 1) [.const (.slice none 0 0)]⟩, ⟨some 74, none, .eff (.app 70 1 24 [.slice none 0 0]) [.tmp 72, .tmp 73]⟩, ⟨some 75, none, .pur (.fla 1) [.tmp 6]⟩, ⟨none, none, .eff (.st 1) [.tmp 75, .tmp 74]⟩]) [])
  (.exit 1)) (.skip)))
  (.seq (.reg (straight [⟨some 77, none, .pur .mov [.tmp 5]⟩, ⟨some 78, none, .pur .mov [.tmp 8]⟩, ⟨some 79, none, .pur (.ixa 1) [.tmp 77, .tmp 78]⟩, ⟨some 80, none, .ld none (.tmp 79)⟩, ⟨some 81, none, .eff (.call 40) [.tmp 80]⟩, ⟨some 76, none, .pur .mov [.tmp 81]⟩, ⟨some 82, none, .pur (.ext 0) [.tmp 76]⟩, ⟨some 83, none, .pur (.ext 1) [.tmp 76]⟩, ⟨some 12, none, .eff (.new 50 [.int .i64 0, .int .i64 0, .int .i64 0, .int .i64 0]) []⟩, ⟨none, none, .eff (.st 4) [.tmp 12, .tmp 82]⟩, ⟨some 13, none, .pur .mov [.tmp 83]⟩]) [12, 13])
  (.seq (.seq (.reg (straight [⟨some 84, none, .pur .mov [.tmp 13]⟩, ⟨some 85, none, .pur (.bin .neq) [.tmp 84, .const (.int .i64 0)]⟩]) [85])
  (.cond (.tmp 85) (.seq (.reg (straight [⟨some 86, none, .ld (some 2) (.tmp 4)⟩, ⟨some 87, none, .pur .mov [.tmp 13]⟩, ⟨none, none, .eff (.st 2) [.tmp 2, .tmp 86]⟩, ⟨some 3, none, .pur .mov [.tmp 87]⟩]) [3])
  (.ret)) (.skip)))
  (.seq (.seq (.reg (straight [⟨some 88, none, .pur (.fla 1) [.tmp 6]⟩, ⟨some 89, none, .ld none (.tmp 88)⟩, ⟨some 90, none, .pur (.len false) [.tmp 89]⟩, ⟨some 91, none, .pur (.bin .eql) [.tmp 90, .const (.int .i64 0)]⟩]) [91])
  (.cond (.tmp 91) (.seq (.reg (straight [⟨some 92, none, .ld (some 2) (.tmp 4)⟩, ⟨none, none, .eff (.st 2) [.tmp 2, .tmp 92]⟩, ⟨some 3, none, .pur .mov [.const (.int .i64 8)]⟩]) [3])
  (.ret)) (.skip)))
  (.seq (.reg (straight [⟨some 93, none, .pur (.fla 1) [.tmp 6]⟩, ⟨some 94, none, .ld none (.tmp 93)⟩, ⟨some 95, none, .pur (.len false) [.tmp 94]⟩, ⟨some 96, none, .pur (.bin .sub) [.tmp 95, .const (.int .i64 1)]⟩, ⟨some 14, none, .pur .mov [.tmp 96]⟩]) [14])
  (.reg (.run ⟨some 97, none, .pur (.fla 1) [.tmp 6]⟩ (.run ⟨some 98, none, .ld none (.tmp 97)⟩ (.run ⟨some 99, none, .pur .mov [.tmp 14]⟩ (.run ⟨some 101, none, .pur (.fla 1) [.tmp 6]⟩ (.run ⟨some 102, none, .ld none (.tmp 101)⟩ (.run ⟨some 103, none, .pur .mov [.tmp 14]⟩ (.run ⟨some 104, none, .pur (.ixa 1) [.tmp 102, .tmp 103]⟩ (.run ⟨some 105, none, .ld none (.tmp 104)⟩ (.run ⟨some 107, none, .ld (some 4) (.tmp 12)⟩ (.both (.eff ⟨some 100, none, .eff (.bsl 50 4) []⟩ [⟨some 107, none, .ld (some 4) (.tmp 12)⟩, ⟨some 105, none, .ld none (.tmp 104)⟩, ⟨some 102, none, .ld none (.tmp 101)⟩, ⟨some 98, none, .ld none (.tmp 97)⟩] (.both (.eff ⟨some 106, none, .eff (.app 50 4 32 [.int .i64 0, .int .i64 0, .int .i64 0, .int .i64 0]) [.tmp 100, .tmp 105]⟩ [⟨some 107, none, .ld (some 4) (.tmp 12)⟩, ⟨some 98, none, .ld none (.tmp 97)⟩] (.eff ⟨some 108, none, .eff (.bsl 50 4) [.tmp 107]⟩ [⟨some 98, none, .ld none (.tmp 97)⟩] (.eff ⟨some 109, none, .eff (.app 50 4 32 [.int .i64 0, .int .i64 0, .int .i64 0, .int .i64 0]) [.tmp 106, .tmp 108]⟩ [⟨some 98, none, .ld none (.tmp 97)⟩] (.run ⟨some 110, none, .pur (.ixa 1) [.tmp 98, .tmp 99]⟩ (.eff ⟨none, none, .eff (.st 1) [.tmp 110, .tmp 109]⟩ [] .done))))) (.eff ⟨some 108, none, .eff (.bsl 50 4) [.tmp 107]⟩ [⟨some 105, none, .ld none (.tmp 104)⟩, ⟨some 102, none, .ld none (.tmp 101)⟩, ⟨some 98, none, .ld none (.tmp 97)⟩] (.eff ⟨some 106, none, .eff (.app 50 4 32 [.int .i64 0, .int .i64 0, .int .i64 0, .int .i64 0]) [.tmp 100, .tmp 105]⟩ [⟨some 98, none, .ld none (.tmp 97)⟩] (.eff ⟨some 109, none, .eff (.app 50 4 32 [.int .i64 0, .int .i64 0, .int .i64 0, .int .i64 0]) [.tmp 106, .tmp 108]⟩ [⟨some 98, none, .ld none (.tmp 97)⟩] (.run ⟨some 110, none, .pur (.ixa 1) [.tmp 98, .tmp 99]⟩ (.eff ⟨none, none, .eff (.st 1) [.tmp 110, .tmp 109]⟩ [] .done))))))) (.eff ⟨some 108, none, .eff (.bsl 50 4) [.tmp 107]⟩ [⟨some 105, none, .ld none (.tmp 104)⟩, ⟨some 102, none, .ld none (.tmp 101)⟩, ⟨some 98, none, .ld none (.tmp 97)⟩] (.eff ⟨some 100, none, .eff (.bsl 50 4) []⟩ [⟨some 105, none, .ld none (.tmp 104)⟩, ⟨some 102, none, .ld none (.tmp 101)⟩, ⟨some 98, none, .ld none (.tmp 97)⟩] (.eff ⟨some 106, none, .eff (.app 50 4 32 [.int .i64 0, .int .i64 0, .int .i64 0, .int .i64 0]) [.tmp 100, .tmp 105]⟩ [⟨some 98, none, .ld none (.tmp 97)⟩] (.eff ⟨some 109, none, .eff (.app 50 4 32 [.int .i64 0, .int .i64 0, .int .i64 0, .int .i64 0]) [.tmp 106, .tmp 108]⟩ [⟨some 98, none, .ld none (.tmp 97)⟩] (.run ⟨some 110, none, .pur (.ixa 1) [.tmp 98, .tmp 99]⟩ (.eff ⟨none, none, .eff (.st 1) [.tmp 110, .tmp 109]⟩ [] .done)))))))))))))))) []))))))))))
  (.reg (straight [⟨some 28, none, .pur .mov [.tmp 8]⟩, ⟨some 29, none, .pur (.bin .add) [.tmp 28, .const (.int .i64 1)]⟩, ⟨some 8, none, .pur .mov [.tmp 29]⟩]) [8]))
def S_forebayref06_Read : Fun := ⟨121, [2, 3, 0, 19, 4, 8, 5, 27, 9, 37, 7, 39, 48, 11, 58, 10, 6, 70, 13, 85, 91, 14, 12, 112, 15, 117], [.cell 2 (some 2), .tmp 3],
  .seq (.reg (straight [⟨some 2, none, .eff (.new 57 [.int .i64 0, .slice none 0 0]) []⟩, ⟨some 3, none, .pur .mov [.const (.int .i64 0)]⟩]) [2, 3])
  (.seq (.reg (straight [⟨some 16, none, .pur (.bld [.int .i64 0, .slice none 0 0] []) []⟩, ⟨some 4, none, .eff (.new 57 [.int .i64 0, .slice none 0 0]) []⟩, ⟨none, none, .eff (.st 2) [.tmp 4, .tmp 16]⟩]) [4])
  (.seq (.seq (.reg (straight [⟨some 17, none, .pur .mov [.tmp 0]⟩, ⟨some 18, none, .pur (.len true) [.tmp 17]⟩, ⟨some 19, none, .pur (.bin .gtr) [.tmp 18, .const (.int .i64 60000)]⟩]) [19])
  (.cond (.tmp 19) (.seq (.reg (straight [⟨some 20, none, .ld (some 2) (.tmp 4)⟩, ⟨none, none, .eff (.st 2) [.tmp 2, .tmp 20]⟩, ⟨some 3, none, .pur .mov [.const (.int .i64 9)]⟩]) [3])
  (.ret)) (.skip)))
  (.seq (.reg (straight [⟨some 21, none, .pur .mov [.tmp 0]⟩, ⟨some 22, none, .eff (.call 26) [.tmp 21]⟩, ⟨some 5, none, .pur .mov [.tmp 22]⟩]) [5])
  (.seq (.reg (straight [⟨some 23, none, .pur (.bld [.int .i64 0, .slice none 0 0] []) []⟩, ⟨some 6, none, .eff (.new 57 [.int .i64 0, .slice none 0 0]) []⟩, ⟨none, none, .eff (.st 2) [.tmp 6, .tmp 23]⟩]) [6])
  (.seq (.reg (straight [⟨some 7, none, .pur .mov [.const (.bool false)]⟩]) [7])
  (.seq (.seq (.reg (straight [⟨some 8, none, .pur .mov [.const (.int .i64 0)]⟩]) [8])
  (.block 0 (.loop S_forebayref06_Read_L1)))
  (.seq (.seq (.reg (straight [⟨some 111, none, .pur .mov [.tmp 7]⟩, ⟨some 112, none, .pur .not [.tmp 111]⟩]) [112])
  (.cond (.tmp 112) (.seq (.reg (straight [⟨some 113, none, .ld (some 2) (.tmp 4)⟩, ⟨none, none, .eff (.st 2) [.tmp 2, .tmp 113]⟩, ⟨some 3, none, .pur .mov [.const (.int .i64 4)]⟩]) [3])
  (.ret)) (.skip)))
  (.seq (.reg (straight [⟨some 114, none, .ld (some 2) (.tmp 6)⟩, ⟨some 115, none, .eff (.call 79) [.tmp 114]⟩, ⟨some 15, none, .pur .mov [.tmp 115]⟩]) [15])
  (.seq (.seq (.reg (straight [⟨some 116, none, .pur .mov [.tmp 15]⟩, ⟨some 117, none, .pur (.bin .neq) [.tmp 116, .const (.int .i64 0)]⟩]) [117])
  (.cond (.tmp 117) (.seq (.reg (straight [⟨some 118, none, .ld (some 2) (.tmp 4)⟩, ⟨some 119, none, .pur .mov [.tmp 15]⟩, ⟨none, none, .eff (.st 2) [.tmp 2, .tmp 118]⟩, ⟨some 3, none, .pur .mov [.tmp 119]⟩]) [3])
  (.ret)) (.skip)))
  (.seq (.reg (straight [⟨some 120, none, .ld (some 2) (.tmp 6)⟩, ⟨none, none, .eff (.st 2) [.tmp 2, .tmp 120]⟩, ⟨some 3, none, .pur .mov [.const (.int .i64 0)]⟩]) [3])
  (.ret)))))))))))⟩
theorem K_forebayref06_Read : compF Tryd.prog 44 = some S_forebayref06_Read := by kernel_rfl

-- 52
def S_asm_Text : Fun := ⟨16, [2, 3, 0, 1, 4, 9, 5], [.tmp 2, .tmp 3],
  .seq (.reg (straight [⟨some 1, none, .eff (.box 57) [.tmp 0]⟩, ⟨some 2, none, .pur .mov [.const (.string ⟨#[]⟩)]⟩, ⟨some 3, none, .pur .mov [.const (.int .i64 0)]⟩]) [1, 2, 3])
  (.seq (.seq (.reg (straight [⟨some 6, none, .ld (some 2) (.tmp 1)⟩, ⟨some 7, none, .eff (.call 78) [.tmp 6]⟩, ⟨some 4, none, .pur .mov [.tmp 7]⟩]) [4])
  (.seq (.reg (straight [⟨some 8, none, .pur .mov [.tmp 4]⟩, ⟨some 9, none, .pur (.bin .neq) [.tmp 8, .const (.int .i64 0)]⟩]) [9])
  (.cond (.tmp 9) (.seq (.reg (straight [⟨some 10, none, .pur .mov [.tmp 4]⟩, ⟨some 2, none, .pur .mov [.const (.string ⟨#[]⟩)]⟩, ⟨some 3, none, .pur .mov [.tmp 10]⟩]) [2, 3])
  (.ret)) (.skip))))
  (.seq (.reg (straight [⟨some 5, none, .eff (.new 72 [.slice none 0 0]) []⟩]) [5])
  (.seq (.reg (straight [⟨some 11, none, .ld (some 2) (.tmp 1)⟩, ⟨some 12, none, .pur (.mkf (.func 82) 0) [.tmp 5]⟩, ⟨some 13, none, .eff (.call 81) [.tmp 11, .tmp 12]⟩]) [])
  (.seq (.reg (straight [⟨some 14, none, .ld none (.tmp 5)⟩, ⟨some 15, none, .eff .b2s [.tmp 14]⟩, ⟨some 2, none, .pur .mov [.tmp 15]⟩, ⟨some 3, none, .pur .mov [.const (.int .i64 0)]⟩]) [2, 3])
  (.ret)))))⟩
theorem K_asm_Text : compF Tryd.prog 52 = some S_asm_Text := by kernel_rfl

-- 54
def S_forebayref06_Text_L2 : SCode :=
  .seq (.seq (.reg (straight [⟨some 27, none, .pur .mov [.tmp 7]⟩, ⟨some 28, none, .pur (.fla 1) [.tmp 1]⟩, ⟨some 29, none, .ld none (.tmp 28)⟩, ⟨some 30, none, .pur .mov [.tmp 6]⟩, ⟨some 31, none, .pur (.ixa 1) [.tmp 29, .tmp 30]⟩, ⟨some 32, none, .ld none (.tmp 31)⟩, ⟨some 33, none, .pur (.len false) [.tmp 32]⟩, ⟨some 34, none, .pur (.bin .lss) [.tmp 27, .tmp 33]⟩]) [34])
  (.cond (.tmp 34) (.skip) (.exit 2)))
  (.seq (.block 3 (.reg (straight [⟨some 37, none, .pur .mov [.tmp 5]⟩, ⟨some 38, none, .pur (.fla 1) [.tmp 1]⟩, ⟨some 39, none, .ld none (.tmp 38)⟩, ⟨some 40, none, .pur .mov [.tmp 6]⟩, ⟨some 41, none, .pur (.ixa 1) [.tmp 39, .tmp 40]⟩, ⟨some 42, none, .ld none (.tmp 41)⟩, ⟨some 43, none, .pur .mov [.tmp 7]⟩, ⟨some 44, none, .pur (.ixa 4) [.tmp 42, .tmp 43]⟩, ⟨some 45, none, .ld (some 4) (.tmp 44)⟩, ⟨some 46, none, .eff (.call 42) [.tmp 45]⟩, ⟨some 47, none, .pur (.bin .add) [.tmp 37, .tmp 46]⟩, ⟨some 48, none, .pur (.bin .add) [.tmp 47, .const (.string ⟨#[10]⟩)]⟩, ⟨some 5, none, .pur .mov [.tmp 48]⟩]) [5]))
  (.reg (straight [⟨some 35, none, .pur .mov [.tmp 7]⟩, ⟨some 36, none, .pur (.bin .add) [.tmp 35, .const (.int .i64 1)]⟩, ⟨some 7, none, .pur .mov [.tmp 36]⟩]) [7]))
def S_forebayref06_Text_L1 : SCode :=
  .seq (.seq (.reg (straight [⟨some 18, none, .pur .mov [.tmp 6]⟩, ⟨some 19, none, .pur (.fla 1) [.tmp 1]⟩, ⟨some 20, none, .ld none (.tmp 19)⟩, ⟨some 21, none, .pur (.len false) [.tmp 20]⟩, ⟨some 22, none, .pur (.bin .lss) [.tmp 18, .tmp 21]⟩]) [22])
  (.cond (.tmp 22) (.skip) (.exit 0)))
  (.seq (.block 1 (.seq (.reg (straight [⟨some 25, none, .pur .mov [.tmp 5]⟩, ⟨some 26, none, .pur (.bin .add) [.tmp 25, .const (.string ⟨#[102, 117, 110, 99, 116, 105, 111, 110, 10]⟩)]⟩, ⟨some 5, none, .pur .mov [.tmp 26]⟩]) [5])
  (.seq (.reg (straight [⟨some 7, none, .pur .mov [.const (.int .i64 0)]⟩]) [7])
  (.block 2 (.loop S_forebayref06_Text_L2)))))
  (.reg (straight [⟨some 23, none, .pur .mov [.tmp 6]⟩, ⟨some 24, none, .pur (.bin .add) [.tmp 23, .const (.int .i64 1)]⟩, ⟨some 6, none, .pur .mov [.tmp 24]⟩]) [6]))
def S_forebayref06_Text : Fun := ⟨50, [2, 3, 0, 1, 4, 11, 6, 22, 5, 7, 34], [.tmp 2, .tmp 3],
  .seq (.reg (straight [⟨some 1, none, .eff (.box 57) [.tmp 0]⟩, ⟨some 2, none, .pur .mov [.const (.string ⟨#[]⟩)]⟩, ⟨some 3, none, .pur .mov [.const (.int .i64 0)]⟩]) [1, 2, 3])
  (.seq (.reg (straight [⟨some 8, none, .ld (some 2) (.tmp 1)⟩, ⟨some 9, none, .eff (.call 79) [.tmp 8]⟩, ⟨some 4, none, .pur .mov [.tmp 9]⟩]) [4])
  (.seq (.seq (.reg (straight [⟨some 10, none, .pur .mov [.tmp 4]⟩, ⟨some 11, none, .pur (.bin .neq) [.tmp 10, .const (.int .i64 0)]⟩]) [11])
  (.cond (.tmp 11) (.seq (.reg (straight [⟨some 12, none, .pur .mov [.tmp 4]⟩, ⟨some 2, none, .pur .mov [.const (.string ⟨#[]⟩)]⟩, ⟨some 3, none, .pur .mov [.tmp 12]⟩]) [2, 3])
  (.ret)) (.skip)))
  (.seq (.reg (straight [⟨some 13, none, .pur (.fla 0) [.tmp 1]⟩, ⟨some 14, none, .ld none (.tmp 13)⟩, ⟨some 15, none, .eff (.call 32) [.tmp 14]⟩, ⟨some 16, none, .pur (.bin .add) [.const (.string ⟨#[109, 101, 109, 111, 114, 121, 32]⟩), .tmp 15]⟩, ⟨some 17, none, .pur (.bin .add) [.tmp 16, .const (.string ⟨#[10]⟩)]⟩, ⟨some 5, none, .pur .mov [.tmp 17]⟩]) [5])
  (.seq (.seq (.reg (straight [⟨some 6, none, .pur .mov [.const (.int .i64 0)]⟩]) [6])
  (.block 0 (.loop S_forebayref06_Text_L1)))
  (.seq (.reg (straight [⟨some 49, none, .pur .mov [.tmp 5]⟩, ⟨some 2, none, .pur .mov [.tmp 49]⟩, ⟨some 3, none, .pur .mov [.const (.int .i64 0)]⟩]) [2, 3])
  (.ret))))))⟩
theorem K_forebayref06_Text : compF Tryd.prog 54 = some S_forebayref06_Text := by kernel_rfl

-- 67
def S_ins_Of_L1 : SCode :=
  .seq (.reg (straight [⟨some 6, none, .pur (.bin .lss) [.tmp 5, .const (.int .i64 26)]⟩]) [6])
  (.seq (.cond (.tmp 6) (.skip) (.exit 0))
  (.seq (.block 1 (.seq (.reg (straight [⟨some 7, none, .pur .mov [.tmp 5]⟩, ⟨some 4, none, .pur .mov [.tmp 7]⟩]) [4])
  (.seq (.reg (straight [⟨some 8, none, .pur .mov [.tmp 4]⟩, ⟨some 9, none, .eff (.call 74) [.tmp 8]⟩, ⟨some 10, none, .pur .mov [.tmp 0]⟩, ⟨some 11, none, .pur (.bin .eql) [.tmp 9, .tmp 10]⟩]) [11])
  (.cond (.tmp 11) (.seq (.reg (straight [⟨some 12, none, .pur .mov [.tmp 4]⟩, ⟨some 2, none, .pur .mov [.tmp 12]⟩, ⟨some 3, none, .pur .mov [.const (.bool true)]⟩]) [2, 3])
  (.ret)) (.skip)))))
  (.reg (straight [⟨some 13, none, .pur (.bin .add) [.tmp 5, .const (.int .i64 1)]⟩, ⟨some 5, none, .pur .mov [.tmp 13]⟩]) [5])))
def S_ins_Of : Fun := ⟨14, [2, 3, 5, 6, 4, 0, 11], [.tmp 2, .tmp 3],
  .seq (.reg (straight [⟨some 2, none, .pur .mov [.const (.int .i64 0)]⟩, ⟨some 3, none, .pur .mov [.const (.bool false)]⟩]) [2, 3])
  (.seq (.seq (.reg (straight [⟨some 5, none, .pur .mov [.const (.int .i64 0)]⟩]) [5])
  (.block 0 (.loop S_ins_Of_L1)))
  (.seq (.reg (straight [⟨some 2, none, .pur .mov [.const (.int .i64 0)]⟩, ⟨some 3, none, .pur .mov [.const (.bool false)]⟩]) [2, 3])
  (.ret)))⟩
theorem K_ins_Of : compF Tryd.prog 67 = some S_ins_Of := by kernel_rfl

-- 68
def S_asm_operands_L1 : SCode :=
  .seq (.reg (straight [⟨some 26, none, .pur (.bin .lss) [.tmp 25, .tmp 24]⟩]) [26])
  (.seq (.cond (.tmp 26) (.skip) (.exit 1))
  (.seq (.block 2 (.seq (.reg (straight [⟨some 27, none, .pur .mov [.tmp 25]⟩, ⟨some 28, none, .pur (.ixa 1) [.tmp 23, .tmp 25]⟩, ⟨some 29, none, .ld none (.tmp 28)⟩, ⟨some 7, none, .pur .mov [.tmp 27]⟩, ⟨some 8, none, .pur .mov [.tmp 29]⟩]) [7, 8])
  (.seq (.reg (straight [⟨some 31, none, .pur .mov [.tmp 8]⟩, ⟨some 32, none, .eff (.call 29) [.tmp 31]⟩, ⟨some 30, none, .pur .mov [.tmp 32]⟩, ⟨some 33, none, .pur (.ext 0) [.tmp 30]⟩, ⟨some 34, none, .pur (.ext 1) [.tmp 30]⟩, ⟨some 9, none, .pur .mov [.tmp 33]⟩, ⟨some 10, none, .pur .mov [.tmp 34]⟩]) [9, 10])
  (.seq (.seq (.reg (straight [⟨some 35, none, .pur .mov [.tmp 10]⟩, ⟨some 36, none, .pur .not [.tmp 35]⟩]) [36])
  (.cond (.tmp 36) (.seq (.reg (straight [⟨some 37, none, .ld (some 3) (.tmp 6)⟩, ⟨none, none, .eff (.st 3) [.tmp 4, .tmp 37]⟩, ⟨some 5, none, .pur .mov [.const (.int .i64 4)]⟩]) [5])
  (.ret)) (.skip)))
  (.reg (straight [⟨some 38, none, .pur .mov [.tmp 7]⟩, ⟨some 39, none, .pur .mov [.tmp 9]⟩, ⟨some 40, none, .pur (.ixaA 3 1) [.tmp 6, .tmp 38]⟩, ⟨none, none, .eff (.st 1) [.tmp 40, .tmp 39]⟩]) [])))))
  (.reg (straight [⟨some 41, none, .pur (.bin .add) [.tmp 25, .const (.int .i64 1)]⟩, ⟨some 25, none, .pur .mov [.tmp 41]⟩]) [25])))
def S_asm_operands : Fun := ⟨43, [4, 5, 0, 1, 11, 6, 17, 25, 24, 26, 23, 8, 10, 36, 7, 9], [.cell 4 (some 3), .tmp 5],
  .seq (.reg (straight [⟨some 4, none, .eff (.new 89 [.int .i64 0, .int .i64 0, .int .i64 0]) []⟩, ⟨some 5, none, .pur .mov [.const (.int .i64 0)]⟩]) [4, 5])
  (.seq (.reg (straight [⟨some 6, none, .eff (.new 89 [.int .i64 0, .int .i64 0, .int .i64 0]) []⟩]) [6])
  (.seq (.block 0 (.seq (.reg (straight [⟨some 12, none, .pur .mov [.tmp 0]⟩, ⟨some 13, none, .pur (.len false) [.tmp 12]⟩, ⟨some 14, none, .pur .mov [.tmp 1]⟩, ⟨some 15, none, .pur (.bin .lss) [.tmp 13, .tmp 14]⟩, ⟨some 11, none, .pur .mov [.tmp 15]⟩]) [11])
  (.cond (.tmp 11) (.seq (.reg (straight [⟨some 16, none, .ld (some 3) (.tmp 6)⟩, ⟨none, none, .eff (.st 3) [.tmp 4, .tmp 16]⟩, ⟨some 5, none, .pur .mov [.const (.int .i64 1)]⟩]) [5])
  (.ret)) (.seq (.reg (straight [⟨some 18, none, .pur .mov [.tmp 0]⟩, ⟨some 19, none, .pur (.len false) [.tmp 18]⟩, ⟨some 20, none, .pur .mov [.tmp 1]⟩, ⟨some 21, none, .pur (.bin .gtr) [.tmp 19, .tmp 20]⟩, ⟨some 17, none, .pur .mov [.tmp 21]⟩]) [17])
  (.cond (.tmp 17) (.seq (.reg (straight [⟨some 22, none, .ld (some 3) (.tmp 6)⟩, ⟨none, none, .eff (.st 3) [.tmp 4, .tmp 22]⟩, ⟨some 5, none, .pur .mov [.const (.int .i64 2)]⟩]) [5])
  (.ret)) (.skip))))))
  (.seq (.seq (.reg (straight [⟨some 23, none, .pur .mov [.tmp 0]⟩, ⟨some 24, none, .pur (.len false) [.tmp 23]⟩, ⟨some 25, none, .pur .mov [.const (.int .i64 0)]⟩]) [23, 24, 25])
  (.block 1 (.loop S_asm_operands_L1)))
  (.seq (.reg (straight [⟨some 42, none, .ld (some 3) (.tmp 6)⟩, ⟨none, none, .eff (.st 3) [.tmp 4, .tmp 42]⟩, ⟨some 5, none, .pur .mov [.const (.int .i64 0)]⟩]) [5])
  (.ret)))))⟩
theorem K_asm_operands : compF Tryd.prog 68 = some S_asm_operands := by kernel_rfl

-- 71
def S_forebayref03_Names : Fun := ⟨2, [0], [.tmp 0],
  .seq (.reg (straight [⟨some 0, none, .pur .mov [.const (.slice none 0 0)]⟩]) [0])
  (.seq (.reg (straight [⟨some 1, none, .eff (.bsl 9 1) [.const (.string ⟨#[114, 101, 116]⟩), .const (.string ⟨#[115, 101, 116]⟩), .const (.string ⟨#[109, 111, 118, 101]⟩), .const (.string ⟨#[97, 100, 100]⟩), .const (.string ⟨#[115, 117, 98]⟩), .const (.string ⟨#[109, 117, 108]⟩), .const (.string ⟨#[100, 105, 118]⟩), .const (.string ⟨#[109, 111, 100]⟩), .const (.string ⟨#[108, 101, 115, 115]⟩), .const (.string ⟨#[115, 97, 109, 101]⟩), .const (.string ⟨#[97, 110, 100]⟩), .const (.string ⟨#[111, 114]⟩), .const (.string ⟨#[120, 111, 114]⟩), .const (.string ⟨#[108, 111, 97, 100]⟩), .const (.string ⟨#[115, 116, 111, 114, 101]⟩), .const (.string ⟨#[102, 101, 116, 99, 104]⟩), .const (.string ⟨#[115, 119, 97, 112]⟩), .const (.string ⟨#[101, 109, 105, 116]⟩), .const (.string ⟨#[106, 117, 109, 112]⟩), .const (.string ⟨#[122, 101, 114, 111]⟩), .const (.string ⟨#[115, 112, 97, 119, 110]⟩), .const (.string ⟨#[115, 121, 110, 99]⟩), .const (.string ⟨#[112, 105, 112, 101]⟩), .const (.string ⟨#[119, 97, 105, 116]⟩), .const (.string ⟨#[99, 111, 110, 116]⟩), .const (.string ⟨#[98, 114, 101, 97, 107]⟩)]⟩, ⟨some 0, none, .pur .mov [.tmp 1]⟩]) [0])
  (.ret))⟩
theorem K_forebayref03_Names : compF Tryd.prog 71 = some S_forebayref03_Names := by kernel_rfl

-- 74
def S_ins_Name : Fun := ⟨14, [2, 0, 10, 3], [.tmp 2],
  .seq (.reg (straight [⟨some 2, none, .pur .mov [.const (.string ⟨#[]⟩)]⟩]) [2])
  (.seq (.reg (straight [⟨some 4, none, .pur (.bld [.string ⟨#[]⟩, .string ⟨#[]⟩, .string ⟨#[]⟩, .string ⟨#[]⟩, .string ⟨#[]⟩, .string ⟨#[]⟩, .string ⟨#[]⟩, .string ⟨#[]⟩, .string ⟨#[]⟩, .string ⟨#[]⟩, .string ⟨#[]⟩, .string ⟨#[]⟩, .string ⟨#[]⟩, .string ⟨#[]⟩, .string ⟨#[]⟩, .string ⟨#[]⟩, .string ⟨#[]⟩, .string ⟨#[]⟩, .string ⟨#[]⟩, .string ⟨#[]⟩, .string ⟨#[]⟩, .string ⟨#[]⟩, .string ⟨#[]⟩, .string ⟨#[]⟩, .string ⟨#[]⟩, .string ⟨#[]⟩] [(0, 1), (1, 1), (2, 1), (3, 1), (4, 1), (5, 1), (6, 1), (7, 1), (8, 1), (9, 1), (10, 1), (11, 1), (12, 1), (13, 1), (14, 1), (15, 1), (16, 1), (17, 1), (18, 1), (19, 1), (20, 1), (21, 1), (22, 1), (23, 1), (24, 1), (25, 1)]) [.const (.string ⟨#[114, 101, 116]⟩), .const (.string ⟨#[115, 101, 116]⟩), .const (.string ⟨#[109, 111, 118, 101]⟩), .const (.string ⟨#[97, 100, 100]⟩), .const (.string ⟨#[115, 117, 98]⟩), .const (.string ⟨#[109, 117, 108]⟩), .const (.string ⟨#[100, 105, 118]⟩), .const (.string ⟨#[109, 111, 100]⟩), .const (.string ⟨#[108, 101, 115, 115]⟩), .const (.string ⟨#[115, 97, 109, 101]⟩), .const (.string ⟨#[97, 110, 100]⟩), .const (.string ⟨#[111, 114]⟩), .const (.string ⟨#[120, 111, 114]⟩), .const (.string ⟨#[108, 111, 97, 100]⟩), .const (.string ⟨#[115, 116, 111, 114, 101]⟩), .const (.string ⟨#[102, 101, 116, 99, 104]⟩), .const (.string ⟨#[115, 119, 97, 112]⟩), .const (.string ⟨#[101, 109, 105, 116]⟩), .const (.string ⟨#[106, 117, 109, 112]⟩), .const (.string ⟨#[122, 101, 114, 111]⟩), .const (.string ⟨#[115, 112, 97, 119, 110]⟩), .const (.string ⟨#[115, 121, 110, 99]⟩), .const (.string ⟨#[112, 105, 112, 101]⟩), .const (.string ⟨#[119, 97, 105, 116]⟩), .const (.string ⟨#[99, 111, 110, 116]⟩), .const (.string ⟨#[98, 114, 101, 97, 107]⟩)]⟩, ⟨some 3, none, .eff (.new 113 [.string ⟨#[]⟩, .string ⟨#[]⟩, .string ⟨#[]⟩, .string ⟨#[]⟩, .string ⟨#[]⟩, .string ⟨#[]⟩, .string ⟨#[]⟩, .string ⟨#[]⟩, .string ⟨#[]⟩, .string ⟨#[]⟩, .string ⟨#[]⟩, .string ⟨#[]⟩, .string ⟨#[]⟩, .string ⟨#[]⟩, .string ⟨#[]⟩, .string ⟨#[]⟩, .string ⟨#[]⟩, .string ⟨#[]⟩, .string ⟨#[]⟩, .string ⟨#[]⟩, .string ⟨#[]⟩, .string ⟨#[]⟩, .string ⟨#[]⟩, .string ⟨#[]⟩, .string ⟨#[]⟩, .string ⟨#[]⟩]) []⟩, ⟨none, none, .eff (.st 26) [.tmp 3, .tmp 4]⟩]) [3])
  (.seq (.seq (.reg (straight [⟨some 5, none, .pur .mov [.tmp 0]⟩, ⟨some 6, none, .pur (.bin .lss) [.tmp 5, .const (.int .i64 0)]⟩, ⟨some 7, none, .pur .mov [.tmp 6]⟩, ⟨some 8, some (7, false), .pur .mov [.tmp 0]⟩, ⟨some 9, some (7, false), .pur (.bin .geq) [.tmp 8, .const (.int .i64 26)]⟩, ⟨some 10, none, .pur .pick [.tmp 7, .const (.bool true), .tmp 9]⟩]) [10])
  (.cond (.tmp 10) (.seq (.reg (straight [⟨some 2, none, .pur .mov [.const (.string ⟨#[]⟩)]⟩]) [2])
  (.ret)) (.skip)))
  (.seq (.reg (straight [⟨some 11, none, .pur .mov [.tmp 0]⟩, ⟨some 12, none, .pur (.ixaA 26 1) [.tmp 3, .tmp 11]⟩, ⟨some 13, none, .ld none (.tmp 12)⟩, ⟨some 2, none, .pur .mov [.tmp 13]⟩]) [2])
  (.ret))))⟩
theorem K_ins_Name : compF Tryd.prog 74 = some S_ins_Name := by kernel_rfl

-- 75
def S_asm_full_L1 : SCode :=
  .seq (.reg (straight [⟨some 10, none, .pur (.bin .lss) [.tmp 9, .tmp 8]⟩]) [10])
  (.seq (.cond (.tmp 10) (.skip) (.exit 0))
  (.seq (.block 1 (.seq (.reg (straight [⟨some 11, none, .pur (.ixa 1) [.tmp 7, .tmp 9]⟩, ⟨some 12, none, .ld none (.tmp 11)⟩, ⟨some 5, none, .pur .mov [.tmp 12]⟩]) [5])
  (.seq (.reg (straight [⟨some 13, none, .pur .mov [.tmp 5]⟩, ⟨some 14, none, .eff (.call 47) [.tmp 13]⟩, ⟨some 15, none, .pur (.len false) [.tmp 14]⟩, ⟨some 16, none, .pur (.bin .gtr) [.tmp 15, .const (.int .i64 0)]⟩]) [16])
  (.cond (.tmp 16) (.reg (straight [⟨some 17, none, .pur .mov [.tmp 3]⟩, ⟨some 18, none, .pur .mov [.tmp 5]⟩, ⟨some 19, none, .eff (.bsl 9 1) [.tmp 18]⟩, ⟨some 20, none, .eff (.app 9 1 16 [.string ⟨#[]⟩]) [.tmp 17, .tmp 19]⟩, ⟨some 3, none, .pur .mov [.tmp 20]⟩]) [3]) (.skip)))))
  (.reg (straight [⟨some 21, none, .pur (.bin .add) [.tmp 9, .const (.int .i64 1)]⟩, ⟨some 9, none, .pur .mov [.tmp 21]⟩]) [9])))
def S_asm_full : Fun := ⟨23, [2, 0, 9, 8, 10, 7, 5, 16, 3], [.tmp 2],
  .seq (.reg (straight [⟨some 2, none, .pur .mov [.const (.slice none 0 0)]⟩]) [2])
  (.seq (.reg (straight [⟨some 3, none, .pur .mov [.const (.slice none 0 0)]⟩]) [3])
  (.seq (.seq (.reg (straight [⟨some 6, none, .pur .mov [.tmp 0]⟩, ⟨some 7, none, .eff (.call 48) [.tmp 6]⟩, ⟨some 8, none, .pur (.len false) [.tmp 7]⟩, ⟨some 9, none, .pur .mov [.const (.int .i64 0)]⟩]) [7, 8, 9])
  (.block 0 (.loop S_asm_full_L1)))
  (.seq (.reg (straight [⟨some 22, none, .pur .mov [.tmp 3]⟩, ⟨some 2, none, .pur .mov [.tmp 22]⟩]) [2])
  (.ret))))⟩
theorem K_asm_full : compF Tryd.prog 75 = some S_asm_full := by kernel_rfl

-- 76
def S_asm_size : Fun := ⟨25, [2, 3, 0, 14, 5, 23, 4], [.tmp 2, .tmp 3],
  .seq (.reg (straight [⟨some 2, none, .pur .mov [.const (.int .i64 0)]⟩, ⟨some 3, none, .pur .mov [.const (.int .i64 0)]⟩]) [2, 3])
  (.seq (.seq (.reg (straight [⟨some 6, none, .pur .mov [.tmp 0]⟩, ⟨some 7, none, .pur (.len false) [.tmp 6]⟩, ⟨some 8, none, .pur (.bin .neq) [.tmp 7, .const (.int .i64 2)]⟩, ⟨some 9, none, .pur .mov [.tmp 8]⟩, ⟨some 10, some (9, false), .pur .mov [.tmp 0]⟩, ⟨some 11, some (9, false), .pur (.ixa 1) [.tmp 10, .const (.int .i64 0)]⟩, ⟨some 12, some (9, false), .ld none (.tmp 11)⟩, ⟨some 13, some (9, false), .pur (.bin .neq) [.tmp 12, .const (.string ⟨#[109, 101, 109, 111, 114, 121]⟩)]⟩, ⟨some 14, none, .pur .pick [.tmp 9, .const (.bool true), .tmp 13]⟩]) [14])
  (.cond (.tmp 14) (.seq (.reg (straight [⟨some 2, none, .pur .mov [.const (.int .i64 0)]⟩, ⟨some 3, none, .pur .mov [.const (.int .i64 4)]⟩]) [2, 3])
  (.ret)) (.skip)))
  (.seq (.reg (straight [⟨some 16, none, .pur .mov [.tmp 0]⟩, ⟨some 17, none, .pur (.ixa 1) [.tmp 16, .const (.int .i64 1)]⟩, ⟨some 18, none, .ld none (.tmp 17)⟩, ⟨some 19, none, .eff (.call 29) [.tmp 18]⟩, ⟨some 15, none, .pur .mov [.tmp 19]⟩, ⟨some 20, none, .pur (.ext 0) [.tmp 15]⟩, ⟨some 21, none, .pur (.ext 1) [.tmp 15]⟩, ⟨some 4, none, .pur .mov [.tmp 20]⟩, ⟨some 5, none, .pur .mov [.tmp 21]⟩]) [4, 5])
  (.seq (.seq (.reg (straight [⟨some 22, none, .pur .mov [.tmp 5]⟩, ⟨some 23, none, .pur .not [.tmp 22]⟩]) [23])
  (.cond (.tmp 23) (.seq (.reg (straight [⟨some 2, none, .pur .mov [.const (.int .i64 0)]⟩, ⟨some 3, none, .pur .mov [.const (.int .i64 4)]⟩]) [2, 3])
  (.ret)) (.skip)))
  (.seq (.reg (straight [⟨some 24, none, .pur .mov [.tmp 4]⟩, ⟨some 2, none, .pur .mov [.tmp 24]⟩, ⟨some 3, none, .pur .mov [.const (.int .i64 0)]⟩]) [2, 3])
  (.ret)))))⟩
theorem K_asm_size : compF Tryd.prog 76 = some S_asm_size := by kernel_rfl

-- 77
def S_asm_add : Fun := ⟨61, [4, 1, 5, 19, 0, 7, 35, 8, 44, 6], [.tmp 4],
  .seq (.reg (straight [⟨some 4, none, .pur .mov [.const (.int .i64 0)]⟩]) [4])
  (.seq (.seq (.reg (straight [⟨some 9, none, .pur .mov [.tmp 1]⟩, ⟨some 10, none, .eff (.call 47) [.tmp 9]⟩, ⟨some 5, none, .pur .mov [.tmp 10]⟩]) [5])
  (.seq (.reg (straight [⟨some 11, none, .pur .mov [.tmp 5]⟩, ⟨some 12, none, .pur (.len false) [.tmp 11]⟩, ⟨some 13, none, .pur (.bin .eql) [.tmp 12, .const (.int .i64 1)]⟩, ⟨some 14, none, .pur .mov [.tmp 13]⟩, ⟨some 15, some (14, true), .pur .mov [.tmp 5]⟩, ⟨some 16, some (14, true), .pur (.ixa 1) [.tmp 15, .const (.int .i64 0)]⟩, ⟨some 17, some (14, true), .ld none (.tmp 16)⟩, ⟨some 18, some (14, true), .pur (.bin .eql) [.tmp 17, .const (.string ⟨#[102, 117, 110, 99, 116, 105, 111, 110]⟩)]⟩, ⟨some 19, none, .pur .pick [.tmp 14, .tmp 18, .const (.bool false)]⟩]) [19])
  (.cond (.tmp 19) (.seq (.reg (straight [⟨some 20, none, .pur .mov [.tmp 0]⟩, ⟨some 21, none, .pur .mov [.tmp 0]⟩, ⟨some 22, none, .pur .nilc [.tmp 21]⟩, ⟨some 23, none, .pur (.fla 1) [.tmp 22]⟩, ⟨some 24, none, .ld none (.tmp 23)⟩, ⟨some 25, none, .eff (.bsl 70 1) [.const (.slice none 0 0)]⟩, ⟨some 26, none, .eff (.app 70 1 24 [.slice none 0 0]) [.tmp 24, .tmp 25]⟩, ⟨some 27, none, .pur .nilc [.tmp 20]⟩, ⟨some 28, none, .pur (.fla 1) [.tmp 27]⟩, ⟨none, none, .eff (.st 1) [.tmp 28, .tmp 26]⟩]) [])
  (.seq (.reg (straight [⟨some 4, none, .pur .mov [.const (.int .i64 0)]⟩]) [4])
  (.ret))) (.skip))))
  (.seq (.reg (straight [⟨some 30, none, .pur .mov [.tmp 1]⟩, ⟨some 31, none, .eff (.call 39) [.tmp 30]⟩, ⟨some 29, none, .pur .mov [.tmp 31]⟩, ⟨some 32, none, .pur (.ext 0) [.tmp 29]⟩, ⟨some 33, none, .pur (.ext 1) [.tmp 29]⟩, ⟨some 6, none, .eff (.new 50 [.int .i64 0, .int .i64 0, .int .i64 0, .int .i64 0]) []⟩, ⟨none, none, .eff (.st 4) [.tmp 6, .tmp 32]⟩, ⟨some 7, none, .pur .mov [.tmp 33]⟩]) [6, 7])
  (.seq (.seq (.reg (straight [⟨some 34, none, .pur .mov [.tmp 7]⟩, ⟨some 35, none, .pur (.bin .neq) [.tmp 34, .const (.int .i64 0)]⟩]) [35])
  (.cond (.tmp 35) (.seq (.reg (straight [⟨some 36, none, .pur .mov [.tmp 7]⟩, ⟨some 4, none, .pur .mov [.tmp 36]⟩]) [4])
  (.ret)) (.skip)))
  (.seq (.reg (straight [⟨some 37, none, .pur .mov [.tmp 0]⟩, ⟨some 38, none, .pur .nilc [.tmp 37]⟩, ⟨some 39, none, .pur (.fla 1) [.tmp 38]⟩, ⟨some 40, none, .ld none (.tmp 39)⟩, ⟨some 41, none, .pur (.len false) [.tmp 40]⟩, ⟨some 42, none, .pur (.bin .sub) [.tmp 41, .const (.int .i64 1)]⟩, ⟨some 8, none, .pur .mov [.tmp 42]⟩]) [8])
  (.seq (.seq (.reg (straight [⟨some 43, none, .pur .mov [.tmp 8]⟩, ⟨some 44, none, .pur (.bin .lss) [.tmp 43, .const (.int .i64 0)]⟩]) [44])
  (.cond (.tmp 44) (.seq (.reg (straight [⟨some 4, none, .pur .mov [.const (.int .i64 8)]⟩]) [4])
  (.ret)) (.skip)))
  (.seq (.reg (.run ⟨some 45, none, .pur .mov [.tmp 0]⟩ (.run ⟨some 46, none, .pur .nilc [.tmp 45]⟩ (.run ⟨some 47, none, .pur (.fla 1) [.tmp 46]⟩ (.run ⟨some 48, none, .ld none (.tmp 47)⟩ (.run ⟨some 49, none, .pur .mov [.tmp 8]⟩ (.run ⟨some 50, none, .pur .mov [.tmp 0]⟩ (.run ⟨some 51, none, .pur .nilc [.tmp 50]⟩ (.run ⟨some 52, none, .pur (.fla 1) [.tmp 51]⟩ (.run ⟨some 53, none, .ld none (.tmp 52)⟩ (.run ⟨some 54, none, .pur .mov [.tmp 8]⟩ (.run ⟨some 55, none, .pur (.ixa 1) [.tmp 53, .tmp 54]⟩ (.run ⟨some 56, none, .ld none (.tmp 55)⟩ (.run ⟨some 57, none, .ld (some 4) (.tmp 6)⟩ (.eff ⟨some 58, none, .eff (.bsl 50 4) [.tmp 57]⟩ [⟨some 56, none, .ld none (.tmp 55)⟩, ⟨some 53, none, .ld none (.tmp 52)⟩, ⟨some 48, none, .ld none (.tmp 47)⟩] (.eff ⟨some 59, none, .eff (.app 50 4 32 [.int .i64 0, .int .i64 0, .int .i64 0, .int .i64 0]) [.tmp 56, .tmp 58]⟩ [⟨some 48, none, .ld none (.tmp 47)⟩] (.run ⟨some 60, none, .pur (.ixa 1) [.tmp 48, .tmp 49]⟩ (.eff ⟨none, none, .eff (.st 1) [.tmp 60, .tmp 59]⟩ [] .done))))))))))))))))) [])
  (.seq (.reg (straight [⟨some 4, none, .pur .mov [.const (.int .i64 0)]⟩]) [4])
  (.ret))))))))⟩
theorem K_asm_add : compF Tryd.prog 77 = some S_asm_add := by kernel_rfl

-- 81
def S_asm_each_L2 : SCode :=
  .seq (.reg (straight [⟨some 27, none, .pur (.bin .lss) [.tmp 26, .tmp 25]⟩]) [27])
  (.seq (.cond (.tmp 27) (.skip) (.exit 2))
  (.seq (.block 3 (.seq (.reg (straight [⟨some 28, none, .pur (.ixa 4) [.tmp 24, .tmp 26]⟩, ⟨some 29, none, .ld (some 4) (.tmp 28)⟩, ⟨some 7, none, .eff (.new 50 [.int .i64 0, .int .i64 0, .int .i64 0, .int .i64 0]) []⟩, ⟨none, none, .eff (.st 4) [.tmp 7, .tmp 29]⟩]) [7])
  (.reg (straight [⟨some 30, none, .pur .mov [.tmp 1]⟩, ⟨some 31, none, .ld (some 4) (.tmp 7)⟩, ⟨some 32, none, .eff (.call 41) [.tmp 31]⟩, ⟨some 33, none, .eff .callv [.tmp 30, .tmp 32]⟩]) [])))
  (.reg (straight [⟨some 34, none, .pur (.bin .add) [.tmp 26, .const (.int .i64 1)]⟩, ⟨some 26, none, .pur .mov [.tmp 34]⟩]) [26])))
def S_asm_each_L1 : SCode :=
  .seq (.reg (straight [⟨some 19, none, .pur (.bin .lss) [.tmp 18, .tmp 17]⟩]) [19])
  (.seq (.cond (.tmp 19) (.skip) (.exit 0))
  (.seq (.block 1 (.seq (.reg (straight [⟨some 20, none, .pur (.ixa 1) [.tmp 16, .tmp 18]⟩, ⟨some 21, none, .ld none (.tmp 20)⟩, ⟨some 5, none, .pur .mov [.tmp 21]⟩]) [5])
  (.seq (.reg (straight [⟨some 22, none, .pur .mov [.tmp 1]⟩, ⟨some 23, none, .eff .callv [.tmp 22, .const (.string ⟨#[102, 117, 110, 99, 116, 105, 111, 110]⟩)]⟩]) [])
  (.seq (.reg (straight [⟨some 24, none, .pur .mov [.tmp 5]⟩, ⟨some 25, none, .pur (.len false) [.tmp 24]⟩, ⟨some 26, none, .pur .mov [.const (.int .i64 0)]⟩]) [24, 25, 26])
  (.block 2 (.loop S_asm_each_L2))))))
  (.reg (straight [⟨some 35, none, .pur (.bin .add) [.tmp 18, .const (.int .i64 1)]⟩, ⟨some 18, none, .pur .mov [.tmp 35]⟩]) [18])))
def S_asm_each : Fun := ⟨36, [0, 1, 2, 18, 17, 19, 16, 5, 26, 25, 27, 24, 7], [],
  .seq (.reg (straight [⟨some 2, none, .eff (.box 57) [.tmp 0]⟩]) [2])
  (.seq (.reg (straight [⟨some 8, none, .pur .mov [.tmp 1]⟩, ⟨some 9, none, .pur (.fla 0) [.tmp 2]⟩, ⟨some 10, none, .ld none (.tmp 9)⟩, ⟨some 11, none, .eff (.call 31) [.tmp 10]⟩, ⟨some 12, none, .eff (.bsl 9 1) [.const (.string ⟨#[109, 101, 109, 111, 114, 121]⟩), .tmp 11]⟩, ⟨some 13, none, .eff (.call 49) [.tmp 12]⟩, ⟨some 14, none, .eff .callv [.tmp 8, .tmp 13]⟩]) [])
  (.seq (.reg (straight [⟨some 15, none, .pur (.fla 1) [.tmp 2]⟩, ⟨some 16, none, .ld none (.tmp 15)⟩, ⟨some 17, none, .pur (.len false) [.tmp 16]⟩, ⟨some 18, none, .pur .mov [.const (.int .i64 0)]⟩]) [16, 17, 18])
  (.block 0 (.loop S_asm_each_L1))))⟩
theorem K_asm_each : compF Tryd.prog 81 = some S_asm_each := by kernel_rfl

-- 82
def S_asm_Text_1 : Fun := ⟨7, [1, 0], [],
  .reg (straight [⟨some 3, none, .ld none (.tmp 1)⟩, ⟨some 4, none, .pur .mov [.tmp 0]⟩, ⟨some 5, none, .pur (.bin .add) [.tmp 4, .const (.string ⟨#[10]⟩)]⟩, ⟨some 6, none, .eff (.app 5 1 1 [.int .u8 0]) [.tmp 3, .tmp 5]⟩, ⟨none, none, .eff (.st 1) [.tmp 1, .tmp 6]⟩]) []⟩
theorem K_asm_Text_1 : compF Tryd.prog 82 = some S_asm_Text_1 := by kernel_rfl

end Go.Proofs.YtjdpejggafefjaaDoor
