import Derived.Test.YtjdpejggafefjaaDoorKj
import Derived.Test.YtjdpejggafefjaaDoorProg
import Derived.KernelRfl
namespace Go.Proofs.YtjdpejggafefjaaDoor
open Go Go.Kx Go.Proofs
set_option linter.unusedVariables false
set_option maxRecDepth 100000

-- 3
def S_forebaylaw38_PictureTexts : Fun := ⟨75, [2, 14, 0, 16, 3, 5, 4, 6, 7, 9, 8, 10, 12, 11], [.tmp 2],
  .seq (.reg (straight [⟨some 2, none, .pur .mov [.const (.bool false)]⟩]) [2])
  (.seq (.seq (.reg (straight [⟨some 13, none, .eff (.call 15) []⟩, ⟨some 14, none, .pur .not [.tmp 13]⟩]) [14])
  (.cond (.tmp 14) (.seq (.reg (straight [⟨some 2, none, .pur .mov [.const (.bool false)]⟩]) [2])
  (.ret)) (.skip)))
  (.seq (.seq (.reg (straight [⟨some 15, none, .pur .mov [.tmp 0]⟩, ⟨some 16, none, .eff (.call 16) [.tmp 15]⟩]) [16])
  (.cond (.tmp 16) (.seq (.reg (straight [⟨some 2, none, .pur .mov [.const (.bool true)]⟩]) [2])
  (.ret)) (.skip)))
  (.seq (.reg (straight [⟨some 18, none, .pur .mov [.tmp 0]⟩, ⟨some 19, none, .eff (.call 18) [.tmp 18]⟩, ⟨some 20, none, .eff (.call 17) [.tmp 19]⟩, ⟨some 17, none, .pur .mov [.tmp 20]⟩, ⟨some 21, none, .pur (.ext 0) [.tmp 17]⟩, ⟨some 22, none, .pur (.ext 1) [.tmp 17]⟩, ⟨some 3, none, .pur .mov [.tmp 21]⟩, ⟨some 4, none, .pur .mov [.tmp 22]⟩]) [3, 4])
  (.seq (.reg (straight [⟨some 24, none, .pur .mov [.tmp 0]⟩, ⟨some 25, none, .eff (.call 19) [.tmp 24]⟩, ⟨some 23, none, .pur .mov [.tmp 25]⟩, ⟨some 26, none, .pur (.ext 0) [.tmp 23]⟩, ⟨some 27, none, .pur (.ext 1) [.tmp 23]⟩, ⟨some 5, none, .pur .mov [.tmp 26]⟩, ⟨some 6, none, .pur .mov [.tmp 27]⟩]) [5, 6])
  (.seq (.reg (straight [⟨some 29, none, .pur .mov [.tmp 0]⟩, ⟨some 30, none, .eff (.call 18) [.tmp 29]⟩, ⟨some 31, none, .eff (.call 20) [.tmp 30]⟩, ⟨some 28, none, .pur .mov [.tmp 31]⟩, ⟨some 32, none, .pur (.ext 0) [.tmp 28]⟩, ⟨some 33, none, .pur (.ext 1) [.tmp 28]⟩, ⟨some 7, none, .pur .mov [.tmp 32]⟩, ⟨some 8, none, .pur .mov [.tmp 33]⟩]) [7, 8])
  (.seq (.reg (straight [⟨some 35, none, .pur .mov [.tmp 0]⟩, ⟨some 36, none, .eff (.call 21) [.tmp 35]⟩, ⟨some 34, none, .pur .mov [.tmp 36]⟩, ⟨some 37, none, .pur (.ext 0) [.tmp 34]⟩, ⟨some 38, none, .pur (.ext 1) [.tmp 34]⟩, ⟨some 9, none, .pur .mov [.tmp 37]⟩, ⟨some 10, none, .pur .mov [.tmp 38]⟩]) [9, 10])
  (.seq (.reg (straight [⟨some 40, none, .pur .mov [.tmp 3]⟩, ⟨some 41, none, .eff (.call 22) [.tmp 40]⟩, ⟨some 39, none, .pur .mov [.tmp 41]⟩, ⟨some 42, none, .pur (.ext 0) [.tmp 39]⟩, ⟨some 43, none, .pur (.ext 1) [.tmp 39]⟩, ⟨some 11, none, .pur .mov [.tmp 42]⟩, ⟨some 12, none, .pur .mov [.tmp 43]⟩]) [11, 12])
  (.seq (.reg (straight [⟨some 44, none, .pur .mov [.tmp 3]⟩, ⟨some 45, none, .pur .mov [.tmp 5]⟩, ⟨some 46, none, .pur (.bin .eql) [.tmp 44, .tmp 45]⟩, ⟨some 47, none, .pur .mov [.tmp 46]⟩, ⟨some 48, some (47, true), .pur .mov [.tmp 4]⟩, ⟨some 49, some (47, true), .pur .mov [.tmp 6]⟩, ⟨some 50, some (47, true), .pur (.bin .eql) [.tmp 48, .tmp 49]⟩, ⟨some 51, none, .pur .pick [.tmp 47, .tmp 50, .const (.bool false)]⟩, ⟨some 52, none, .pur .mov [.tmp 51]⟩, ⟨some 53, some (52, true), .pur .mov [.tmp 7]⟩, ⟨some 54, some (52, true), .pur .mov [.tmp 9]⟩, ⟨some 55, some (52, true), .pur (.bin .eql) [.tmp 53, .tmp 54]⟩, ⟨some 56, none, .pur .pick [.tmp 52, .tmp 55, .const (.bool false)]⟩, ⟨some 57, none, .pur .mov [.tmp 56]⟩, ⟨some 58, some (57, true), .pur .mov [.tmp 8]⟩, ⟨some 59, some (57, true), .pur .mov [.tmp 10]⟩, ⟨some 60, some (57, true), .pur (.bin .eql) [.tmp 58, .tmp 59]⟩, ⟨some 61, none, .pur .pick [.tmp 57, .tmp 60, .const (.bool false)]⟩, ⟨some 62, none, .pur .mov [.tmp 61]⟩, ⟨some 63, some (62, true), .pur .mov [.tmp 6]⟩, ⟨some 64, some (62, true), .pur (.bin .neq) [.tmp 63, .const (.int .i64 0)]⟩, ⟨some 65, some (62, true), .pur .mov [.tmp 64]⟩, ⟨some 66, some (65, false), .pur .mov [.tmp 12]⟩, ⟨some 67, some (65, false), .pur (.bin .eql) [.tmp 66, .const (.int .i64 0)]⟩, ⟨some 68, some (65, false), .pur .mov [.tmp 67]⟩, ⟨some 69, some (68, true), .pur .mov [.tmp 11]⟩, ⟨some 70, some (68, true), .pur .mov [.tmp 0]⟩, ⟨some 71, some (68, true), .eff (.call 23) [.tmp 69, .tmp 70]⟩, ⟨some 72, some (65, false), .pur .pick [.tmp 68, .tmp 71, .const (.bool false)]⟩, ⟨some 73, some (62, true), .pur .pick [.tmp 65, .const (.bool true), .tmp 72]⟩, ⟨some 74, none, .pur .pick [.tmp 62, .tmp 73, .const (.bool false)]⟩, ⟨some 2, none, .pur .mov [.tmp 74]⟩]) [2])
  (.ret)))))))))⟩
theorem K_forebaylaw38_PictureTexts : compF Tryd.prog 3 = some S_forebaylaw38_PictureTexts := by kernel_rfl

-- 4
def S_forebaylaw38_PictureReads : Fun := ⟨60, [2, 12, 0, 15, 4, 6, 3, 5, 34, 7, 8, 10, 9], [.tmp 2],
  .seq (.reg (straight [⟨some 2, none, .pur .mov [.const (.bool false)]⟩]) [2])
  (.seq (.seq (.reg (straight [⟨some 11, none, .eff (.call 15) []⟩, ⟨some 12, none, .pur .not [.tmp 11]⟩]) [12])
  (.cond (.tmp 12) (.seq (.reg (straight [⟨some 2, none, .pur .mov [.const (.bool false)]⟩]) [2])
  (.ret)) (.skip)))
  (.seq (.seq (.reg (straight [⟨some 13, none, .pur .mov [.tmp 0]⟩, ⟨some 14, none, .pur (.len true) [.tmp 13]⟩, ⟨some 15, none, .pur (.bin .gtr) [.tmp 14, .const (.int .i64 3000)]⟩]) [15])
  (.cond (.tmp 15) (.seq (.reg (straight [⟨some 2, none, .pur .mov [.const (.bool true)]⟩]) [2])
  (.ret)) (.skip)))
  (.seq (.reg (straight [⟨some 17, none, .pur .mov [.tmp 0]⟩, ⟨some 18, none, .eff (.call 22) [.tmp 17]⟩, ⟨some 16, none, .pur .mov [.tmp 18]⟩, ⟨some 19, none, .pur (.ext 0) [.tmp 16]⟩, ⟨some 20, none, .pur (.ext 1) [.tmp 16]⟩, ⟨some 3, none, .pur .mov [.tmp 19]⟩, ⟨some 4, none, .pur .mov [.tmp 20]⟩]) [3, 4])
  (.seq (.reg (straight [⟨some 22, none, .pur .mov [.tmp 0]⟩, ⟨some 23, none, .eff (.call 24) [.tmp 22]⟩, ⟨some 21, none, .pur .mov [.tmp 23]⟩, ⟨some 24, none, .pur (.ext 0) [.tmp 21]⟩, ⟨some 25, none, .pur (.ext 1) [.tmp 21]⟩, ⟨some 5, none, .pur .mov [.tmp 24]⟩, ⟨some 6, none, .pur .mov [.tmp 25]⟩]) [5, 6])
  (.seq (.seq (.reg (straight [⟨some 26, none, .pur .mov [.tmp 4]⟩, ⟨some 27, none, .pur .mov [.tmp 6]⟩, ⟨some 28, none, .pur (.bin .neq) [.tmp 26, .tmp 27]⟩, ⟨some 29, none, .pur .mov [.tmp 28]⟩, ⟨some 30, some (29, false), .pur .mov [.tmp 3]⟩, ⟨some 31, some (29, false), .pur .mov [.tmp 5]⟩, ⟨some 32, some (29, false), .eff (.call 23) [.tmp 30, .tmp 31]⟩, ⟨some 33, some (29, false), .pur .not [.tmp 32]⟩, ⟨some 34, none, .pur .pick [.tmp 29, .const (.bool true), .tmp 33]⟩]) [34])
  (.cond (.tmp 34) (.seq (.reg (straight [⟨some 2, none, .pur .mov [.const (.bool false)]⟩]) [2])
  (.ret)) (.skip)))
  (.seq (.reg (straight [⟨some 36, none, .pur .mov [.tmp 3]⟩, ⟨some 37, none, .eff (.call 17) [.tmp 36]⟩, ⟨some 35, none, .pur .mov [.tmp 37]⟩, ⟨some 38, none, .pur (.ext 0) [.tmp 35]⟩, ⟨some 39, none, .pur (.ext 1) [.tmp 35]⟩, ⟨some 7, none, .pur .mov [.tmp 38]⟩, ⟨some 8, none, .pur .mov [.tmp 39]⟩]) [7, 8])
  (.seq (.reg (straight [⟨some 41, none, .pur .mov [.tmp 7]⟩, ⟨some 42, none, .eff (.call 22) [.tmp 41]⟩, ⟨some 40, none, .pur .mov [.tmp 42]⟩, ⟨some 43, none, .pur (.ext 0) [.tmp 40]⟩, ⟨some 44, none, .pur (.ext 1) [.tmp 40]⟩, ⟨some 9, none, .pur .mov [.tmp 43]⟩, ⟨some 10, none, .pur .mov [.tmp 44]⟩]) [9, 10])
  (.seq (.reg (straight [⟨some 45, none, .pur .mov [.tmp 6]⟩, ⟨some 46, none, .pur (.bin .neq) [.tmp 45, .const (.int .i64 0)]⟩, ⟨some 47, none, .pur .mov [.tmp 46]⟩, ⟨some 48, some (47, false), .pur .mov [.tmp 8]⟩, ⟨some 49, some (47, false), .pur (.bin .eql) [.tmp 48, .const (.int .i64 0)]⟩, ⟨some 50, some (47, false), .pur .mov [.tmp 49]⟩, ⟨some 51, some (50, true), .pur .mov [.tmp 10]⟩, ⟨some 52, some (50, true), .pur (.bin .eql) [.tmp 51, .const (.int .i64 0)]⟩, ⟨some 53, some (47, false), .pur .pick [.tmp 50, .tmp 52, .const (.bool false)]⟩, ⟨some 54, some (47, false), .pur .mov [.tmp 53]⟩, ⟨some 55, some (54, true), .pur .mov [.tmp 9]⟩, ⟨some 56, some (54, true), .pur .mov [.tmp 3]⟩, ⟨some 57, some (54, true), .eff (.call 23) [.tmp 55, .tmp 56]⟩, ⟨some 58, some (47, false), .pur .pick [.tmp 54, .tmp 57, .const (.bool false)]⟩, ⟨some 59, none, .pur .pick [.tmp 47, .const (.bool true), .tmp 58]⟩, ⟨some 2, none, .pur .mov [.tmp 59]⟩]) [2])
  (.ret)))))))))⟩
theorem K_forebaylaw38_PictureReads : compF Tryd.prog 4 = some S_forebaylaw38_PictureReads := by kernel_rfl

-- 5
def S_forebaylaw38_PictureSizes_L2 : SCode :=
  .seq (.seq (.reg (straight [⟨some 94, none, .pur .mov [.tmp 13]⟩, ⟨some 95, none, .pur .mov [.tmp 7]⟩, ⟨some 96, none, .pur .mov [.tmp 9]⟩, ⟨some 97, none, .pur (.ixa 1) [.tmp 95, .tmp 96]⟩, ⟨some 98, none, .ld none (.tmp 97)⟩, ⟨some 99, none, .pur (.len true) [.tmp 98]⟩, ⟨some 100, none, .pur (.bin .lss) [.tmp 94, .tmp 99]⟩]) [100])
  (.cond (.tmp 100) (.skip) (.exit 2)))
  (.seq (.block 3 (.seq (.seq (.reg (straight [⟨some 103, none, .pur .mov [.tmp 7]⟩, ⟨some 104, none, .pur .mov [.tmp 9]⟩, ⟨some 105, none, .pur (.ixa 1) [.tmp 103, .tmp 104]⟩, ⟨some 106, none, .ld none (.tmp 105)⟩, ⟨some 107, none, .pur .mov [.tmp 13]⟩, ⟨some 108, none, .pur .ixs [.tmp 106, .tmp 107]⟩, ⟨some 109, none, .pur (.bin .neq) [.tmp 108, .const (.int .u8 46)]⟩]) [109])
  (.cond (.tmp 109) (.reg (straight [⟨some 110, none, .pur .mov [.tmp 10]⟩, ⟨some 111, none, .pur (.bin .add) [.tmp 110, .const (.int .i64 1)]⟩, ⟨some 10, none, .pur .mov [.tmp 111]⟩]) [10]) (.skip)))
  (.seq (.reg (straight [⟨some 112, none, .pur .mov [.tmp 7]⟩, ⟨some 113, none, .pur .mov [.tmp 9]⟩, ⟨some 114, none, .pur (.ixa 1) [.tmp 112, .tmp 113]⟩, ⟨some 115, none, .ld none (.tmp 114)⟩, ⟨some 116, none, .pur .mov [.tmp 13]⟩, ⟨some 117, none, .pur .ixs [.tmp 115, .tmp 116]⟩, ⟨some 118, none, .pur (.bin .eql) [.tmp 117, .const (.int .u8 60)]⟩]) [118])
  (.cond (.tmp 118) (.reg (straight [⟨some 119, none, .pur .mov [.tmp 11]⟩, ⟨some 120, none, .pur (.bin .add) [.tmp 119, .const (.int .i64 1)]⟩, ⟨some 11, none, .pur .mov [.tmp 120]⟩]) [11]) (.skip)))))
  (.reg (straight [⟨some 101, none, .pur .mov [.tmp 13]⟩, ⟨some 102, none, .pur (.bin .add) [.tmp 101, .const (.int .i64 1)]⟩, ⟨some 13, none, .pur .mov [.tmp 102]⟩]) [13]))
def S_forebaylaw38_PictureSizes_L3 : SCode :=
  .seq (.seq (.reg (straight [⟨some 121, none, .pur .mov [.tmp 14]⟩, ⟨some 122, none, .pur .mov [.tmp 0]⟩, ⟨some 123, none, .pur .mov [.tmp 9]⟩, ⟨some 124, none, .pur (.ixa 1) [.tmp 122, .tmp 123]⟩, ⟨some 125, none, .ld none (.tmp 124)⟩, ⟨some 126, none, .pur (.len false) [.tmp 125]⟩, ⟨some 127, none, .pur (.bin .lss) [.tmp 121, .tmp 126]⟩]) [127])
  (.cond (.tmp 127) (.skip) (.exit 4)))
  (.seq (.block 5 (.seq (.reg (straight [⟨some 130, none, .pur .mov [.tmp 0]⟩, ⟨some 131, none, .pur .mov [.tmp 9]⟩, ⟨some 132, none, .pur (.ixa 1) [.tmp 130, .tmp 131]⟩, ⟨some 133, none, .ld none (.tmp 132)⟩, ⟨some 134, none, .pur .mov [.tmp 14]⟩, ⟨some 135, none, .pur (.ixa 2) [.tmp 133, .tmp 134]⟩, ⟨some 136, none, .pur (.fla 1) [.tmp 135]⟩, ⟨some 137, none, .ld none (.tmp 136)⟩]) [137])
  (.cond (.tmp 137) (.reg (straight [⟨some 138, none, .pur .mov [.tmp 12]⟩, ⟨some 139, none, .pur (.bin .add) [.tmp 138, .const (.int .i64 1)]⟩, ⟨some 12, none, .pur .mov [.tmp 139]⟩]) [12]) (.skip))))
  (.reg (straight [⟨some 128, none, .pur .mov [.tmp 14]⟩, ⟨some 129, none, .pur (.bin .add) [.tmp 128, .const (.int .i64 1)]⟩, ⟨some 14, none, .pur .mov [.tmp 129]⟩]) [14]))
def S_forebaylaw38_PictureSizes_L1 : SCode :=
  .seq (.seq (.reg (straight [⟨some 42, none, .pur .mov [.tmp 9]⟩, ⟨some 43, none, .pur .mov [.tmp 0]⟩, ⟨some 44, none, .pur (.len false) [.tmp 43]⟩, ⟨some 45, none, .pur (.bin .lss) [.tmp 42, .tmp 44]⟩]) [45])
  (.cond (.tmp 45) (.skip) (.exit 0)))
  (.seq (.block 1 (.seq (.seq (.reg (.run ⟨some 48, none, .pur .mov [.tmp 9]⟩ (.run ⟨some 49, none, .pur .mov [.tmp 8]⟩ (.run ⟨some 50, none, .pur (.len false) [.tmp 49]⟩ (.run ⟨some 51, none, .pur (.bin .geq) [.tmp 48, .tmp 50]⟩ (.run ⟨some 52, none, .pur .mov [.tmp 51]⟩ (.run ⟨some 53, some (52, false), .pur .mov [.tmp 8]⟩ (.run ⟨some 54, some (52, false), .pur .mov [.tmp 9]⟩ (.run ⟨some 55, some (52, false), .pur (.ixa 1) [.tmp 53, .tmp 54]⟩ (.run ⟨some 56, some (52, false), .ld none (.tmp 55)⟩ (.run ⟨some 59, some (52, false), .pur .mov [.tmp 0]⟩ (.run ⟨some 60, some (52, false), .pur .mov [.tmp 9]⟩ (.run ⟨some 61, some (52, false), .pur (.ixa 1) [.tmp 59, .tmp 60]⟩ (.run ⟨some 62, some (52, false), .ld none (.tmp 61)⟩ (.run ⟨some 63, some (52, false), .pur (.len false) [.tmp 62]⟩ (.eff ⟨some 57, some (52, false), .eff (.call 27) [.tmp 56]⟩ [⟨some 62, some (52, false), .ld none (.tmp 61)⟩] (.run ⟨some 58, some (52, false), .pur (.len false) [.tmp 57]⟩ (.run ⟨some 64, some (52, false), .pur (.bin .neq) [.tmp 58, .tmp 63]⟩ (.run ⟨some 65, none, .pur .pick [.tmp 52, .const (.bool true), .tmp 64]⟩ .done)))))))))))))))))) [65])
  (.cond (.tmp 65) (.seq (.reg (straight [⟨some 2, none, .pur .mov [.const (.bool false)]⟩]) [2])
  (.ret)) (.skip)))
  (.seq (.seq (.reg (straight [⟨some 66, none, .pur .mov [.tmp 4]⟩, ⟨some 67, none, .pur (.bin .neq) [.tmp 66, .const (.int .i64 0)]⟩]) [67])
  (.cond (.tmp 67) (.exit 1) (.skip)))
  (.seq (.reg (straight [⟨some 10, none, .pur .mov [.const (.int .i64 0)]⟩, ⟨some 11, none, .pur .mov [.const (.int .i64 0)]⟩, ⟨some 12, none, .pur .mov [.const (.int .i64 0)]⟩]) [10, 11, 12])
  (.seq (.seq (.reg (straight [⟨some 68, none, .pur .mov [.tmp 9]⟩, ⟨some 69, none, .pur .mov [.tmp 7]⟩, ⟨some 70, none, .pur (.len false) [.tmp 69]⟩, ⟨some 71, none, .pur (.bin .geq) [.tmp 68, .tmp 70]⟩, ⟨some 72, none, .pur .mov [.tmp 71]⟩, ⟨some 73, some (72, false), .pur .mov [.tmp 7]⟩, ⟨some 74, some (72, false), .pur .mov [.tmp 9]⟩, ⟨some 75, some (72, false), .pur (.ixa 1) [.tmp 73, .tmp 74]⟩, ⟨some 76, some (72, false), .ld none (.tmp 75)⟩, ⟨some 77, some (72, false), .pur (.len true) [.tmp 76]⟩, ⟨some 78, some (72, false), .pur .mov [.tmp 0]⟩, ⟨some 79, some (72, false), .pur .mov [.tmp 9]⟩, ⟨some 80, some (72, false), .pur (.ixa 1) [.tmp 78, .tmp 79]⟩, ⟨some 81, some (72, false), .ld none (.tmp 80)⟩, ⟨some 82, some (72, false), .pur .mov [.tmp 0]⟩, ⟨some 83, some (72, false), .pur .mov [.tmp 9]⟩, ⟨some 84, some (72, false), .pur (.ixa 1) [.tmp 82, .tmp 83]⟩, ⟨some 85, some (72, false), .ld none (.tmp 84)⟩, ⟨some 86, some (72, false), .pur (.len false) [.tmp 85]⟩, ⟨some 87, some (72, false), .pur (.bin .sub) [.tmp 86, .const (.int .i64 1)]⟩, ⟨some 88, some (72, false), .pur (.ixa 2) [.tmp 81, .tmp 87]⟩, ⟨some 89, some (72, false), .pur (.fla 0) [.tmp 88]⟩, ⟨some 90, some (72, false), .ld none (.tmp 89)⟩, ⟨some 91, some (72, false), .pur (.bin .add) [.tmp 90, .const (.int .i64 1)]⟩, ⟨some 92, some (72, false), .pur (.bin .neq) [.tmp 77, .tmp 91]⟩, ⟨some 93, none, .pur .pick [.tmp 72, .const (.bool true), .tmp 92]⟩]) [93])
  (.cond (.tmp 93) (.seq (.reg (straight [⟨some 2, none, .pur .mov [.const (.bool false)]⟩]) [2])
  (.ret)) (.skip)))
  (.seq (.seq (.reg (straight [⟨some 13, none, .pur .mov [.const (.int .i64 0)]⟩]) [13])
  (.block 2 (.loop S_forebaylaw38_PictureSizes_L2)))
  (.seq (.seq (.reg (straight [⟨some 14, none, .pur .mov [.const (.int .i64 0)]⟩]) [14])
  (.block 4 (.loop S_forebaylaw38_PictureSizes_L3)))
  (.seq (.reg (straight [⟨some 140, none, .pur .mov [.tmp 10]⟩, ⟨some 141, none, .pur .mov [.tmp 0]⟩, ⟨some 142, none, .pur .mov [.tmp 9]⟩, ⟨some 143, none, .pur (.ixa 1) [.tmp 141, .tmp 142]⟩, ⟨some 144, none, .ld none (.tmp 143)⟩, ⟨some 145, none, .pur (.len false) [.tmp 144]⟩, ⟨some 146, none, .pur (.bin .neq) [.tmp 140, .tmp 145]⟩, ⟨some 147, none, .pur .mov [.tmp 146]⟩, ⟨some 148, some (147, false), .pur .mov [.tmp 11]⟩, ⟨some 149, some (147, false), .pur .mov [.tmp 12]⟩, ⟨some 150, some (147, false), .pur (.bin .neq) [.tmp 148, .tmp 149]⟩, ⟨some 151, none, .pur .pick [.tmp 147, .const (.bool true), .tmp 150]⟩]) [151])
  (.cond (.tmp 151) (.seq (.reg (straight [⟨some 2, none, .pur .mov [.const (.bool false)]⟩]) [2])
  (.ret)) (.skip))))))))))
  (.reg (straight [⟨some 46, none, .pur .mov [.tmp 9]⟩, ⟨some 47, none, .pur (.bin .add) [.tmp 46, .const (.int .i64 1)]⟩, ⟨some 9, none, .pur .mov [.tmp 47]⟩]) [9]))
def S_forebaylaw38_PictureSizes : Fun := ⟨172, [2, 16, 0, 23, 6, 37, 3, 5, 9, 45, 8, 65, 4, 67, 7, 93, 13, 100, 109, 10, 118, 11, 14, 127, 137, 12, 151], [.tmp 2],
  .seq (.reg (straight [⟨some 2, none, .pur .mov [.const (.bool false)]⟩]) [2])
  (.seq (.seq (.reg (straight [⟨some 15, none, .eff (.call 15) []⟩, ⟨some 16, none, .pur .not [.tmp 15]⟩]) [16])
  (.cond (.tmp 16) (.seq (.reg (straight [⟨some 2, none, .pur .mov [.const (.bool false)]⟩]) [2])
  (.ret)) (.skip)))
  (.seq (.seq (.reg (straight [⟨some 17, none, .pur .mov [.tmp 0]⟩, ⟨some 18, none, .eff (.call 16) [.tmp 17]⟩, ⟨some 19, none, .pur .mov [.tmp 18]⟩, ⟨some 20, some (19, false), .pur .mov [.tmp 0]⟩, ⟨some 21, some (19, false), .eff (.call 25) [.tmp 20]⟩, ⟨some 22, some (19, false), .pur (.bin .neq) [.tmp 21, .const (.int .i64 0)]⟩, ⟨some 23, none, .pur .pick [.tmp 19, .const (.bool true), .tmp 22]⟩]) [23])
  (.cond (.tmp 23) (.seq (.reg (straight [⟨some 2, none, .pur .mov [.const (.bool true)]⟩]) [2])
  (.ret)) (.skip)))
  (.seq (.reg (straight [⟨some 25, none, .pur .mov [.tmp 0]⟩, ⟨some 26, none, .eff (.call 18) [.tmp 25]⟩, ⟨some 27, none, .eff (.call 20) [.tmp 26]⟩, ⟨some 24, none, .pur .mov [.tmp 27]⟩, ⟨some 28, none, .pur (.ext 0) [.tmp 24]⟩, ⟨some 29, none, .pur (.ext 1) [.tmp 24]⟩, ⟨some 3, none, .pur .mov [.tmp 28]⟩, ⟨some 4, none, .pur .mov [.tmp 29]⟩]) [3, 4])
  (.seq (.reg (straight [⟨some 31, none, .pur .mov [.tmp 0]⟩, ⟨some 32, none, .eff (.call 18) [.tmp 31]⟩, ⟨some 33, none, .eff (.call 17) [.tmp 32]⟩, ⟨some 30, none, .pur .mov [.tmp 33]⟩, ⟨some 34, none, .pur (.ext 0) [.tmp 30]⟩, ⟨some 35, none, .pur (.ext 1) [.tmp 30]⟩, ⟨some 5, none, .pur .mov [.tmp 34]⟩, ⟨some 6, none, .pur .mov [.tmp 35]⟩]) [5, 6])
  (.seq (.seq (.reg (straight [⟨some 36, none, .pur .mov [.tmp 6]⟩, ⟨some 37, none, .pur (.bin .neq) [.tmp 36, .const (.int .i64 0)]⟩]) [37])
  (.cond (.tmp 37) (.seq (.reg (straight [⟨some 2, none, .pur .mov [.const (.bool false)]⟩]) [2])
  (.ret)) (.skip)))
  (.seq (.reg (straight [⟨some 38, none, .pur .mov [.tmp 3]⟩, ⟨some 39, none, .eff (.call 26) [.tmp 38]⟩, ⟨some 40, none, .pur .mov [.tmp 5]⟩, ⟨some 41, none, .eff (.call 26) [.tmp 40]⟩, ⟨some 7, none, .pur .mov [.tmp 39]⟩, ⟨some 8, none, .pur .mov [.tmp 41]⟩]) [7, 8])
  (.seq (.seq (.reg (straight [⟨some 9, none, .pur .mov [.const (.int .i64 0)]⟩]) [9])
  (.block 0 (.loop S_forebaylaw38_PictureSizes_L1)))
  (.seq (.reg (straight [⟨some 152, none, .pur .mov [.tmp 8]⟩, ⟨some 153, none, .pur (.len false) [.tmp 152]⟩, ⟨some 154, none, .pur .mov [.tmp 0]⟩, ⟨some 155, none, .pur (.len false) [.tmp 154]⟩, ⟨some 156, none, .pur (.bin .eql) [.tmp 153, .tmp 155]⟩, ⟨some 157, none, .pur .mov [.tmp 156]⟩, ⟨some 158, some (157, true), .pur .mov [.tmp 4]⟩, ⟨some 159, some (157, true), .pur (.bin .neq) [.tmp 158, .const (.int .i64 0)]⟩, ⟨some 160, some (157, true), .pur .mov [.tmp 159]⟩, ⟨some 161, some (160, true), .pur .mov [.tmp 3]⟩, ⟨some 162, some (160, true), .pur (.bin .eql) [.tmp 161, .const (.string ⟨#[]⟩)]⟩, ⟨some 163, some (157, true), .pur .pick [.tmp 160, .tmp 162, .const (.bool false)]⟩, ⟨some 164, some (157, true), .pur .mov [.tmp 163]⟩, ⟨some 165, some (164, false), .pur .mov [.tmp 7]⟩, ⟨some 166, some (164, false), .pur (.len false) [.tmp 165]⟩, ⟨some 167, some (164, false), .pur .mov [.tmp 0]⟩, ⟨some 168, some (164, false), .pur (.len false) [.tmp 167]⟩, ⟨some 169, some (164, false), .pur (.bin .eql) [.tmp 166, .tmp 168]⟩, ⟨some 170, some (157, true), .pur .pick [.tmp 164, .const (.bool true), .tmp 169]⟩, ⟨some 171, none, .pur .pick [.tmp 157, .tmp 170, .const (.bool false)]⟩, ⟨some 2, none, .pur .mov [.tmp 171]⟩]) [2])
  (.ret)))))))))⟩
theorem K_forebaylaw38_PictureSizes : compF Tryd.prog 5 = some S_forebaylaw38_PictureSizes := by kernel_rfl

-- 15
def S_forebaylaw38_works : Fun := ⟨51, [0, 1, 2, 3, 4, 5, 7, 6], [.tmp 0],
  .seq (.reg (straight [⟨some 0, none, .pur .mov [.const (.bool false)]⟩]) [0])
  (.seq (.reg (straight [⟨some 8, none, .pur (.bld [.int .i64 0, .bool false] []) []⟩, ⟨some 9, none, .pur (.bld [.int .i64 0, .bool false] [(0, 1), (1, 1)]) [.const (.int .i64 2), .const (.bool true)]⟩, ⟨some 10, none, .pur (.bld [.int .i64 0, .bool false] [(0, 1)]) [.const (.int .i64 5)]⟩, ⟨some 11, none, .eff (.bsl 38 2) [.tmp 8, .tmp 9, .tmp 10]⟩, ⟨some 12, none, .eff (.bsl 36 1) [.tmp 11]⟩, ⟨some 1, none, .pur .mov [.tmp 12]⟩]) [1])
  (.seq (.reg (straight [⟨some 14, none, .pur .mov [.tmp 1]⟩, ⟨some 15, none, .eff (.call 17) [.tmp 14]⟩, ⟨some 13, none, .pur .mov [.tmp 15]⟩, ⟨some 16, none, .pur (.ext 0) [.tmp 13]⟩, ⟨some 17, none, .pur (.ext 1) [.tmp 13]⟩, ⟨some 2, none, .pur .mov [.tmp 16]⟩, ⟨some 3, none, .pur .mov [.tmp 17]⟩]) [2, 3])
  (.seq (.reg (straight [⟨some 19, none, .pur .mov [.tmp 1]⟩, ⟨some 20, none, .eff (.call 20) [.tmp 19]⟩, ⟨some 18, none, .pur .mov [.tmp 20]⟩, ⟨some 21, none, .pur (.ext 0) [.tmp 18]⟩, ⟨some 22, none, .pur (.ext 1) [.tmp 18]⟩, ⟨some 4, none, .pur .mov [.tmp 21]⟩, ⟨some 5, none, .pur .mov [.tmp 22]⟩]) [4, 5])
  (.seq (.reg (straight [⟨some 24, none, .pur .mov [.tmp 2]⟩, ⟨some 25, none, .eff (.call 22) [.tmp 24]⟩, ⟨some 23, none, .pur .mov [.tmp 25]⟩, ⟨some 26, none, .pur (.ext 0) [.tmp 23]⟩, ⟨some 27, none, .pur (.ext 1) [.tmp 23]⟩, ⟨some 6, none, .pur .mov [.tmp 26]⟩, ⟨some 7, none, .pur .mov [.tmp 27]⟩]) [6, 7])
  (.seq (.reg (straight [⟨some 28, none, .pur .mov [.tmp 2]⟩, ⟨some 29, none, .pur (.bin .eql) [.tmp 28, .const (.string ⟨#[48, 32, 62, 50, 32, 45, 53, 10]⟩)]⟩, ⟨some 30, none, .pur .mov [.tmp 29]⟩, ⟨some 31, some (30, true), .pur .mov [.tmp 3]⟩, ⟨some 32, some (30, true), .pur (.bin .eql) [.tmp 31, .const (.int .i64 0)]⟩, ⟨some 33, none, .pur .pick [.tmp 30, .tmp 32, .const (.bool false)]⟩, ⟨some 34, none, .pur .mov [.tmp 33]⟩, ⟨some 35, some (34, true), .pur .mov [.tmp 4]⟩, ⟨some 36, some (34, true), .pur (.bin .eql) [.tmp 35, .const (.string ⟨#[111, 46, 60, 46, 46, 111, 10]⟩)]⟩, ⟨some 37, none, .pur .pick [.tmp 34, .tmp 36, .const (.bool false)]⟩, ⟨some 38, none, .pur .mov [.tmp 37]⟩, ⟨some 39, some (38, true), .pur .mov [.tmp 5]⟩, ⟨some 40, some (38, true), .pur (.bin .eql) [.tmp 39, .const (.int .i64 0)]⟩, ⟨some 41, none, .pur .pick [.tmp 38, .tmp 40, .const (.bool false)]⟩, ⟨some 42, none, .pur .mov [.tmp 41]⟩, ⟨some 43, some (42, true), .pur .mov [.tmp 7]⟩, ⟨some 44, some (42, true), .pur (.bin .eql) [.tmp 43, .const (.int .i64 0)]⟩, ⟨some 45, none, .pur .pick [.tmp 42, .tmp 44, .const (.bool false)]⟩, ⟨some 46, none, .pur .mov [.tmp 45]⟩, ⟨some 47, some (46, true), .pur .mov [.tmp 6]⟩, ⟨some 48, some (46, true), .pur .mov [.tmp 1]⟩, ⟨some 49, some (46, true), .eff (.call 23) [.tmp 47, .tmp 48]⟩, ⟨some 50, none, .pur .pick [.tmp 46, .tmp 49, .const (.bool false)]⟩, ⟨some 0, none, .pur .mov [.tmp 50]⟩]) [0])
  (.ret))))))⟩
theorem K_forebaylaw38_works : compF Tryd.prog 15 = some S_forebaylaw38_works := by kernel_rfl

-- 16
def S_forebaylaw38_great_L1 : SCode :=
  .seq (.seq (.reg (straight [⟨some 5, none, .pur .mov [.tmp 4]⟩, ⟨some 6, none, .pur .mov [.tmp 0]⟩, ⟨some 7, none, .pur (.len false) [.tmp 6]⟩, ⟨some 8, none, .pur (.bin .lss) [.tmp 5, .tmp 7]⟩]) [8])
  (.cond (.tmp 8) (.skip) (.exit 0)))
  (.seq (.block 1 (.seq (.reg (straight [⟨some 11, none, .pur .mov [.tmp 3]⟩, ⟨some 12, none, .pur .mov [.tmp 0]⟩, ⟨some 13, none, .pur .mov [.tmp 4]⟩, ⟨some 14, none, .pur (.ixa 1) [.tmp 12, .tmp 13]⟩, ⟨some 15, none, .ld none (.tmp 14)⟩, ⟨some 16, none, .pur (.len false) [.tmp 15]⟩, ⟨some 17, none, .pur (.bin .add) [.tmp 11, .tmp 16]⟩, ⟨some 3, none, .pur .mov [.tmp 17]⟩]) [3])
  (.seq (.reg (straight [⟨some 18, none, .pur .mov [.tmp 4]⟩, ⟨some 19, none, .pur (.bin .gtr) [.tmp 18, .const (.int .i64 102)]⟩, ⟨some 20, none, .pur .mov [.tmp 19]⟩, ⟨some 21, some (20, false), .pur .mov [.tmp 0]⟩, ⟨some 22, some (20, false), .pur .mov [.tmp 4]⟩, ⟨some 23, some (20, false), .pur (.ixa 1) [.tmp 21, .tmp 22]⟩, ⟨some 24, some (20, false), .ld none (.tmp 23)⟩, ⟨some 25, some (20, false), .pur (.len false) [.tmp 24]⟩, ⟨some 26, some (20, false), .pur (.bin .gtr) [.tmp 25, .const (.int .i64 102)]⟩, ⟨some 27, none, .pur .pick [.tmp 20, .const (.bool true), .tmp 26]⟩, ⟨some 28, none, .pur .mov [.tmp 27]⟩, ⟨some 29, some (28, false), .pur .mov [.tmp 3]⟩, ⟨some 30, some (28, false), .pur (.bin .gtr) [.tmp 29, .const (.int .i64 400)]⟩, ⟨some 31, none, .pur .pick [.tmp 28, .const (.bool true), .tmp 30]⟩]) [31])
  (.cond (.tmp 31) (.seq (.reg (straight [⟨some 2, none, .pur .mov [.const (.bool true)]⟩]) [2])
  (.ret)) (.skip)))))
  (.reg (straight [⟨some 9, none, .pur .mov [.tmp 4]⟩, ⟨some 10, none, .pur (.bin .add) [.tmp 9, .const (.int .i64 1)]⟩, ⟨some 4, none, .pur .mov [.tmp 10]⟩]) [4]))
def S_forebaylaw38_great : Fun := ⟨32, [2, 4, 0, 8, 3, 31], [.tmp 2],
  .seq (.reg (straight [⟨some 2, none, .pur .mov [.const (.bool false)]⟩]) [2])
  (.seq (.reg (straight [⟨some 3, none, .pur .mov [.const (.int .i64 0)]⟩]) [3])
  (.seq (.seq (.reg (straight [⟨some 4, none, .pur .mov [.const (.int .i64 0)]⟩]) [4])
  (.block 0 (.loop S_forebaylaw38_great_L1)))
  (.seq (.reg (straight [⟨some 2, none, .pur .mov [.const (.bool false)]⟩]) [2])
  (.ret))))⟩
theorem K_forebaylaw38_great : compF Tryd.prog 16 = some S_forebaylaw38_great := by kernel_rfl

-- 17
def S_picture_Text_L2 : SCode :=
  .seq (.reg (straight [⟨some 25, none, .pur (.bin .lss) [.tmp 24, .tmp 23]⟩]) [25])
  (.seq (.cond (.tmp 25) (.skip) (.exit 2))
  (.seq (.block 3 (.seq (.reg (straight [⟨some 26, none, .pur .mov [.tmp 24]⟩, ⟨some 27, none, .pur (.ixa 2) [.tmp 22, .tmp 24]⟩, ⟨some 28, none, .ld (some 2) (.tmp 27)⟩, ⟨some 10, none, .eff (.new 38 [.int .i64 0, .bool false]) []⟩, ⟨some 9, none, .pur .mov [.tmp 26]⟩, ⟨none, none, .eff (.st 2) [.tmp 10, .tmp 28]⟩]) [10, 9])
  (.reg (.run ⟨some 29, none, .pur .mov [.tmp 8]⟩ (.run ⟨some 30, none, .ld (some 2) (.tmp 10)⟩ (.run ⟨some 31, none, .pur .mov [.tmp 9]⟩ (.run ⟨some 32, none, .pur (.bin .eql) [.tmp 31, .const (.int .i64 0)]⟩ (.run ⟨some 34, none, .pur (.fla 0) [.tmp 10]⟩ (.run ⟨some 35, none, .ld none (.tmp 34)⟩ (.eff ⟨some 33, none, .eff (.call 57) [.tmp 30, .tmp 32]⟩ [⟨some 35, none, .ld none (.tmp 34)⟩] (.eff ⟨some 36, none, .eff (.call 31) [.tmp 35]⟩ [] (.run ⟨some 37, none, .pur (.bin .add) [.tmp 33, .tmp 36]⟩ (.eff ⟨some 38, none, .eff (.bsl 9 1) [.tmp 37]⟩ [] (.eff ⟨some 39, none, .eff (.app 9 1 16 [.string ⟨#[]⟩]) [.tmp 29, .tmp 38]⟩ [] (.eff ⟨some 8, none, .pur .mov [.tmp 39]⟩ [] .done)))))))))))) [8])))
  (.reg (straight [⟨some 40, none, .pur (.bin .add) [.tmp 24, .const (.int .i64 1)]⟩, ⟨some 24, none, .pur .mov [.tmp 40]⟩]) [24])))
def S_picture_Text_L1 : SCode :=
  .seq (.reg (straight [⟨some 19, none, .pur (.bin .lss) [.tmp 18, .tmp 17]⟩]) [19])
  (.seq (.cond (.tmp 19) (.skip) (.exit 0))
  (.seq (.block 1 (.seq (.reg (straight [⟨some 20, none, .pur (.ixa 1) [.tmp 16, .tmp 18]⟩, ⟨some 21, none, .ld none (.tmp 20)⟩, ⟨some 7, none, .pur .mov [.tmp 21]⟩]) [7])
  (.seq (.reg (straight [⟨some 8, none, .pur .mov [.const (.slice none 0 0)]⟩]) [8])
  (.seq (.seq (.reg (straight [⟨some 22, none, .pur .mov [.tmp 7]⟩, ⟨some 23, none, .pur (.len false) [.tmp 22]⟩, ⟨some 24, none, .pur .mov [.const (.int .i64 0)]⟩]) [22, 23, 24])
  (.block 2 (.loop S_picture_Text_L2)))
  (.reg (straight [⟨some 41, none, .pur .mov [.tmp 8]⟩, ⟨some 42, none, .eff (.call 49) [.tmp 41]⟩, ⟨some 43, none, .pur (.bin .add) [.tmp 42, .const (.string ⟨#[10]⟩)]⟩, ⟨some 44, none, .eff (.call 58) [.tmp 5, .tmp 43]⟩]) [])))))
  (.reg (straight [⟨some 45, none, .pur (.bin .add) [.tmp 18, .const (.int .i64 1)]⟩, ⟨some 18, none, .pur .mov [.tmp 45]⟩]) [18])))
def S_picture_Text : Fun := ⟨47, [2, 3, 0, 4, 14, 18, 17, 19, 16, 7, 24, 23, 25, 22, 8, 10, 9, 5], [.tmp 2, .tmp 3],
  .seq (.reg (straight [⟨some 2, none, .pur .mov [.const (.string ⟨#[]⟩)]⟩, ⟨some 3, none, .pur .mov [.const (.int .i64 0)]⟩]) [2, 3])
  (.seq (.seq (.reg (straight [⟨some 11, none, .pur .mov [.tmp 0]⟩, ⟨some 12, none, .eff (.call 56) [.tmp 11]⟩, ⟨some 4, none, .pur .mov [.tmp 12]⟩]) [4])
  (.seq (.reg (straight [⟨some 13, none, .pur .mov [.tmp 4]⟩, ⟨some 14, none, .pur (.bin .neq) [.tmp 13, .const (.int .i64 0)]⟩]) [14])
  (.cond (.tmp 14) (.seq (.reg (straight [⟨some 15, none, .pur .mov [.tmp 4]⟩, ⟨some 2, none, .pur .mov [.const (.string ⟨#[]⟩)]⟩, ⟨some 3, none, .pur .mov [.tmp 15]⟩]) [2, 3])
  (.ret)) (.skip))))
  (.seq (.reg (straight [⟨some 5, none, .eff (.new 74 [.pointer none, .slice none 0 0]) []⟩]) [5])
  (.seq (.seq (.reg (straight [⟨some 16, none, .pur .mov [.tmp 0]⟩, ⟨some 17, none, .pur (.len false) [.tmp 16]⟩, ⟨some 18, none, .pur .mov [.const (.int .i64 0)]⟩]) [16, 17, 18])
  (.block 0 (.loop S_picture_Text_L1)))
  (.seq (.reg (straight [⟨some 46, none, .eff (.call 59) [.tmp 5]⟩, ⟨some 2, none, .pur .mov [.tmp 46]⟩, ⟨some 3, none, .pur .mov [.const (.int .i64 0)]⟩]) [2, 3])
  (.ret)))))⟩
theorem K_picture_Text : compF Tryd.prog 17 = some S_picture_Text := by kernel_rfl

-- 18
def S_forebaylaw38_own_L1 : SCode :=
  .seq (.seq (.reg (straight [⟨some 5, none, .pur .mov [.tmp 4]⟩, ⟨some 6, none, .pur .mov [.tmp 0]⟩, ⟨some 7, none, .pur (.len false) [.tmp 6]⟩, ⟨some 8, none, .pur (.bin .lss) [.tmp 5, .tmp 7]⟩]) [8])
  (.cond (.tmp 8) (.skip) (.exit 0)))
  (.seq (.block 1 (.reg (straight [⟨some 11, none, .pur .mov [.tmp 3]⟩, ⟨some 12, none, .eff (.bsl 38 2) []⟩, ⟨some 13, none, .pur .mov [.tmp 0]⟩, ⟨some 14, none, .pur .mov [.tmp 4]⟩, ⟨some 15, none, .pur (.ixa 1) [.tmp 13, .tmp 14]⟩, ⟨some 16, none, .ld none (.tmp 15)⟩, ⟨some 17, none, .eff (.app 38 2 16 [.int .i64 0, .bool false]) [.tmp 12, .tmp 16]⟩, ⟨some 18, none, .eff (.bsl 36 1) [.tmp 17]⟩, ⟨some 19, none, .eff (.app 36 1 24 [.slice none 0 0]) [.tmp 11, .tmp 18]⟩, ⟨some 3, none, .pur .mov [.tmp 19]⟩]) [3]))
  (.reg (straight [⟨some 9, none, .pur .mov [.tmp 4]⟩, ⟨some 10, none, .pur (.bin .add) [.tmp 9, .const (.int .i64 1)]⟩, ⟨some 4, none, .pur .mov [.tmp 10]⟩]) [4]))
def S_forebaylaw38_own : Fun := ⟨21, [2, 4, 0, 8, 3], [.tmp 2],
  .seq (.reg (straight [⟨some 2, none, .pur .mov [.const (.slice none 0 0)]⟩]) [2])
  (.seq (.reg (straight [⟨some 3, none, .pur .mov [.const (.slice none 0 0)]⟩]) [3])
  (.seq (.seq (.reg (straight [⟨some 4, none, .pur .mov [.const (.int .i64 0)]⟩]) [4])
  (.block 0 (.loop S_forebaylaw38_own_L1)))
  (.seq (.reg (straight [⟨some 20, none, .pur .mov [.tmp 3]⟩, ⟨some 2, none, .pur .mov [.tmp 20]⟩]) [2])
  (.ret))))⟩
theorem K_forebaylaw38_own : compF Tryd.prog 18 = some S_forebaylaw38_own := by kernel_rfl

-- 19
def S_forebayref38_Text_L2 : SCode :=
  .seq (.seq (.reg (straight [⟨some 20, none, .pur .mov [.tmp 7]⟩, ⟨some 21, none, .pur .mov [.tmp 0]⟩, ⟨some 22, none, .pur .mov [.tmp 6]⟩, ⟨some 23, none, .pur (.ixa 1) [.tmp 21, .tmp 22]⟩, ⟨some 24, none, .ld none (.tmp 23)⟩, ⟨some 25, none, .pur (.len false) [.tmp 24]⟩, ⟨some 26, none, .pur (.bin .lss) [.tmp 20, .tmp 25]⟩]) [26])
  (.cond (.tmp 26) (.skip) (.exit 2)))
  (.seq (.block 3 (.seq (.reg (straight [⟨some 29, none, .pur .mov [.tmp 0]⟩, ⟨some 30, none, .pur .mov [.tmp 6]⟩, ⟨some 31, none, .pur (.ixa 1) [.tmp 29, .tmp 30]⟩, ⟨some 32, none, .ld none (.tmp 31)⟩, ⟨some 33, none, .pur .mov [.tmp 7]⟩, ⟨some 34, none, .pur (.ixa 2) [.tmp 32, .tmp 33]⟩, ⟨some 35, none, .ld (some 2) (.tmp 34)⟩, ⟨some 8, none, .eff (.new 38 [.int .i64 0, .bool false]) []⟩, ⟨none, none, .eff (.st 2) [.tmp 8, .tmp 35]⟩]) [8])
  (.seq (.seq (.reg (straight [⟨some 36, none, .pur .mov [.tmp 7]⟩, ⟨some 37, none, .pur (.bin .gtr) [.tmp 36, .const (.int .i64 0)]⟩]) [37])
  (.cond (.tmp 37) (.reg (straight [⟨some 38, none, .pur .mov [.tmp 5]⟩, ⟨some 39, none, .pur (.bin .add) [.tmp 38, .const (.string ⟨#[32]⟩)]⟩, ⟨some 5, none, .pur .mov [.tmp 39]⟩]) [5]) (.skip)))
  (.seq (.seq (.reg (straight [⟨some 40, none, .pur (.fla 1) [.tmp 8]⟩, ⟨some 41, none, .ld none (.tmp 40)⟩]) [41])
  (.cond (.tmp 41) (.reg (straight [⟨some 42, none, .pur .mov [.tmp 5]⟩, ⟨some 43, none, .pur (.bin .add) [.tmp 42, .const (.string ⟨#[62]⟩)]⟩, ⟨some 5, none, .pur .mov [.tmp 43]⟩]) [5]) (.seq (.reg (straight [⟨some 44, none, .pur .mov [.tmp 7]⟩, ⟨some 45, none, .pur (.bin .gtr) [.tmp 44, .const (.int .i64 0)]⟩]) [45])
  (.cond (.tmp 45) (.reg (straight [⟨some 46, none, .pur .mov [.tmp 5]⟩, ⟨some 47, none, .pur (.bin .add) [.tmp 46, .const (.string ⟨#[45]⟩)]⟩, ⟨some 5, none, .pur .mov [.tmp 47]⟩]) [5]) (.skip)))))
  (.reg (straight [⟨some 48, none, .pur .mov [.tmp 5]⟩, ⟨some 49, none, .pur (.fla 0) [.tmp 8]⟩, ⟨some 50, none, .ld none (.tmp 49)⟩, ⟨some 51, none, .eff (.call 32) [.tmp 50]⟩, ⟨some 52, none, .pur (.bin .add) [.tmp 48, .tmp 51]⟩, ⟨some 5, none, .pur .mov [.tmp 52]⟩]) [5])))))
  (.reg (straight [⟨some 27, none, .pur .mov [.tmp 7]⟩, ⟨some 28, none, .pur (.bin .add) [.tmp 27, .const (.int .i64 1)]⟩, ⟨some 7, none, .pur .mov [.tmp 28]⟩]) [7]))
def S_forebayref38_Text_L1 : SCode :=
  .seq (.seq (.reg (straight [⟨some 14, none, .pur .mov [.tmp 6]⟩, ⟨some 15, none, .pur .mov [.tmp 0]⟩, ⟨some 16, none, .pur (.len false) [.tmp 15]⟩, ⟨some 17, none, .pur (.bin .lss) [.tmp 14, .tmp 16]⟩]) [17])
  (.cond (.tmp 17) (.skip) (.exit 0)))
  (.seq (.block 1 (.seq (.seq (.reg (straight [⟨some 7, none, .pur .mov [.const (.int .i64 0)]⟩]) [7])
  (.block 2 (.loop S_forebayref38_Text_L2)))
  (.reg (straight [⟨some 53, none, .pur .mov [.tmp 5]⟩, ⟨some 54, none, .pur (.bin .add) [.tmp 53, .const (.string ⟨#[10]⟩)]⟩, ⟨some 5, none, .pur .mov [.tmp 54]⟩]) [5])))
  (.reg (straight [⟨some 18, none, .pur .mov [.tmp 6]⟩, ⟨some 19, none, .pur (.bin .add) [.tmp 18, .const (.int .i64 1)]⟩, ⟨some 6, none, .pur .mov [.tmp 19]⟩]) [6]))
def S_forebayref38_Text : Fun := ⟨56, [2, 3, 0, 4, 12, 6, 17, 7, 26, 37, 5, 8, 41, 45], [.tmp 2, .tmp 3],
  .seq (.reg (straight [⟨some 2, none, .pur .mov [.const (.string ⟨#[]⟩)]⟩, ⟨some 3, none, .pur .mov [.const (.int .i64 0)]⟩]) [2, 3])
  (.seq (.reg (straight [⟨some 9, none, .pur .mov [.tmp 0]⟩, ⟨some 10, none, .eff (.call 25) [.tmp 9]⟩, ⟨some 4, none, .pur .mov [.tmp 10]⟩]) [4])
  (.seq (.seq (.reg (straight [⟨some 11, none, .pur .mov [.tmp 4]⟩, ⟨some 12, none, .pur (.bin .neq) [.tmp 11, .const (.int .i64 0)]⟩]) [12])
  (.cond (.tmp 12) (.seq (.reg (straight [⟨some 13, none, .pur .mov [.tmp 4]⟩, ⟨some 2, none, .pur .mov [.const (.string ⟨#[]⟩)]⟩, ⟨some 3, none, .pur .mov [.tmp 13]⟩]) [2, 3])
  (.ret)) (.skip)))
  (.seq (.reg (straight [⟨some 5, none, .pur .mov [.const (.string ⟨#[]⟩)]⟩]) [5])
  (.seq (.seq (.reg (straight [⟨some 6, none, .pur .mov [.const (.int .i64 0)]⟩]) [6])
  (.block 0 (.loop S_forebayref38_Text_L1)))
  (.seq (.reg (straight [⟨some 55, none, .pur .mov [.tmp 5]⟩, ⟨some 2, none, .pur .mov [.tmp 55]⟩, ⟨some 3, none, .pur .mov [.const (.int .i64 0)]⟩]) [2, 3])
  (.ret))))))⟩
theorem K_forebayref38_Text : compF Tryd.prog 19 = some S_forebayref38_Text := by kernel_rfl

-- 20
def S_picture_Chart_L1 : SCode :=
  .seq (.reg (straight [⟨some 18, none, .pur (.bin .lss) [.tmp 17, .tmp 16]⟩]) [18])
  (.seq (.cond (.tmp 18) (.skip) (.exit 0))
  (.seq (.block 1 (.seq (.reg (straight [⟨some 19, none, .pur (.ixa 1) [.tmp 15, .tmp 17]⟩, ⟨some 20, none, .ld none (.tmp 19)⟩, ⟨some 7, none, .pur .mov [.tmp 20]⟩]) [7])
  (.seq (.reg (straight [⟨some 22, none, .pur .mov [.tmp 7]⟩, ⟨some 23, none, .eff (.call 60) [.tmp 22]⟩, ⟨some 21, none, .pur .mov [.tmp 23]⟩, ⟨some 24, none, .pur (.ext 0) [.tmp 21]⟩, ⟨some 25, none, .pur (.ext 1) [.tmp 21]⟩, ⟨some 8, none, .pur .mov [.tmp 24]⟩, ⟨some 9, none, .pur .mov [.tmp 25]⟩]) [8, 9])
  (.seq (.seq (.reg (straight [⟨some 26, none, .pur .mov [.tmp 9]⟩, ⟨some 27, none, .pur .not [.tmp 26]⟩]) [27])
  (.cond (.tmp 27) (.seq (.reg (straight [⟨some 2, none, .pur .mov [.const (.string ⟨#[]⟩)]⟩, ⟨some 3, none, .pur .mov [.const (.int .i64 3)]⟩]) [2, 3])
  (.ret)) (.skip)))
  (.reg (straight [⟨some 28, none, .pur .mov [.tmp 5]⟩, ⟨some 29, none, .pur .mov [.tmp 8]⟩, ⟨some 30, none, .pur (.bin .add) [.tmp 29, .const (.string ⟨#[10]⟩)]⟩, ⟨some 31, none, .pur (.bin .add) [.tmp 28, .tmp 30]⟩, ⟨some 5, none, .pur .mov [.tmp 31]⟩]) [5])))))
  (.reg (straight [⟨some 32, none, .pur (.bin .add) [.tmp 17, .const (.int .i64 1)]⟩, ⟨some 17, none, .pur .mov [.tmp 32]⟩]) [17])))
def S_picture_Chart : Fun := ⟨34, [2, 3, 0, 4, 13, 17, 16, 18, 15, 7, 9, 27, 5, 8], [.tmp 2, .tmp 3],
  .seq (.reg (straight [⟨some 2, none, .pur .mov [.const (.string ⟨#[]⟩)]⟩, ⟨some 3, none, .pur .mov [.const (.int .i64 0)]⟩]) [2, 3])
  (.seq (.seq (.reg (straight [⟨some 10, none, .pur .mov [.tmp 0]⟩, ⟨some 11, none, .eff (.call 56) [.tmp 10]⟩, ⟨some 4, none, .pur .mov [.tmp 11]⟩]) [4])
  (.seq (.reg (straight [⟨some 12, none, .pur .mov [.tmp 4]⟩, ⟨some 13, none, .pur (.bin .neq) [.tmp 12, .const (.int .i64 0)]⟩]) [13])
  (.cond (.tmp 13) (.seq (.reg (straight [⟨some 14, none, .pur .mov [.tmp 4]⟩, ⟨some 2, none, .pur .mov [.const (.string ⟨#[]⟩)]⟩, ⟨some 3, none, .pur .mov [.tmp 14]⟩]) [2, 3])
  (.ret)) (.skip))))
  (.seq (.reg (straight [⟨some 5, none, .pur .mov [.const (.string ⟨#[]⟩)]⟩]) [5])
  (.seq (.seq (.reg (straight [⟨some 15, none, .pur .mov [.tmp 0]⟩, ⟨some 16, none, .pur (.len false) [.tmp 15]⟩, ⟨some 17, none, .pur .mov [.const (.int .i64 0)]⟩]) [15, 16, 17])
  (.block 0 (.loop S_picture_Chart_L1)))
  (.seq (.reg (straight [⟨some 33, none, .pur .mov [.tmp 5]⟩, ⟨some 2, none, .pur .mov [.tmp 33]⟩, ⟨some 3, none, .pur .mov [.const (.int .i64 0)]⟩]) [2, 3])
  (.ret)))))⟩
theorem K_picture_Chart : compF Tryd.prog 20 = some S_picture_Chart := by kernel_rfl

-- 21
def S_forebayref38_Chart_L3 : SCode :=
  .seq (.seq (.reg (straight [⟨some 42, none, .pur .mov [.tmp 10]⟩, ⟨some 43, none, .pur .mov [.tmp 0]⟩, ⟨some 44, none, .pur .mov [.tmp 6]⟩, ⟨some 45, none, .pur (.ixa 1) [.tmp 43, .tmp 44]⟩, ⟨some 46, none, .ld none (.tmp 45)⟩, ⟨some 47, none, .pur (.len false) [.tmp 46]⟩, ⟨some 48, none, .pur (.bin .lss) [.tmp 42, .tmp 47]⟩]) [48])
  (.cond (.tmp 48) (.skip) (.exit 4)))
  (.seq (.block 5 (.seq (.reg (straight [⟨some 51, none, .pur .mov [.tmp 0]⟩, ⟨some 52, none, .pur .mov [.tmp 6]⟩, ⟨some 53, none, .pur (.ixa 1) [.tmp 51, .tmp 52]⟩, ⟨some 54, none, .ld none (.tmp 53)⟩, ⟨some 55, none, .pur .mov [.tmp 10]⟩, ⟨some 56, none, .pur (.ixa 2) [.tmp 54, .tmp 55]⟩, ⟨some 57, none, .pur (.fla 0) [.tmp 56]⟩, ⟨some 58, none, .ld none (.tmp 57)⟩, ⟨some 59, none, .pur .mov [.tmp 8]⟩, ⟨some 60, none, .pur (.bin .eql) [.tmp 58, .tmp 59]⟩]) [60])
  (.cond (.tmp 60) (.seq (.reg (straight [⟨some 9, none, .pur .mov [.const (.string ⟨#[111]⟩)]⟩]) [9])
  (.seq (.reg (straight [⟨some 61, none, .pur .mov [.tmp 0]⟩, ⟨some 62, none, .pur .mov [.tmp 6]⟩, ⟨some 63, none, .pur (.ixa 1) [.tmp 61, .tmp 62]⟩, ⟨some 64, none, .ld none (.tmp 63)⟩, ⟨some 65, none, .pur .mov [.tmp 10]⟩, ⟨some 66, none, .pur (.ixa 2) [.tmp 64, .tmp 65]⟩, ⟨some 67, none, .pur (.fla 1) [.tmp 66]⟩, ⟨some 68, none, .ld none (.tmp 67)⟩]) [68])
  (.cond (.tmp 68) (.reg (straight [⟨some 9, none, .pur .mov [.const (.string ⟨#[60]⟩)]⟩]) [9]) (.skip)))) (.skip))))
  (.reg (straight [⟨some 49, none, .pur .mov [.tmp 10]⟩, ⟨some 50, none, .pur (.bin .add) [.tmp 49, .const (.int .i64 1)]⟩, ⟨some 10, none, .pur .mov [.tmp 50]⟩]) [10]))
def S_forebayref38_Chart_L2 : SCode :=
  .seq (.seq (.reg (straight [⟨some 37, none, .pur .mov [.tmp 8]⟩, ⟨some 38, none, .pur .mov [.tmp 7]⟩, ⟨some 39, none, .pur (.bin .leq) [.tmp 37, .tmp 38]⟩]) [39])
  (.cond (.tmp 39) (.skip) (.exit 2)))
  (.seq (.block 3 (.seq (.reg (straight [⟨some 9, none, .pur .mov [.const (.string ⟨#[46]⟩)]⟩]) [9])
  (.seq (.seq (.reg (straight [⟨some 10, none, .pur .mov [.const (.int .i64 0)]⟩]) [10])
  (.block 4 (.loop S_forebayref38_Chart_L3)))
  (.reg (straight [⟨some 69, none, .pur .mov [.tmp 5]⟩, ⟨some 70, none, .pur .mov [.tmp 9]⟩, ⟨some 71, none, .pur (.bin .add) [.tmp 69, .tmp 70]⟩, ⟨some 5, none, .pur .mov [.tmp 71]⟩]) [5]))))
  (.reg (straight [⟨some 40, none, .pur .mov [.tmp 8]⟩, ⟨some 41, none, .pur (.bin .add) [.tmp 40, .const (.int .i64 1)]⟩, ⟨some 8, none, .pur .mov [.tmp 41]⟩]) [8]))
def S_forebayref38_Chart_L1 : SCode :=
  .seq (.seq (.reg (straight [⟨some 16, none, .pur .mov [.tmp 6]⟩, ⟨some 17, none, .pur .mov [.tmp 0]⟩, ⟨some 18, none, .pur (.len false) [.tmp 17]⟩, ⟨some 19, none, .pur (.bin .lss) [.tmp 16, .tmp 18]⟩]) [19])
  (.cond (.tmp 19) (.skip) (.exit 0)))
  (.seq (.block 1 (.seq (.reg (straight [⟨some 22, none, .pur .mov [.tmp 0]⟩, ⟨some 23, none, .pur .mov [.tmp 6]⟩, ⟨some 24, none, .pur (.ixa 1) [.tmp 22, .tmp 23]⟩, ⟨some 25, none, .ld none (.tmp 24)⟩, ⟨some 26, none, .pur .mov [.tmp 0]⟩, ⟨some 27, none, .pur .mov [.tmp 6]⟩, ⟨some 28, none, .pur (.ixa 1) [.tmp 26, .tmp 27]⟩, ⟨some 29, none, .ld none (.tmp 28)⟩, ⟨some 30, none, .pur (.len false) [.tmp 29]⟩, ⟨some 31, none, .pur (.bin .sub) [.tmp 30, .const (.int .i64 1)]⟩, ⟨some 32, none, .pur (.ixa 2) [.tmp 25, .tmp 31]⟩, ⟨some 33, none, .pur (.fla 0) [.tmp 32]⟩, ⟨some 34, none, .ld none (.tmp 33)⟩, ⟨some 7, none, .pur .mov [.tmp 34]⟩]) [7])
  (.seq (.seq (.reg (straight [⟨some 35, none, .pur .mov [.tmp 7]⟩, ⟨some 36, none, .pur (.bin .gtr) [.tmp 35, .const (.int .i64 199)]⟩]) [36])
  (.cond (.tmp 36) (.seq (.reg (straight [⟨some 2, none, .pur .mov [.const (.string ⟨#[]⟩)]⟩, ⟨some 3, none, .pur .mov [.const (.int .i64 3)]⟩]) [2, 3])
  (.ret)) (.skip)))
  (.seq (.seq (.reg (straight [⟨some 8, none, .pur .mov [.const (.int .i64 0)]⟩]) [8])
  (.block 2 (.loop S_forebayref38_Chart_L2)))
  (.reg (straight [⟨some 72, none, .pur .mov [.tmp 5]⟩, ⟨some 73, none, .pur (.bin .add) [.tmp 72, .const (.string ⟨#[10]⟩)]⟩, ⟨some 5, none, .pur .mov [.tmp 73]⟩]) [5])))))
  (.reg (straight [⟨some 20, none, .pur .mov [.tmp 6]⟩, ⟨some 21, none, .pur (.bin .add) [.tmp 20, .const (.int .i64 1)]⟩, ⟨some 6, none, .pur .mov [.tmp 21]⟩]) [6]))
def S_forebayref38_Chart : Fun := ⟨75, [2, 3, 0, 4, 14, 6, 19, 7, 36, 8, 39, 10, 48, 60, 68, 5, 9], [.tmp 2, .tmp 3],
  .seq (.reg (straight [⟨some 2, none, .pur .mov [.const (.string ⟨#[]⟩)]⟩, ⟨some 3, none, .pur .mov [.const (.int .i64 0)]⟩]) [2, 3])
  (.seq (.reg (straight [⟨some 11, none, .pur .mov [.tmp 0]⟩, ⟨some 12, none, .eff (.call 25) [.tmp 11]⟩, ⟨some 4, none, .pur .mov [.tmp 12]⟩]) [4])
  (.seq (.seq (.reg (straight [⟨some 13, none, .pur .mov [.tmp 4]⟩, ⟨some 14, none, .pur (.bin .neq) [.tmp 13, .const (.int .i64 0)]⟩]) [14])
  (.cond (.tmp 14) (.seq (.reg (straight [⟨some 15, none, .pur .mov [.tmp 4]⟩, ⟨some 2, none, .pur .mov [.const (.string ⟨#[]⟩)]⟩, ⟨some 3, none, .pur .mov [.tmp 15]⟩]) [2, 3])
  (.ret)) (.skip)))
  (.seq (.reg (straight [⟨some 5, none, .pur .mov [.const (.string ⟨#[]⟩)]⟩]) [5])
  (.seq (.seq (.reg (straight [⟨some 6, none, .pur .mov [.const (.int .i64 0)]⟩]) [6])
  (.block 0 (.loop S_forebayref38_Chart_L1)))
  (.seq (.reg (straight [⟨some 74, none, .pur .mov [.tmp 5]⟩, ⟨some 2, none, .pur .mov [.tmp 74]⟩, ⟨some 3, none, .pur .mov [.const (.int .i64 0)]⟩]) [2, 3])
  (.ret))))))⟩
theorem K_forebayref38_Chart : compF Tryd.prog 21 = some S_forebayref38_Chart := by kernel_rfl

-- 22
def S_picture_Read_L2 : SCode :=
  .seq (.reg (straight [⟨some 27, none, .pur (.bin .lss) [.tmp 26, .tmp 25]⟩]) [27])
  (.seq (.cond (.tmp 27) (.skip) (.exit 2))
  (.seq (.block 3 (.seq (.reg (straight [⟨some 28, none, .pur .mov [.tmp 26]⟩, ⟨some 29, none, .pur (.ixa 1) [.tmp 24, .tmp 26]⟩, ⟨some 30, none, .ld none (.tmp 29)⟩, ⟨some 8, none, .pur .mov [.tmp 28]⟩, ⟨some 9, none, .pur .mov [.tmp 30]⟩]) [8, 9])
  (.seq (.reg (straight [⟨some 32, none, .pur .mov [.tmp 9]⟩, ⟨some 33, none, .pur .mov [.tmp 8]⟩, ⟨some 34, none, .pur (.bin .eql) [.tmp 33, .const (.int .i64 0)]⟩, ⟨some 35, none, .eff (.call 61) [.tmp 32, .tmp 34]⟩, ⟨some 31, none, .pur .mov [.tmp 35]⟩, ⟨some 36, none, .pur (.ext 0) [.tmp 31]⟩, ⟨some 37, none, .pur (.ext 1) [.tmp 31]⟩, ⟨some 10, none, .eff (.new 38 [.int .i64 0, .bool false]) []⟩, ⟨none, none, .eff (.st 2) [.tmp 10, .tmp 36]⟩, ⟨some 11, none, .pur .mov [.tmp 37]⟩]) [10, 11])
  (.seq (.seq (.reg (straight [⟨some 38, none, .pur .mov [.tmp 11]⟩, ⟨some 39, none, .pur .not [.tmp 38]⟩]) [39])
  (.cond (.tmp 39) (.seq (.reg (straight [⟨some 2, none, .pur .mov [.const (.slice none 0 0)]⟩, ⟨some 3, none, .pur .mov [.const (.int .i64 4)]⟩]) [2, 3])
  (.ret)) (.skip)))
  (.reg (straight [⟨some 40, none, .pur .mov [.tmp 7]⟩, ⟨some 41, none, .ld (some 2) (.tmp 10)⟩, ⟨some 42, none, .eff (.bsl 38 2) [.tmp 41]⟩, ⟨some 43, none, .eff (.app 38 2 16 [.int .i64 0, .bool false]) [.tmp 40, .tmp 42]⟩, ⟨some 7, none, .pur .mov [.tmp 43]⟩]) [7])))))
  (.reg (straight [⟨some 44, none, .pur (.bin .add) [.tmp 26, .const (.int .i64 1)]⟩, ⟨some 26, none, .pur .mov [.tmp 44]⟩]) [26])))
def S_picture_Read_L1 : SCode :=
  .seq (.reg (straight [⟨some 20, none, .pur (.bin .lss) [.tmp 19, .tmp 18]⟩]) [20])
  (.seq (.cond (.tmp 20) (.skip) (.exit 0))
  (.seq (.block 1 (.seq (.reg (straight [⟨some 21, none, .pur (.ixa 1) [.tmp 17, .tmp 19]⟩, ⟨some 22, none, .ld none (.tmp 21)⟩, ⟨some 6, none, .pur .mov [.tmp 22]⟩]) [6])
  (.seq (.reg (straight [⟨some 7, none, .pur .mov [.const (.slice none 0 0)]⟩]) [7])
  (.seq (.seq (.reg (straight [⟨some 23, none, .pur .mov [.tmp 6]⟩, ⟨some 24, none, .eff (.call 47) [.tmp 23]⟩, ⟨some 25, none, .pur (.len false) [.tmp 24]⟩, ⟨some 26, none, .pur .mov [.const (.int .i64 0)]⟩]) [24, 25, 26])
  (.block 2 (.loop S_picture_Read_L2)))
  (.reg (straight [⟨some 45, none, .pur .mov [.tmp 4]⟩, ⟨some 46, none, .pur .mov [.tmp 7]⟩, ⟨some 47, none, .eff (.bsl 36 1) [.tmp 46]⟩, ⟨some 48, none, .eff (.app 36 1 24 [.slice none 0 0]) [.tmp 45, .tmp 47]⟩, ⟨some 4, none, .pur .mov [.tmp 48]⟩]) [4])))))
  (.reg (straight [⟨some 49, none, .pur (.bin .add) [.tmp 19, .const (.int .i64 1)]⟩, ⟨some 19, none, .pur .mov [.tmp 49]⟩]) [19])))
def S_picture_Read : Fun := ⟨56, [2, 3, 0, 15, 19, 18, 20, 17, 6, 26, 25, 27, 24, 9, 8, 11, 39, 7, 10, 4, 12, 53], [.tmp 2, .tmp 3],
  .seq (.reg (straight [⟨some 2, none, .pur .mov [.const (.slice none 0 0)]⟩, ⟨some 3, none, .pur .mov [.const (.int .i64 0)]⟩]) [2, 3])
  (.seq (.seq (.reg (straight [⟨some 13, none, .pur .mov [.tmp 0]⟩, ⟨some 14, none, .pur (.len true) [.tmp 13]⟩, ⟨some 15, none, .pur (.bin .gtr) [.tmp 14, .const (.int .i64 200000)]⟩]) [15])
  (.cond (.tmp 15) (.seq (.reg (straight [⟨some 2, none, .pur .mov [.const (.slice none 0 0)]⟩, ⟨some 3, none, .pur .mov [.const (.int .i64 9)]⟩]) [2, 3])
  (.ret)) (.skip)))
  (.seq (.reg (straight [⟨some 4, none, .pur .mov [.const (.slice none 0 0)]⟩]) [4])
  (.seq (.seq (.reg (straight [⟨some 16, none, .pur .mov [.tmp 0]⟩, ⟨some 17, none, .eff (.call 48) [.tmp 16]⟩, ⟨some 18, none, .pur (.len false) [.tmp 17]⟩, ⟨some 19, none, .pur .mov [.const (.int .i64 0)]⟩]) [17, 18, 19])
  (.block 0 (.loop S_picture_Read_L1)))
  (.seq (.seq (.reg (straight [⟨some 50, none, .pur .mov [.tmp 4]⟩, ⟨some 51, none, .eff (.call 56) [.tmp 50]⟩, ⟨some 12, none, .pur .mov [.tmp 51]⟩]) [12])
  (.seq (.reg (straight [⟨some 52, none, .pur .mov [.tmp 12]⟩, ⟨some 53, none, .pur (.bin .neq) [.tmp 52, .const (.int .i64 0)]⟩]) [53])
  (.cond (.tmp 53) (.seq (.reg (straight [⟨some 54, none, .pur .mov [.tmp 12]⟩, ⟨some 2, none, .pur .mov [.const (.slice none 0 0)]⟩, ⟨some 3, none, .pur .mov [.tmp 54]⟩]) [2, 3])
  (.ret)) (.skip))))
  (.seq (.reg (straight [⟨some 55, none, .pur .mov [.tmp 4]⟩, ⟨some 2, none, .pur .mov [.tmp 55]⟩, ⟨some 3, none, .pur .mov [.const (.int .i64 0)]⟩]) [2, 3])
  (.ret))))))⟩
theorem K_picture_Read : compF Tryd.prog 22 = some S_picture_Read := by kernel_rfl

-- 23
def S_forebayref38_Same_L2 : SCode :=
  .seq (.seq (.reg (straight [⟨some 29, none, .pur .mov [.tmp 6]⟩, ⟨some 30, none, .pur .mov [.tmp 0]⟩, ⟨some 31, none, .pur .mov [.tmp 5]⟩, ⟨some 32, none, .pur (.ixa 1) [.tmp 30, .tmp 31]⟩, ⟨some 33, none, .ld none (.tmp 32)⟩, ⟨some 34, none, .pur (.len false) [.tmp 33]⟩, ⟨some 35, none, .pur (.bin .lss) [.tmp 29, .tmp 34]⟩]) [35])
  (.cond (.tmp 35) (.skip) (.exit 2)))
  (.seq (.block 3 (.seq (.reg (straight [⟨some 38, none, .pur .mov [.tmp 0]⟩, ⟨some 39, none, .pur .mov [.tmp 5]⟩, ⟨some 40, none, .pur (.ixa 1) [.tmp 38, .tmp 39]⟩, ⟨some 41, none, .ld none (.tmp 40)⟩, ⟨some 42, none, .pur .mov [.tmp 6]⟩, ⟨some 43, none, .pur (.ixa 2) [.tmp 41, .tmp 42]⟩, ⟨some 44, none, .ld (some 2) (.tmp 43)⟩, ⟨some 45, none, .pur .mov [.tmp 1]⟩, ⟨some 46, none, .pur .mov [.tmp 5]⟩, ⟨some 47, none, .pur (.ixa 1) [.tmp 45, .tmp 46]⟩, ⟨some 48, none, .ld none (.tmp 47)⟩, ⟨some 49, none, .pur .mov [.tmp 6]⟩, ⟨some 50, none, .pur (.ixa 2) [.tmp 48, .tmp 49]⟩, ⟨some 51, none, .ld (some 2) (.tmp 50)⟩, ⟨some 52, none, .pur (.eqs true [.int .i64, .bool]) [.tmp 44, .tmp 51]⟩]) [52])
  (.cond (.tmp 52) (.seq (.reg (straight [⟨some 4, none, .pur .mov [.const (.bool false)]⟩]) [4])
  (.ret)) (.skip))))
  (.reg (straight [⟨some 36, none, .pur .mov [.tmp 6]⟩, ⟨some 37, none, .pur (.bin .add) [.tmp 36, .const (.int .i64 1)]⟩, ⟨some 6, none, .pur .mov [.tmp 37]⟩]) [6]))
def S_forebayref38_Same_L1 : SCode :=
  .seq (.seq (.reg (straight [⟨some 12, none, .pur .mov [.tmp 5]⟩, ⟨some 13, none, .pur .mov [.tmp 0]⟩, ⟨some 14, none, .pur (.len false) [.tmp 13]⟩, ⟨some 15, none, .pur (.bin .lss) [.tmp 12, .tmp 14]⟩]) [15])
  (.cond (.tmp 15) (.skip) (.exit 0)))
  (.seq (.block 1 (.seq (.seq (.reg (straight [⟨some 18, none, .pur .mov [.tmp 0]⟩, ⟨some 19, none, .pur .mov [.tmp 5]⟩, ⟨some 20, none, .pur (.ixa 1) [.tmp 18, .tmp 19]⟩, ⟨some 21, none, .ld none (.tmp 20)⟩, ⟨some 22, none, .pur (.len false) [.tmp 21]⟩, ⟨some 23, none, .pur .mov [.tmp 1]⟩, ⟨some 24, none, .pur .mov [.tmp 5]⟩, ⟨some 25, none, .pur (.ixa 1) [.tmp 23, .tmp 24]⟩, ⟨some 26, none, .ld none (.tmp 25)⟩, ⟨some 27, none, .pur (.len false) [.tmp 26]⟩, ⟨some 28, none, .pur (.bin .neq) [.tmp 22, .tmp 27]⟩]) [28])
  (.cond (.tmp 28) (.seq (.reg (straight [⟨some 4, none, .pur .mov [.const (.bool false)]⟩]) [4])
  (.ret)) (.skip)))
  (.seq (.reg (straight [⟨some 6, none, .pur .mov [.const (.int .i64 0)]⟩]) [6])
  (.block 2 (.loop S_forebayref38_Same_L2)))))
  (.reg (straight [⟨some 16, none, .pur .mov [.tmp 5]⟩, ⟨some 17, none, .pur (.bin .add) [.tmp 16, .const (.int .i64 1)]⟩, ⟨some 5, none, .pur .mov [.tmp 17]⟩]) [5]))
def S_forebayref38_Same : Fun := ⟨53, [4, 0, 1, 11, 5, 15, 28, 6, 35, 52], [.tmp 4],
  .seq (.reg (straight [⟨some 4, none, .pur .mov [.const (.bool false)]⟩]) [4])
  (.seq (.seq (.reg (straight [⟨some 7, none, .pur .mov [.tmp 0]⟩, ⟨some 8, none, .pur (.len false) [.tmp 7]⟩, ⟨some 9, none, .pur .mov [.tmp 1]⟩, ⟨some 10, none, .pur (.len false) [.tmp 9]⟩, ⟨some 11, none, .pur (.bin .neq) [.tmp 8, .tmp 10]⟩]) [11])
  (.cond (.tmp 11) (.seq (.reg (straight [⟨some 4, none, .pur .mov [.const (.bool false)]⟩]) [4])
  (.ret)) (.skip)))
  (.seq (.seq (.reg (straight [⟨some 5, none, .pur .mov [.const (.int .i64 0)]⟩]) [5])
  (.block 0 (.loop S_forebayref38_Same_L1)))
  (.seq (.reg (straight [⟨some 4, none, .pur .mov [.const (.bool true)]⟩]) [4])
  (.ret))))⟩
theorem K_forebayref38_Same : compF Tryd.prog 23 = some S_forebayref38_Same := by kernel_rfl

-- 24
def S_forebayref38_Read_L2 : SCode :=
  .seq (.seq (.reg (straight [⟨some 32, none, .pur .mov [.tmp 9]⟩, ⟨some 33, none, .pur .mov [.tmp 7]⟩, ⟨some 34, none, .pur (.len false) [.tmp 33]⟩, ⟨some 35, none, .pur (.bin .lss) [.tmp 32, .tmp 34]⟩]) [35])
  (.cond (.tmp 35) (.skip) (.exit 2)))
  (.seq (.block 3 (.seq (.reg (straight [⟨some 38, none, .pur .mov [.tmp 7]⟩, ⟨some 39, none, .pur .mov [.tmp 9]⟩, ⟨some 40, none, .pur (.ixa 1) [.tmp 38, .tmp 39]⟩, ⟨some 41, none, .ld none (.tmp 40)⟩, ⟨some 42, none, .pur (.bld [.int .i64 0, .bool false] []) []⟩, ⟨some 11, none, .eff (.new 38 [.int .i64 0, .bool false]) []⟩, ⟨some 10, none, .pur .mov [.tmp 41]⟩, ⟨none, none, .eff (.st 2) [.tmp 11, .tmp 42]⟩]) [11, 10])
  (.seq (.reg (straight [⟨some 43, none, .pur .mov [.tmp 10]⟩, ⟨some 44, none, .pur .ixs [.tmp 43, .const (.int .i64 0)]⟩, ⟨some 45, none, .pur (.bin .eql) [.tmp 44, .const (.int .u8 62)]⟩, ⟨some 46, none, .pur .mov [.tmp 45]⟩, ⟨some 47, some (46, false), .pur .mov [.tmp 10]⟩, ⟨some 48, some (46, false), .pur .ixs [.tmp 47, .const (.int .i64 0)]⟩, ⟨some 49, some (46, false), .pur (.bin .eql) [.tmp 48, .const (.int .u8 45)]⟩, ⟨some 50, none, .pur .pick [.tmp 46, .const (.bool true), .tmp 49]⟩, ⟨some 12, none, .pur .mov [.tmp 50]⟩]) [12])
  (.seq (.seq (.reg (straight [⟨some 51, none, .pur .mov [.tmp 12]⟩]) [51])
  (.cond (.tmp 51) (.seq (.reg (straight [⟨some 52, none, .pur .mov [.tmp 10]⟩, ⟨some 53, none, .pur .ixs [.tmp 52, .const (.int .i64 0)]⟩, ⟨some 54, none, .pur (.bin .eql) [.tmp 53, .const (.int .u8 62)]⟩, ⟨some 55, none, .pur (.fla 1) [.tmp 11]⟩, ⟨none, none, .eff (.st 1) [.tmp 55, .tmp 54]⟩]) [])
  (.reg (straight [⟨some 56, none, .pur .mov [.tmp 10]⟩, ⟨some 57, none, .pur (.sls true false) [.tmp 56, .const (.int .i64 1)]⟩, ⟨some 10, none, .pur .mov [.tmp 57]⟩]) [10])) (.skip)))
  (.seq (.reg (straight [⟨some 59, none, .pur .mov [.tmp 10]⟩, ⟨some 60, none, .eff (.call 30) [.tmp 59]⟩, ⟨some 58, none, .pur .mov [.tmp 60]⟩, ⟨some 61, none, .pur (.ext 0) [.tmp 58]⟩, ⟨some 62, none, .pur (.ext 1) [.tmp 58]⟩, ⟨some 13, none, .pur .mov [.tmp 61]⟩, ⟨some 14, none, .pur .mov [.tmp 62]⟩]) [13, 14])
  (.seq (.seq (.reg (straight [⟨some 63, none, .pur .mov [.tmp 14]⟩, ⟨some 64, none, .pur .not [.tmp 63]⟩, ⟨some 65, none, .pur .mov [.tmp 64]⟩, ⟨some 66, some (65, false), .pur .mov [.tmp 12]⟩, ⟨some 67, some (65, false), .pur .not [.tmp 66]⟩, ⟨some 68, some (65, false), .pur .mov [.tmp 67]⟩, ⟨some 69, some (68, true), .pur .mov [.tmp 9]⟩, ⟨some 70, some (68, true), .pur (.bin .gtr) [.tmp 69, .const (.int .i64 0)]⟩, ⟨some 71, some (65, false), .pur .pick [.tmp 68, .tmp 70, .const (.bool false)]⟩, ⟨some 72, none, .pur .pick [.tmp 65, .const (.bool true), .tmp 71]⟩]) [72])
  (.cond (.tmp 72) (.seq (.reg (straight [⟨some 2, none, .pur .mov [.const (.slice none 0 0)]⟩, ⟨some 3, none, .pur .mov [.const (.int .i64 4)]⟩]) [2, 3])
  (.ret)) (.skip)))
  (.seq (.reg (straight [⟨some 73, none, .pur .mov [.tmp 13]⟩, ⟨some 74, none, .pur (.fla 0) [.tmp 11]⟩, ⟨none, none, .eff (.st 1) [.tmp 74, .tmp 73]⟩]) [])
  (.reg (straight [⟨some 75, none, .pur .mov [.tmp 8]⟩, ⟨some 76, none, .ld (some 2) (.tmp 11)⟩, ⟨some 77, none, .eff (.bsl 38 2) [.tmp 76]⟩, ⟨some 78, none, .eff (.app 38 2 16 [.int .i64 0, .bool false]) [.tmp 75, .tmp 77]⟩, ⟨some 8, none, .pur .mov [.tmp 78]⟩]) [8]))))))))
  (.reg (straight [⟨some 36, none, .pur .mov [.tmp 9]⟩, ⟨some 37, none, .pur (.bin .add) [.tmp 36, .const (.int .i64 1)]⟩, ⟨some 9, none, .pur .mov [.tmp 37]⟩]) [9]))
def S_forebayref38_Read_L1 : SCode :=
  .seq (.seq (.reg (straight [⟨some 21, none, .pur .mov [.tmp 6]⟩, ⟨some 22, none, .pur .mov [.tmp 4]⟩, ⟨some 23, none, .pur (.len false) [.tmp 22]⟩, ⟨some 24, none, .pur (.bin .lss) [.tmp 21, .tmp 23]⟩]) [24])
  (.cond (.tmp 24) (.skip) (.exit 0)))
  (.seq (.block 1 (.seq (.reg (straight [⟨some 27, none, .pur .mov [.tmp 4]⟩, ⟨some 28, none, .pur .mov [.tmp 6]⟩, ⟨some 29, none, .pur (.ixa 1) [.tmp 27, .tmp 28]⟩, ⟨some 30, none, .ld none (.tmp 29)⟩, ⟨some 31, none, .eff (.call 27) [.tmp 30]⟩, ⟨some 7, none, .pur .mov [.tmp 31]⟩]) [7])
  (.seq (.reg (straight [⟨some 8, none, .pur .mov [.const (.slice none 0 0)]⟩]) [8])
  (.seq (.seq (.reg (straight [⟨some 9, none, .pur .mov [.const (.int .i64 0)]⟩]) [9])
  (.block 2 (.loop S_forebayref38_Read_L2)))
  (.reg (straight [⟨some 79, none, .pur .mov [.tmp 5]⟩, ⟨some 80, none, .pur .mov [.tmp 8]⟩, ⟨some 81, none, .eff (.bsl 36 1) [.tmp 80]⟩, ⟨some 82, none, .eff (.app 36 1 24 [.slice none 0 0]) [.tmp 79, .tmp 81]⟩, ⟨some 5, none, .pur .mov [.tmp 82]⟩]) [5])))))
  (.reg (straight [⟨some 25, none, .pur .mov [.tmp 6]⟩, ⟨some 26, none, .pur (.bin .add) [.tmp 25, .const (.int .i64 1)]⟩, ⟨some 6, none, .pur .mov [.tmp 26]⟩]) [6]))
def S_forebayref38_Read : Fun := ⟨89, [2, 3, 0, 18, 6, 4, 24, 9, 7, 35, 10, 12, 51, 11, 14, 72, 13, 8, 5, 15, 86], [.tmp 2, .tmp 3],
  .seq (.reg (straight [⟨some 2, none, .pur .mov [.const (.slice none 0 0)]⟩, ⟨some 3, none, .pur .mov [.const (.int .i64 0)]⟩]) [2, 3])
  (.seq (.seq (.reg (straight [⟨some 16, none, .pur .mov [.tmp 0]⟩, ⟨some 17, none, .pur (.len true) [.tmp 16]⟩, ⟨some 18, none, .pur (.bin .gtr) [.tmp 17, .const (.int .i64 200000)]⟩]) [18])
  (.cond (.tmp 18) (.seq (.reg (straight [⟨some 2, none, .pur .mov [.const (.slice none 0 0)]⟩, ⟨some 3, none, .pur .mov [.const (.int .i64 9)]⟩]) [2, 3])
  (.ret)) (.skip)))
  (.seq (.reg (straight [⟨some 19, none, .pur .mov [.tmp 0]⟩, ⟨some 20, none, .eff (.call 26) [.tmp 19]⟩, ⟨some 4, none, .pur .mov [.tmp 20]⟩]) [4])
  (.seq (.reg (straight [⟨some 5, none, .pur .mov [.const (.slice none 0 0)]⟩]) [5])
  (.seq (.seq (.reg (straight [⟨some 6, none, .pur .mov [.const (.int .i64 0)]⟩]) [6])
  (.block 0 (.loop S_forebayref38_Read_L1)))
  (.seq (.reg (straight [⟨some 83, none, .pur .mov [.tmp 5]⟩, ⟨some 84, none, .eff (.call 25) [.tmp 83]⟩, ⟨some 15, none, .pur .mov [.tmp 84]⟩]) [15])
  (.seq (.seq (.reg (straight [⟨some 85, none, .pur .mov [.tmp 15]⟩, ⟨some 86, none, .pur (.bin .neq) [.tmp 85, .const (.int .i64 0)]⟩]) [86])
  (.cond (.tmp 86) (.seq (.reg (straight [⟨some 87, none, .pur .mov [.tmp 15]⟩, ⟨some 2, none, .pur .mov [.const (.slice none 0 0)]⟩, ⟨some 3, none, .pur .mov [.tmp 87]⟩]) [2, 3])
  (.ret)) (.skip)))
  (.seq (.reg (straight [⟨some 88, none, .pur .mov [.tmp 5]⟩, ⟨some 2, none, .pur .mov [.tmp 88]⟩, ⟨some 3, none, .pur .mov [.const (.int .i64 0)]⟩]) [2, 3])
  (.ret))))))))⟩
theorem K_forebayref38_Read : compF Tryd.prog 24 = some S_forebayref38_Read := by kernel_rfl

-- 25
def S_forebayref33_Check_L2 : SCode :=
  .seq (.seq (.reg (straight [⟨some 25, none, .pur .mov [.tmp 5]⟩, ⟨some 26, none, .pur .mov [.tmp 4]⟩, ⟨some 27, none, .pur (.len false) [.tmp 26]⟩, ⟨some 28, none, .pur (.bin .lss) [.tmp 25, .tmp 27]⟩]) [28])
  (.cond (.tmp 28) (.skip) (.exit 2)))
  (.seq (.block 3 (.seq (.reg (straight [⟨some 31, none, .pur .mov [.tmp 5]⟩, ⟨some 32, none, .pur (.bin .eql) [.tmp 31, .const (.int .i64 0)]⟩, ⟨some 33, none, .pur .mov [.tmp 32]⟩, ⟨some 34, some (33, true), .pur .mov [.tmp 4]⟩, ⟨some 35, some (33, true), .pur (.ixa 2) [.tmp 34, .const (.int .i64 0)]⟩, ⟨some 36, some (33, true), .pur (.fla 0) [.tmp 35]⟩, ⟨some 37, some (33, true), .ld none (.tmp 36)⟩, ⟨some 38, some (33, true), .pur (.bin .neq) [.tmp 37, .const (.int .i64 0)]⟩, ⟨some 39, some (33, true), .pur .mov [.tmp 38]⟩, ⟨some 40, some (39, false), .pur .mov [.tmp 4]⟩, ⟨some 41, some (39, false), .pur (.ixa 2) [.tmp 40, .const (.int .i64 0)]⟩, ⟨some 42, some (39, false), .pur (.fla 1) [.tmp 41]⟩, ⟨some 43, some (39, false), .ld none (.tmp 42)⟩, ⟨some 44, some (33, true), .pur .pick [.tmp 39, .const (.bool true), .tmp 43]⟩, ⟨some 45, none, .pur .pick [.tmp 33, .tmp 44, .const (.bool false)]⟩, ⟨some 46, none, .pur .mov [.tmp 45]⟩, ⟨some 47, some (46, false), .pur .mov [.tmp 5]⟩, ⟨some 48, some (46, false), .pur (.bin .gtr) [.tmp 47, .const (.int .i64 0)]⟩, ⟨some 49, some (46, false), .pur .mov [.tmp 48]⟩, ⟨some 50, some (49, true), .pur .mov [.tmp 4]⟩, ⟨some 51, some (49, true), .pur .mov [.tmp 5]⟩, ⟨some 52, some (49, true), .pur (.ixa 2) [.tmp 50, .tmp 51]⟩, ⟨some 53, some (49, true), .pur (.fla 0) [.tmp 52]⟩, ⟨some 54, some (49, true), .ld none (.tmp 53)⟩, ⟨some 55, some (49, true), .pur .mov [.tmp 4]⟩, ⟨some 56, some (49, true), .pur .mov [.tmp 5]⟩, ⟨some 57, some (49, true), .pur (.bin .sub) [.tmp 56, .const (.int .i64 1)]⟩, ⟨some 58, some (49, true), .pur (.ixa 2) [.tmp 55, .tmp 57]⟩, ⟨some 59, some (49, true), .pur (.fla 0) [.tmp 58]⟩, ⟨some 60, some (49, true), .ld none (.tmp 59)⟩, ⟨some 61, some (49, true), .pur (.bin .leq) [.tmp 54, .tmp 60]⟩, ⟨some 62, some (46, false), .pur .pick [.tmp 49, .tmp 61, .const (.bool false)]⟩, ⟨some 63, none, .pur .pick [.tmp 46, .const (.bool true), .tmp 62]⟩, ⟨some 64, none, .pur .mov [.tmp 63]⟩, ⟨some 65, some (64, false), .pur .mov [.tmp 4]⟩, ⟨some 66, some (64, false), .pur .mov [.tmp 5]⟩, ⟨some 67, some (64, false), .pur (.ixa 2) [.tmp 65, .tmp 66]⟩, ⟨some 68, some (64, false), .pur (.fla 0) [.tmp 67]⟩, ⟨some 69, some (64, false), .ld none (.tmp 68)⟩, ⟨some 70, some (64, false), .pur (.bin .gtr) [.tmp 69, .const (.int .i64 1048575)]⟩, ⟨some 71, none, .pur .pick [.tmp 64, .const (.bool true), .tmp 70]⟩]) [71])
  (.cond (.tmp 71) (.seq (.reg (straight [⟨some 2, none, .pur .mov [.const (.int .i64 4)]⟩]) [2])
  (.ret)) (.skip))))
  (.reg (straight [⟨some 29, none, .pur .mov [.tmp 5]⟩, ⟨some 30, none, .pur (.bin .add) [.tmp 29, .const (.int .i64 1)]⟩, ⟨some 5, none, .pur .mov [.tmp 30]⟩]) [5]))
def S_forebayref33_Check_L1 : SCode :=
  .seq (.seq (.reg (straight [⟨some 9, none, .pur .mov [.tmp 3]⟩, ⟨some 10, none, .pur .mov [.tmp 0]⟩, ⟨some 11, none, .pur (.len false) [.tmp 10]⟩, ⟨some 12, none, .pur (.bin .lss) [.tmp 9, .tmp 11]⟩]) [12])
  (.cond (.tmp 12) (.skip) (.exit 0)))
  (.seq (.block 1 (.seq (.reg (straight [⟨some 15, none, .pur .mov [.tmp 0]⟩, ⟨some 16, none, .pur .mov [.tmp 3]⟩, ⟨some 17, none, .pur (.ixa 1) [.tmp 15, .tmp 16]⟩, ⟨some 18, none, .ld none (.tmp 17)⟩, ⟨some 4, none, .pur .mov [.tmp 18]⟩]) [4])
  (.seq (.seq (.reg (straight [⟨some 19, none, .pur .mov [.tmp 4]⟩, ⟨some 20, none, .pur (.len false) [.tmp 19]⟩, ⟨some 21, none, .pur (.bin .gtr) [.tmp 20, .const (.int .i64 100)]⟩]) [21])
  (.cond (.tmp 21) (.seq (.reg (straight [⟨some 2, none, .pur .mov [.const (.int .i64 9)]⟩]) [2])
  (.ret)) (.skip)))
  (.seq (.seq (.reg (straight [⟨some 22, none, .pur .mov [.tmp 4]⟩, ⟨some 23, none, .pur (.len false) [.tmp 22]⟩, ⟨some 24, none, .pur (.bin .eql) [.tmp 23, .const (.int .i64 0)]⟩]) [24])
  (.cond (.tmp 24) (.seq (.reg (straight [⟨some 2, none, .pur .mov [.const (.int .i64 7)]⟩]) [2])
  (.ret)) (.skip)))
  (.seq (.reg (straight [⟨some 5, none, .pur .mov [.const (.int .i64 0)]⟩]) [5])
  (.block 2 (.loop S_forebayref33_Check_L2)))))))
  (.reg (straight [⟨some 13, none, .pur .mov [.tmp 3]⟩, ⟨some 14, none, .pur (.bin .add) [.tmp 13, .const (.int .i64 1)]⟩, ⟨some 3, none, .pur .mov [.tmp 14]⟩]) [3]))
def S_forebayref33_Check : Fun := ⟨72, [2, 0, 8, 3, 12, 4, 21, 24, 5, 28, 71], [.tmp 2],
  .seq (.reg (straight [⟨some 2, none, .pur .mov [.const (.int .i64 0)]⟩]) [2])
  (.seq (.seq (.reg (straight [⟨some 6, none, .pur .mov [.tmp 0]⟩, ⟨some 7, none, .pur (.len false) [.tmp 6]⟩, ⟨some 8, none, .pur (.bin .gtr) [.tmp 7, .const (.int .i64 100)]⟩]) [8])
  (.cond (.tmp 8) (.seq (.reg (straight [⟨some 2, none, .pur .mov [.const (.int .i64 9)]⟩]) [2])
  (.ret)) (.skip)))
  (.seq (.seq (.reg (straight [⟨some 3, none, .pur .mov [.const (.int .i64 0)]⟩]) [3])
  (.block 0 (.loop S_forebayref33_Check_L1)))
  (.seq (.reg (straight [⟨some 2, none, .pur .mov [.const (.int .i64 0)]⟩]) [2])
  (.ret))))⟩
theorem K_forebayref33_Check : compF Tryd.prog 25 = some S_forebayref33_Check := by kernel_rfl

-- 56
def S_grid_Check_L1 : SCode :=
  .seq (.reg (straight [⟨some 12, none, .pur (.bin .lss) [.tmp 11, .tmp 10]⟩]) [12])
  (.seq (.cond (.tmp 12) (.skip) (.exit 0))
  (.seq (.block 1 (.seq (.reg (straight [⟨some 13, none, .pur (.ixa 1) [.tmp 9, .tmp 11]⟩, ⟨some 14, none, .ld none (.tmp 13)⟩, ⟨some 4, none, .pur .mov [.tmp 14]⟩]) [4])
  (.seq (.reg (straight [⟨some 15, none, .pur .mov [.tmp 4]⟩, ⟨some 16, none, .eff (.call 85) [.tmp 15]⟩, ⟨some 5, none, .pur .mov [.tmp 16]⟩]) [5])
  (.seq (.reg (straight [⟨some 17, none, .pur .mov [.tmp 5]⟩, ⟨some 18, none, .pur (.bin .neq) [.tmp 17, .const (.int .i64 0)]⟩]) [18])
  (.cond (.tmp 18) (.seq (.reg (straight [⟨some 19, none, .pur .mov [.tmp 5]⟩, ⟨some 2, none, .pur .mov [.tmp 19]⟩]) [2])
  (.ret)) (.skip))))))
  (.reg (straight [⟨some 20, none, .pur (.bin .add) [.tmp 11, .const (.int .i64 1)]⟩, ⟨some 11, none, .pur .mov [.tmp 20]⟩]) [11])))
def S_grid_Check : Fun := ⟨21, [2, 0, 8, 11, 10, 12, 9, 4, 5, 18], [.tmp 2],
  .seq (.reg (straight [⟨some 2, none, .pur .mov [.const (.int .i64 0)]⟩]) [2])
  (.seq (.seq (.reg (straight [⟨some 6, none, .pur .mov [.tmp 0]⟩, ⟨some 7, none, .pur (.len false) [.tmp 6]⟩, ⟨some 8, none, .pur (.bin .gtr) [.tmp 7, .const (.int .i64 100)]⟩]) [8])
  (.cond (.tmp 8) (.seq (.reg (straight [⟨some 2, none, .pur .mov [.const (.int .i64 9)]⟩]) [2])
  (.ret)) (.skip)))
  (.seq (.seq (.reg (straight [⟨some 9, none, .pur .mov [.tmp 0]⟩, ⟨some 10, none, .pur (.len false) [.tmp 9]⟩, ⟨some 11, none, .pur .mov [.const (.int .i64 0)]⟩]) [9, 10, 11])
  (.block 0 (.loop S_grid_Check_L1)))
  (.seq (.reg (straight [⟨some 2, none, .pur .mov [.const (.int .i64 0)]⟩]) [2])
  (.ret))))⟩
theorem K_grid_Check : compF Tryd.prog 56 = some S_grid_Check := by kernel_rfl

-- 57
def S_picture_sign : Fun := ⟨10, [4, 0, 2, 5, 1, 8], [.tmp 4],
  .seq (.reg (straight [⟨some 2, none, .eff (.box 38) [.tmp 0]⟩, ⟨some 4, none, .pur .mov [.const (.string ⟨#[]⟩)]⟩]) [2, 4])
  (.seq (.block 0 (.seq (.reg (straight [⟨some 6, none, .pur (.fla 1) [.tmp 2]⟩, ⟨some 7, none, .ld none (.tmp 6)⟩, ⟨some 5, none, .pur .mov [.tmp 7]⟩]) [5])
  (.cond (.tmp 5) (.seq (.reg (straight [⟨some 4, none, .pur .mov [.const (.string ⟨#[62]⟩)]⟩]) [4])
  (.ret)) (.seq (.reg (straight [⟨some 9, none, .pur .mov [.tmp 1]⟩, ⟨some 8, none, .pur .mov [.tmp 9]⟩]) [8])
  (.cond (.tmp 8) (.seq (.reg (straight [⟨some 4, none, .pur .mov [.const (.string ⟨#[]⟩)]⟩]) [4])
  (.ret)) (.skip))))))
  (.seq (.reg (straight [⟨some 4, none, .pur .mov [.const (.string ⟨#[45]⟩)]⟩]) [4])
  (.ret)))⟩
theorem K_picture_sign : compF Tryd.prog 57 = some S_picture_sign := by kernel_rfl

-- 60
def S_picture_drawn_L1 : SCode :=
  .seq (.reg (straight [⟨some 10, none, .pur (.bin .lss) [.tmp 9, .tmp 8]⟩]) [10])
  (.seq (.cond (.tmp 10) (.skip) (.exit 0))
  (.seq (.block 1 (.seq (.reg (straight [⟨some 11, none, .pur (.ixa 2) [.tmp 7, .tmp 9]⟩, ⟨some 12, none, .ld (some 2) (.tmp 11)⟩, ⟨some 6, none, .eff (.new 38 [.int .i64 0, .bool false]) []⟩, ⟨none, none, .eff (.st 2) [.tmp 6, .tmp 12]⟩]) [6])
  (.seq (.seq (.reg (straight [⟨some 13, none, .pur (.fla 0) [.tmp 6]⟩, ⟨some 14, none, .ld none (.tmp 13)⟩, ⟨some 15, none, .pur (.bin .gtr) [.tmp 14, .const (.int .i64 199)]⟩]) [15])
  (.cond (.tmp 15) (.seq (.reg (straight [⟨some 2, none, .pur .mov [.const (.string ⟨#[]⟩)]⟩, ⟨some 3, none, .pur .mov [.const (.bool false)]⟩]) [2, 3])
  (.ret)) (.skip)))
  (.seq (.reg (straight [⟨some 16, none, .pur .mov [.tmp 4]⟩, ⟨some 17, none, .pur (.fla 0) [.tmp 6]⟩, ⟨some 18, none, .ld none (.tmp 17)⟩, ⟨some 19, none, .pur .mov [.tmp 4]⟩, ⟨some 20, none, .pur (.len true) [.tmp 19]⟩, ⟨some 21, none, .pur (.bin .sub) [.tmp 18, .tmp 20]⟩, ⟨some 22, none, .eff (.call 87) [.const (.string ⟨#[46]⟩), .tmp 21]⟩, ⟨some 23, none, .pur (.bin .add) [.tmp 16, .tmp 22]⟩, ⟨some 4, none, .pur .mov [.tmp 23]⟩]) [4])
  (.seq (.reg (straight [⟨some 24, none, .pur (.fla 1) [.tmp 6]⟩, ⟨some 25, none, .ld none (.tmp 24)⟩]) [25])
  (.cond (.tmp 25) (.reg (straight [⟨some 26, none, .pur .mov [.tmp 4]⟩, ⟨some 27, none, .pur (.bin .add) [.tmp 26, .const (.string ⟨#[60]⟩)]⟩, ⟨some 4, none, .pur .mov [.tmp 27]⟩]) [4]) (.reg (straight [⟨some 28, none, .pur .mov [.tmp 4]⟩, ⟨some 29, none, .pur (.bin .add) [.tmp 28, .const (.string ⟨#[111]⟩)]⟩, ⟨some 4, none, .pur .mov [.tmp 29]⟩]) [4])))))))
  (.reg (straight [⟨some 30, none, .pur (.bin .add) [.tmp 9, .const (.int .i64 1)]⟩, ⟨some 9, none, .pur .mov [.tmp 30]⟩]) [9])))
def S_picture_drawn : Fun := ⟨32, [2, 3, 0, 9, 8, 10, 7, 6, 15, 4, 25], [.tmp 2, .tmp 3],
  .seq (.reg (straight [⟨some 2, none, .pur .mov [.const (.string ⟨#[]⟩)]⟩, ⟨some 3, none, .pur .mov [.const (.bool false)]⟩]) [2, 3])
  (.seq (.reg (straight [⟨some 4, none, .pur .mov [.const (.string ⟨#[]⟩)]⟩]) [4])
  (.seq (.seq (.reg (straight [⟨some 7, none, .pur .mov [.tmp 0]⟩, ⟨some 8, none, .pur (.len false) [.tmp 7]⟩, ⟨some 9, none, .pur .mov [.const (.int .i64 0)]⟩]) [7, 8, 9])
  (.block 0 (.loop S_picture_drawn_L1)))
  (.seq (.reg (straight [⟨some 31, none, .pur .mov [.tmp 4]⟩, ⟨some 2, none, .pur .mov [.tmp 31]⟩, ⟨some 3, none, .pur .mov [.const (.bool true)]⟩]) [2, 3])
  (.ret))))⟩
theorem K_picture_drawn : compF Tryd.prog 60 = some S_picture_drawn := by kernel_rfl

-- 61
def S_picture_cell : Fun := ⟨30, [4, 5, 0, 6, 11, 1, 17, 7, 8], [.cell 4 (some 2), .tmp 5],
  .seq (.reg (straight [⟨some 4, none, .eff (.new 38 [.int .i64 0, .bool false]) []⟩, ⟨some 5, none, .pur .mov [.const (.bool false)]⟩]) [4, 5])
  (.seq (.reg (straight [⟨some 9, none, .pur .mov [.tmp 0]⟩, ⟨some 10, none, .eff (.call 63) [.tmp 9, .const (.string ⟨#[62]⟩)]⟩, ⟨some 6, none, .pur .mov [.tmp 10]⟩]) [6])
  (.seq (.block 0 (.seq (.seq (.reg (straight [⟨some 12, none, .pur .mov [.tmp 6]⟩, ⟨some 11, none, .pur .mov [.tmp 12]⟩]) [11])
  (.cond (.tmp 11) (.skip) (.reg (straight [⟨some 13, none, .pur .mov [.tmp 0]⟩, ⟨some 14, none, .eff (.call 63) [.tmp 13, .const (.string ⟨#[45]⟩)]⟩, ⟨some 11, none, .pur .mov [.tmp 14]⟩]) [11])))
  (.cond (.tmp 11) (.reg (straight [⟨some 15, none, .pur .mov [.tmp 0]⟩, ⟨some 16, none, .pur (.sls true false) [.tmp 15, .const (.int .i64 1)]⟩, ⟨some 0, none, .pur .mov [.tmp 16]⟩]) [0]) (.seq (.reg (straight [⟨some 18, none, .pur .mov [.tmp 1]⟩, ⟨some 19, none, .pur .not [.tmp 18]⟩, ⟨some 17, none, .pur .mov [.tmp 19]⟩]) [17])
  (.cond (.tmp 17) (.seq (.reg (straight [⟨some 20, none, .pur (.bld [.int .i64 0, .bool false] []) []⟩, ⟨none, none, .eff (.st 2) [.tmp 4, .tmp 20]⟩, ⟨some 5, none, .pur .mov [.const (.bool false)]⟩]) [5])
  (.ret)) (.skip))))))
  (.seq (.reg (straight [⟨some 22, none, .pur .mov [.tmp 0]⟩, ⟨some 23, none, .eff (.call 29) [.tmp 22]⟩, ⟨some 21, none, .pur .mov [.tmp 23]⟩, ⟨some 24, none, .pur (.ext 0) [.tmp 21]⟩, ⟨some 25, none, .pur (.ext 1) [.tmp 21]⟩, ⟨some 7, none, .pur .mov [.tmp 24]⟩, ⟨some 8, none, .pur .mov [.tmp 25]⟩]) [7, 8])
  (.seq (.reg (straight [⟨some 26, none, .pur .mov [.tmp 7]⟩, ⟨some 27, none, .pur .mov [.tmp 6]⟩, ⟨some 28, none, .pur (.bld [.int .i64 0, .bool false] [(0, 1), (1, 1)]) [.tmp 26, .tmp 27]⟩, ⟨some 29, none, .pur .mov [.tmp 8]⟩, ⟨none, none, .eff (.st 2) [.tmp 4, .tmp 28]⟩, ⟨some 5, none, .pur .mov [.tmp 29]⟩]) [5])
  (.ret)))))⟩
theorem K_picture_cell : compF Tryd.prog 61 = some S_picture_cell := by kernel_rfl

-- 85
def S_grid_row_L1 : SCode :=
  .seq (.seq (.reg (straight [⟨some 22, none, .pur .mov [.tmp 3]⟩, ⟨some 23, none, .pur .mov [.tmp 0]⟩, ⟨some 24, none, .pur (.len false) [.tmp 23]⟩, ⟨some 25, none, .pur (.bin .lss) [.tmp 22, .tmp 24]⟩]) [25])
  (.cond (.tmp 25) (.skip) (.exit 1)))
  (.seq (.block 2 (.seq (.reg (straight [⟨some 28, none, .pur .mov [.tmp 0]⟩, ⟨some 29, none, .pur .mov [.tmp 3]⟩, ⟨some 30, none, .pur (.ixa 2) [.tmp 28, .tmp 29]⟩, ⟨some 31, none, .pur (.fla 0) [.tmp 30]⟩, ⟨some 32, none, .ld none (.tmp 31)⟩, ⟨some 33, none, .pur .mov [.tmp 0]⟩, ⟨some 34, none, .pur .mov [.tmp 3]⟩, ⟨some 35, none, .pur (.bin .sub) [.tmp 34, .const (.int .i64 1)]⟩, ⟨some 36, none, .pur (.ixa 2) [.tmp 33, .tmp 35]⟩, ⟨some 37, none, .pur (.fla 0) [.tmp 36]⟩, ⟨some 38, none, .ld none (.tmp 37)⟩, ⟨some 39, none, .pur (.bin .leq) [.tmp 32, .tmp 38]⟩, ⟨some 40, none, .pur .mov [.tmp 39]⟩, ⟨some 41, some (40, false), .pur .mov [.tmp 0]⟩, ⟨some 42, some (40, false), .pur .mov [.tmp 3]⟩, ⟨some 43, some (40, false), .pur (.ixa 2) [.tmp 41, .tmp 42]⟩, ⟨some 44, some (40, false), .pur (.fla 0) [.tmp 43]⟩, ⟨some 45, some (40, false), .ld none (.tmp 44)⟩, ⟨some 46, some (40, false), .pur (.bin .gtr) [.tmp 45, .const (.int .i64 1048575)]⟩, ⟨some 47, none, .pur .pick [.tmp 40, .const (.bool true), .tmp 46]⟩]) [47])
  (.cond (.tmp 47) (.seq (.reg (straight [⟨some 2, none, .pur .mov [.const (.int .i64 4)]⟩]) [2])
  (.ret)) (.skip))))
  (.reg (straight [⟨some 26, none, .pur .mov [.tmp 3]⟩, ⟨some 27, none, .pur (.bin .add) [.tmp 26, .const (.int .i64 1)]⟩, ⟨some 3, none, .pur .mov [.tmp 27]⟩]) [3]))
def S_grid_row : Fun := ⟨48, [2, 0, 4, 8, 12, 3, 25, 47], [.tmp 2],
  .seq (.reg (straight [⟨some 2, none, .pur .mov [.const (.int .i64 0)]⟩]) [2])
  (.seq (.block 0 (.seq (.reg (straight [⟨some 5, none, .pur .mov [.tmp 0]⟩, ⟨some 6, none, .pur (.len false) [.tmp 5]⟩, ⟨some 7, none, .pur (.bin .gtr) [.tmp 6, .const (.int .i64 100)]⟩, ⟨some 4, none, .pur .mov [.tmp 7]⟩]) [4])
  (.cond (.tmp 4) (.seq (.reg (straight [⟨some 2, none, .pur .mov [.const (.int .i64 9)]⟩]) [2])
  (.ret)) (.seq (.reg (straight [⟨some 9, none, .pur .mov [.tmp 0]⟩, ⟨some 10, none, .pur (.len false) [.tmp 9]⟩, ⟨some 11, none, .pur (.bin .eql) [.tmp 10, .const (.int .i64 0)]⟩, ⟨some 8, none, .pur .mov [.tmp 11]⟩]) [8])
  (.cond (.tmp 8) (.seq (.reg (straight [⟨some 2, none, .pur .mov [.const (.int .i64 7)]⟩]) [2])
  (.ret)) (.seq (.seq (.reg (straight [⟨some 13, none, .pur .mov [.tmp 0]⟩, ⟨some 14, none, .pur (.ixa 2) [.tmp 13, .const (.int .i64 0)]⟩, ⟨some 15, none, .pur (.fla 0) [.tmp 14]⟩, ⟨some 16, none, .ld none (.tmp 15)⟩, ⟨some 17, none, .pur (.bin .neq) [.tmp 16, .const (.int .i64 0)]⟩, ⟨some 12, none, .pur .mov [.tmp 17]⟩]) [12])
  (.cond (.tmp 12) (.skip) (.reg (straight [⟨some 18, none, .pur .mov [.tmp 0]⟩, ⟨some 19, none, .pur (.ixa 2) [.tmp 18, .const (.int .i64 0)]⟩, ⟨some 20, none, .pur (.fla 1) [.tmp 19]⟩, ⟨some 21, none, .ld none (.tmp 20)⟩, ⟨some 12, none, .pur .mov [.tmp 21]⟩]) [12])))
  (.cond (.tmp 12) (.seq (.reg (straight [⟨some 2, none, .pur .mov [.const (.int .i64 4)]⟩]) [2])
  (.ret)) (.skip))))))))
  (.seq (.seq (.reg (straight [⟨some 3, none, .pur .mov [.const (.int .i64 1)]⟩]) [3])
  (.block 1 (.loop S_grid_row_L1)))
  (.seq (.reg (straight [⟨some 2, none, .pur .mov [.const (.int .i64 0)]⟩]) [2])
  (.ret))))⟩
theorem K_grid_row : compF Tryd.prog 85 = some S_grid_row := by kernel_rfl

end Go.Proofs.YtjdpejggafefjaaDoor
