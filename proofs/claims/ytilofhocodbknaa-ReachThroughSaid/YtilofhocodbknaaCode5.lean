import Derived.Test.YtilofhocodbknaaKj
import Derived.Test.YtilofhocodbknaaProg
import Derived.KernelRfl
namespace Go.Proofs.Ytilofhocodbknaa
open Go Go.Kx Go.Proofs
set_option maxRecDepth 100000

-- 3
def S_forebaylaw24_LogParts_L1 : SCode :=
  .seq (.seq (.reg (straight [⟨some 18, none, .pur .mov [.tmp 4]⟩, ⟨some 19, none, .pur .mov [.tmp 0]⟩, ⟨some 20, none, .pur (.len false) [.tmp 19]⟩, ⟨some 21, none, .pur (.bin .lss) [.tmp 18, .tmp 20]⟩]) [21])
  (.cond (.tmp 21) (.skip) (.exit 0)))
  (.seq (.block 1 (.reg (straight [⟨some 24, none, .pur .mov [.tmp 3]⟩, ⟨some 25, none, .pur .mov [.tmp 0]⟩, ⟨some 26, none, .pur .mov [.tmp 4]⟩, ⟨some 27, none, .pur (.ixa 4) [.tmp 25, .tmp 26]⟩, ⟨some 28, none, .ld (some 4) (.tmp 27)⟩, ⟨some 29, none, .eff (.call 21) [.tmp 24, .tmp 28]⟩]) []))
  (.reg (straight [⟨some 22, none, .pur .mov [.tmp 4]⟩, ⟨some 23, none, .pur (.bin .add) [.tmp 22, .const (.int .i64 1)]⟩, ⟨some 4, none, .pur .mov [.tmp 23]⟩]) [4]))
def S_forebaylaw24_LogParts_L3 : SCode :=
  .seq (.seq (.reg (straight [⟨some 53, none, .pur .mov [.tmp 10]⟩, ⟨some 54, none, .pur .mov [.tmp 8]⟩, ⟨some 55, none, .pur (.len false) [.tmp 54]⟩, ⟨some 56, none, .pur (.bin .lss) [.tmp 53, .tmp 55]⟩, ⟨some 57, none, .pur .mov [.tmp 56]⟩, ⟨some 58, some (57, true), .pur .mov [.tmp 10]⟩, ⟨some 59, some (57, true), .pur .mov [.tmp 9]⟩, ⟨some 60, some (57, true), .pur (.len false) [.tmp 59]⟩, ⟨some 61, some (57, true), .pur (.bin .lss) [.tmp 58, .tmp 60]⟩, ⟨some 62, none, .pur .pick [.tmp 57, .tmp 61, .const (.bool false)]⟩]) [62])
  (.cond (.tmp 62) (.skip) (.exit 4)))
  (.seq (.block 5 (.seq (.seq (.reg (straight [⟨some 65, none, .pur .mov [.tmp 9]⟩, ⟨some 66, none, .pur .mov [.tmp 10]⟩, ⟨some 67, none, .pur (.ixa 1) [.tmp 65, .tmp 66]⟩, ⟨some 68, none, .ld none (.tmp 67)⟩, ⟨some 69, none, .pur (.bin .lss) [.tmp 68, .const (.int .i64 0)]⟩, ⟨some 70, none, .pur .mov [.tmp 69]⟩, ⟨some 71, some (70, false), .pur .mov [.tmp 9]⟩, ⟨some 72, some (70, false), .pur .mov [.tmp 10]⟩, ⟨some 73, some (70, false), .pur (.ixa 1) [.tmp 71, .tmp 72]⟩, ⟨some 74, some (70, false), .ld none (.tmp 73)⟩, ⟨some 75, some (70, false), .pur .mov [.tmp 0]⟩, ⟨some 76, some (70, false), .pur (.len false) [.tmp 75]⟩, ⟨some 77, some (70, false), .pur (.bin .geq) [.tmp 74, .tmp 76]⟩, ⟨some 78, none, .pur .pick [.tmp 70, .const (.bool true), .tmp 77]⟩, ⟨some 79, none, .pur .mov [.tmp 78]⟩, ⟨some 80, some (79, false), .pur .mov [.tmp 8]⟩, ⟨some 81, some (79, false), .pur .mov [.tmp 10]⟩, ⟨some 82, some (79, false), .pur (.ixa 4) [.tmp 80, .tmp 81]⟩, ⟨some 83, some (79, false), .ld (some 4) (.tmp 82)⟩, ⟨some 84, some (79, false), .pur .mov [.tmp 0]⟩, ⟨some 85, some (79, false), .pur .mov [.tmp 9]⟩, ⟨some 86, some (79, false), .pur .mov [.tmp 10]⟩, ⟨some 87, some (79, false), .pur (.ixa 1) [.tmp 85, .tmp 86]⟩, ⟨some 88, some (79, false), .ld none (.tmp 87)⟩, ⟨some 89, some (79, false), .pur (.ixa 4) [.tmp 84, .tmp 88]⟩, ⟨some 90, some (79, false), .ld (some 4) (.tmp 89)⟩, ⟨some 91, some (79, false), .pur (.eqs true [.int .i64, .int .i64, .int .i64, .int .i64]) [.tmp 83, .tmp 90]⟩, ⟨some 92, none, .pur .pick [.tmp 79, .const (.bool true), .tmp 91]⟩, ⟨some 93, none, .pur .mov [.tmp 92]⟩, ⟨some 94, some (93, false), .pur .mov [.tmp 10]⟩, ⟨some 95, some (93, false), .pur (.bin .gtr) [.tmp 94, .const (.int .i64 0)]⟩, ⟨some 96, some (93, false), .pur .mov [.tmp 95]⟩, ⟨some 97, some (96, true), .pur .mov [.tmp 9]⟩, ⟨some 98, some (96, true), .pur .mov [.tmp 10]⟩, ⟨some 99, some (96, true), .pur (.ixa 1) [.tmp 97, .tmp 98]⟩, ⟨some 100, some (96, true), .ld none (.tmp 99)⟩, ⟨some 101, some (96, true), .pur .mov [.tmp 9]⟩, ⟨some 102, some (96, true), .pur .mov [.tmp 10]⟩, ⟨some 103, some (96, true), .pur (.bin .sub) [.tmp 102, .const (.int .i64 1)]⟩, ⟨some 104, some (96, true), .pur (.ixa 1) [.tmp 101, .tmp 103]⟩, ⟨some 105, some (96, true), .ld none (.tmp 104)⟩, ⟨some 106, some (96, true), .pur (.bin .leq) [.tmp 100, .tmp 105]⟩, ⟨some 107, some (93, false), .pur .pick [.tmp 96, .tmp 106, .const (.bool false)]⟩, ⟨some 108, none, .pur .pick [.tmp 93, .const (.bool true), .tmp 107]⟩]) [108])
  (.cond (.tmp 108) (.seq (.reg (straight [⟨some 2, none, .pur .mov [.const (.bool false)]⟩]) [2])
  (.ret)) (.skip)))
  (.reg (straight [⟨some 109, none, .pur .mov [.tmp 5]⟩, ⟨some 110, none, .pur .mov [.tmp 9]⟩, ⟨some 111, none, .pur .mov [.tmp 10]⟩, ⟨some 112, none, .pur (.ixa 1) [.tmp 110, .tmp 111]⟩, ⟨some 113, none, .ld none (.tmp 112)⟩, ⟨some 114, none, .pur (.ixa 1) [.tmp 109, .tmp 113]⟩, ⟨some 115, none, .ld none (.tmp 114)⟩, ⟨some 116, none, .pur (.bin .add) [.tmp 115, .const (.int .i64 1)]⟩, ⟨some 117, none, .pur (.ixa 1) [.tmp 109, .tmp 113]⟩, ⟨none, none, .eff (.st 1) [.tmp 117, .tmp 116]⟩]) [])))
  (.reg (straight [⟨some 63, none, .pur .mov [.tmp 10]⟩, ⟨some 64, none, .pur (.bin .add) [.tmp 63, .const (.int .i64 1)]⟩, ⟨some 10, none, .pur .mov [.tmp 64]⟩]) [10]))
def S_forebaylaw24_LogParts_L2 : SCode :=
  .seq (.seq (.reg (straight [⟨some 35, none, .pur .mov [.tmp 7]⟩, ⟨some 36, none, .pur .mov [.tmp 6]⟩, ⟨some 37, none, .pur (.len false) [.tmp 36]⟩, ⟨some 38, none, .pur (.bin .lss) [.tmp 35, .tmp 37]⟩]) [38])
  (.cond (.tmp 38) (.skip) (.exit 2)))
  (.seq (.block 3 (.seq (.reg (straight [⟨some 42, none, .pur .mov [.tmp 3]⟩, ⟨some 43, none, .pur .mov [.tmp 6]⟩, ⟨some 44, none, .pur .mov [.tmp 7]⟩, ⟨some 45, none, .pur (.ixa 1) [.tmp 43, .tmp 44]⟩, ⟨some 46, none, .ld none (.tmp 45)⟩, ⟨some 47, none, .pur .mov [.tmp 0]⟩, ⟨some 48, none, .pur (.len false) [.tmp 47]⟩, ⟨some 49, none, .pur (.bin .add) [.tmp 48, .const (.int .i64 1)]⟩, ⟨some 50, none, .eff (.call 23) [.tmp 42, .tmp 46, .tmp 49]⟩, ⟨some 41, none, .pur .mov [.tmp 50]⟩, ⟨some 51, none, .pur (.ext 0) [.tmp 41]⟩, ⟨some 52, none, .pur (.ext 1) [.tmp 41]⟩, ⟨some 8, none, .pur .mov [.tmp 51]⟩, ⟨some 9, none, .pur .mov [.tmp 52]⟩]) [8, 9])
  (.seq (.reg (straight [⟨some 10, none, .pur .mov [.const (.int .i64 0)]⟩]) [10])
  (.block 4 (.loop S_forebaylaw24_LogParts_L3)))))
  (.reg (straight [⟨some 39, none, .pur .mov [.tmp 7]⟩, ⟨some 40, none, .pur (.bin .add) [.tmp 39, .const (.int .i64 1)]⟩, ⟨some 7, none, .pur .mov [.tmp 40]⟩]) [7]))
def S_forebaylaw24_LogParts_L4 : SCode :=
  .seq (.seq (.reg (straight [⟨some 118, none, .pur .mov [.tmp 11]⟩, ⟨some 119, none, .pur .mov [.tmp 5]⟩, ⟨some 120, none, .pur (.len false) [.tmp 119]⟩, ⟨some 121, none, .pur (.bin .lss) [.tmp 118, .tmp 120]⟩]) [121])
  (.cond (.tmp 121) (.skip) (.exit 6)))
  (.seq (.block 7 (.seq (.reg (straight [⟨some 124, none, .pur .mov [.tmp 5]⟩, ⟨some 125, none, .pur .mov [.tmp 11]⟩, ⟨some 126, none, .pur (.ixa 1) [.tmp 124, .tmp 125]⟩, ⟨some 127, none, .ld none (.tmp 126)⟩, ⟨some 128, none, .pur (.bin .neq) [.tmp 127, .const (.int .i64 1)]⟩]) [128])
  (.cond (.tmp 128) (.seq (.reg (straight [⟨some 2, none, .pur .mov [.const (.bool false)]⟩]) [2])
  (.ret)) (.skip))))
  (.reg (straight [⟨some 122, none, .pur .mov [.tmp 11]⟩, ⟨some 123, none, .pur (.bin .add) [.tmp 122, .const (.int .i64 1)]⟩, ⟨some 11, none, .pur .mov [.tmp 123]⟩]) [11]))
def S_forebaylaw24_LogParts : Fun := ⟨129, [2, 13, 0, 16, 4, 21, 3, 7, 6, 38, 10, 8, 9, 62, 108, 5, 11, 121, 128], [.tmp 2],
  .seq (.reg (straight [⟨some 2, none, .pur .mov [.const (.bool false)]⟩]) [2])
  (.seq (.seq (.reg (straight [⟨some 12, none, .eff (.call 19) []⟩, ⟨some 13, none, .pur .not [.tmp 12]⟩]) [13])
  (.cond (.tmp 13) (.seq (.reg (straight [⟨some 2, none, .pur .mov [.const (.bool false)]⟩]) [2])
  (.ret)) (.skip)))
  (.seq (.seq (.reg (straight [⟨some 14, none, .pur .mov [.tmp 0]⟩, ⟨some 15, none, .pur (.len false) [.tmp 14]⟩, ⟨some 16, none, .pur (.bin .gtr) [.tmp 15, .const (.int .i64 150)]⟩]) [16])
  (.cond (.tmp 16) (.seq (.reg (straight [⟨some 2, none, .pur .mov [.const (.bool true)]⟩]) [2])
  (.ret)) (.skip)))
  (.seq (.reg (straight [⟨some 17, none, .eff (.call 20) []⟩, ⟨some 3, none, .pur .mov [.tmp 17]⟩]) [3])
  (.seq (.seq (.reg (straight [⟨some 4, none, .pur .mov [.const (.int .i64 0)]⟩]) [4])
  (.block 0 (.loop S_forebaylaw24_LogParts_L1)))
  (.seq (.reg (straight [⟨some 30, none, .pur .mov [.tmp 0]⟩, ⟨some 31, none, .pur (.len false) [.tmp 30]⟩, ⟨some 32, none, .eff (.mks 3 1 8 [.int .i64 0]) [.tmp 31, .tmp 31]⟩, ⟨some 5, none, .pur .mov [.tmp 32]⟩]) [5])
  (.seq (.reg (straight [⟨some 33, none, .pur .mov [.tmp 3]⟩, ⟨some 34, none, .eff (.call 22) [.tmp 33]⟩, ⟨some 6, none, .pur .mov [.tmp 34]⟩]) [6])
  (.seq (.seq (.reg (straight [⟨some 7, none, .pur .mov [.const (.int .i64 0)]⟩]) [7])
  (.block 2 (.loop S_forebaylaw24_LogParts_L2)))
  (.seq (.seq (.reg (straight [⟨some 11, none, .pur .mov [.const (.int .i64 0)]⟩]) [11])
  (.block 6 (.loop S_forebaylaw24_LogParts_L4)))
  (.seq (.reg (straight [⟨some 2, none, .pur .mov [.const (.bool true)]⟩]) [2])
  (.ret))))))))))⟩
theorem K_forebaylaw24_LogParts : compF Try.prog 3 = some S_forebaylaw24_LogParts := by kernel_rfl

-- 7
def S_forebaylaw33_GridForth_L1 : SCode :=
  .seq (.seq (.reg (straight [⟨some 29, none, .pur .mov [.tmp 6]⟩, ⟨some 30, none, .pur .mov [.tmp 0]⟩, ⟨some 31, none, .pur (.len false) [.tmp 30]⟩, ⟨some 32, none, .pur (.bin .lss) [.tmp 29, .tmp 31]⟩]) [32])
  (.cond (.tmp 32) (.skip) (.exit 0)))
  (.seq (.block 1 (.reg (straight [⟨some 35, none, .pur .mov [.tmp 5]⟩, ⟨some 36, none, .pur .mov [.tmp 0]⟩, ⟨some 37, none, .pur .mov [.tmp 6]⟩, ⟨some 38, none, .pur (.ixa 1) [.tmp 36, .tmp 37]⟩, ⟨some 39, none, .ld none (.tmp 38)⟩, ⟨some 40, none, .pur (.len false) [.tmp 39]⟩, ⟨some 41, none, .pur (.bin .add) [.tmp 35, .tmp 40]⟩, ⟨some 5, none, .pur .mov [.tmp 41]⟩]) [5]))
  (.reg (straight [⟨some 33, none, .pur .mov [.tmp 6]⟩, ⟨some 34, none, .pur (.bin .add) [.tmp 33, .const (.int .i64 1)]⟩, ⟨some 6, none, .pur .mov [.tmp 34]⟩]) [6]))
def S_forebaylaw33_GridForth_L2 : SCode :=
  .seq (.seq (.reg (straight [⟨some 42, none, .pur .mov [.tmp 8]⟩, ⟨some 43, none, .pur .mov [.tmp 3]⟩, ⟨some 44, none, .pur (.len false) [.tmp 43]⟩, ⟨some 45, none, .pur (.bin .lss) [.tmp 42, .tmp 44]⟩]) [45])
  (.cond (.tmp 45) (.skip) (.exit 2)))
  (.seq (.block 3 (.seq (.reg (straight [⟨some 48, none, .pur .mov [.tmp 3]⟩, ⟨some 49, none, .pur .mov [.tmp 8]⟩, ⟨some 50, none, .pur (.ixa 2) [.tmp 48, .tmp 49]⟩, ⟨some 51, none, .pur (.ixaA 2 1) [.tmp 50, .const (.int .i64 0)]⟩, ⟨some 52, none, .ld none (.tmp 51)⟩, ⟨some 53, none, .pur .mov [.tmp 3]⟩, ⟨some 54, none, .pur .mov [.tmp 8]⟩, ⟨some 55, none, .pur (.ixa 2) [.tmp 53, .tmp 54]⟩, ⟨some 56, none, .pur (.ixaA 2 1) [.tmp 55, .const (.int .i64 1)]⟩, ⟨some 57, none, .ld none (.tmp 56)⟩, ⟨some 9, none, .pur .mov [.tmp 52]⟩, ⟨some 10, none, .pur .mov [.tmp 57]⟩]) [9, 10])
  (.seq (.reg (straight [⟨some 58, none, .pur .mov [.tmp 9]⟩, ⟨some 59, none, .eff (.call 39) [.tmp 58]⟩, ⟨some 60, none, .pur .mov [.tmp 10]⟩, ⟨some 61, none, .eff (.call 39) [.tmp 60]⟩, ⟨some 62, none, .pur (.bin .eql) [.tmp 59, .tmp 61]⟩, ⟨some 63, none, .pur .mov [.tmp 62]⟩, ⟨some 64, some (63, true), .pur .mov [.tmp 9]⟩, ⟨some 65, some (63, true), .eff (.call 40) [.tmp 64]⟩, ⟨some 66, some (63, true), .pur .mov [.tmp 10]⟩, ⟨some 67, some (63, true), .eff (.call 40) [.tmp 66]⟩, ⟨some 68, some (63, true), .pur (.bin .lss) [.tmp 65, .tmp 67]⟩, ⟨some 69, none, .pur .pick [.tmp 63, .tmp 68, .const (.bool false)]⟩, ⟨some 11, none, .pur .mov [.tmp 69]⟩]) [11])
  (.seq (.reg (straight [⟨some 70, none, .pur .mov [.tmp 9]⟩, ⟨some 71, none, .eff (.call 39) [.tmp 70]⟩, ⟨some 72, none, .pur (.bin .add) [.tmp 71, .const (.int .i64 1)]⟩, ⟨some 73, none, .pur .mov [.tmp 10]⟩, ⟨some 74, none, .eff (.call 39) [.tmp 73]⟩, ⟨some 75, none, .pur (.bin .eql) [.tmp 72, .tmp 74]⟩, ⟨some 76, none, .pur .mov [.tmp 75]⟩, ⟨some 77, some (76, true), .pur .mov [.tmp 9]⟩, ⟨some 78, some (76, true), .eff (.call 40) [.tmp 77]⟩, ⟨some 79, some (76, true), .pur .mov [.tmp 10]⟩, ⟨some 80, some (76, true), .eff (.call 40) [.tmp 79]⟩, ⟨some 81, some (76, true), .pur (.bin .leq) [.tmp 78, .tmp 80]⟩, ⟨some 82, none, .pur .pick [.tmp 76, .tmp 81, .const (.bool false)]⟩, ⟨some 12, none, .pur .mov [.tmp 82]⟩]) [12])
  (.seq (.seq (.reg (straight [⟨some 83, none, .pur .mov [.tmp 11]⟩, ⟨some 84, none, .pur .not [.tmp 83]⟩, ⟨some 85, none, .pur .mov [.tmp 84]⟩, ⟨some 86, some (85, true), .pur .mov [.tmp 12]⟩, ⟨some 87, some (85, true), .pur .not [.tmp 86]⟩, ⟨some 88, none, .pur .pick [.tmp 85, .tmp 87, .const (.bool false)]⟩]) [88])
  (.cond (.tmp 88) (.seq (.reg (straight [⟨some 2, none, .pur .mov [.const (.bool false)]⟩]) [2])
  (.ret)) (.skip)))
  (.seq (.reg (straight [⟨some 89, none, .pur .mov [.tmp 8]⟩, ⟨some 90, none, .pur (.bin .eql) [.tmp 89, .const (.int .i64 0)]⟩, ⟨some 91, none, .pur .mov [.tmp 90]⟩, ⟨some 92, some (91, false), .pur .mov [.tmp 3]⟩, ⟨some 93, some (91, false), .pur .mov [.tmp 8]⟩, ⟨some 94, some (91, false), .pur (.bin .sub) [.tmp 93, .const (.int .i64 1)]⟩, ⟨some 95, some (91, false), .pur (.ixa 2) [.tmp 92, .tmp 94]⟩, ⟨some 96, some (91, false), .pur (.ixaA 2 1) [.tmp 95, .const (.int .i64 1)]⟩, ⟨some 97, some (91, false), .ld none (.tmp 96)⟩, ⟨some 98, some (91, false), .pur .mov [.tmp 10]⟩, ⟨some 99, some (91, false), .pur (.bin .neq) [.tmp 97, .tmp 98]⟩, ⟨some 100, none, .pur .pick [.tmp 91, .const (.bool true), .tmp 99]⟩]) [100])
  (.cond (.tmp 100) (.reg (straight [⟨some 101, none, .pur .mov [.tmp 7]⟩, ⟨some 102, none, .pur (.bin .add) [.tmp 101, .const (.int .i64 1)]⟩, ⟨some 7, none, .pur .mov [.tmp 102]⟩]) [7]) (.skip))))))))
  (.reg (straight [⟨some 46, none, .pur .mov [.tmp 8]⟩, ⟨some 47, none, .pur (.bin .add) [.tmp 46, .const (.int .i64 1)]⟩, ⟨some 8, none, .pur .mov [.tmp 47]⟩]) [8]))
def S_forebaylaw33_GridForth : Fun := ⟨108, [2, 14, 0, 16, 4, 24, 6, 32, 5, 8, 3, 45, 9, 10, 11, 12, 88, 100, 7], [.tmp 2],
  .seq (.reg (straight [⟨some 2, none, .pur .mov [.const (.bool false)]⟩]) [2])
  (.seq (.seq (.reg (straight [⟨some 13, none, .eff (.call 28) []⟩, ⟨some 14, none, .pur .not [.tmp 13]⟩]) [14])
  (.cond (.tmp 14) (.seq (.reg (straight [⟨some 2, none, .pur .mov [.const (.bool false)]⟩]) [2])
  (.ret)) (.skip)))
  (.seq (.seq (.reg (straight [⟨some 15, none, .pur .mov [.tmp 0]⟩, ⟨some 16, none, .eff (.call 29) [.tmp 15]⟩]) [16])
  (.cond (.tmp 16) (.seq (.reg (straight [⟨some 2, none, .pur .mov [.const (.bool true)]⟩]) [2])
  (.ret)) (.skip)))
  (.seq (.reg (straight [⟨some 18, none, .pur .mov [.tmp 0]⟩, ⟨some 19, none, .eff (.call 31) [.tmp 18]⟩, ⟨some 20, none, .eff (.call 30) [.tmp 19]⟩, ⟨some 17, none, .pur .mov [.tmp 20]⟩, ⟨some 21, none, .pur (.ext 0) [.tmp 17]⟩, ⟨some 22, none, .pur (.ext 1) [.tmp 17]⟩, ⟨some 3, none, .pur .mov [.tmp 21]⟩, ⟨some 4, none, .pur .mov [.tmp 22]⟩]) [3, 4])
  (.seq (.seq (.reg (straight [⟨some 23, none, .pur .mov [.tmp 4]⟩, ⟨some 24, none, .pur (.bin .neq) [.tmp 23, .const (.int .i64 0)]⟩]) [24])
  (.cond (.tmp 24) (.seq (.reg (straight [⟨some 25, none, .pur .mov [.tmp 4]⟩, ⟨some 26, none, .pur .mov [.tmp 0]⟩, ⟨some 27, none, .eff (.call 32) [.tmp 26]⟩, ⟨some 28, none, .pur (.bin .eql) [.tmp 25, .tmp 27]⟩, ⟨some 2, none, .pur .mov [.tmp 28]⟩]) [2])
  (.ret)) (.skip)))
  (.seq (.reg (straight [⟨some 5, none, .pur .mov [.const (.int .i64 0)]⟩]) [5])
  (.seq (.seq (.reg (straight [⟨some 6, none, .pur .mov [.const (.int .i64 0)]⟩]) [6])
  (.block 0 (.loop S_forebaylaw33_GridForth_L1)))
  (.seq (.reg (straight [⟨some 7, none, .pur .mov [.const (.int .i64 0)]⟩]) [7])
  (.seq (.seq (.reg (straight [⟨some 8, none, .pur .mov [.const (.int .i64 0)]⟩]) [8])
  (.block 2 (.loop S_forebaylaw33_GridForth_L2)))
  (.seq (.reg (straight [⟨some 103, none, .pur .mov [.tmp 7]⟩, ⟨some 104, none, .pur .mov [.tmp 5]⟩, ⟨some 105, none, .pur (.bin .sub) [.tmp 104, .const (.int .i64 1)]⟩, ⟨some 106, none, .pur (.minmax true) [.tmp 105, .const (.int .i64 0)]⟩, ⟨some 107, none, .pur (.bin .eql) [.tmp 103, .tmp 106]⟩, ⟨some 2, none, .pur .mov [.tmp 107]⟩]) [2])
  (.ret))))))))))⟩
theorem K_forebaylaw33_GridForth : compF Try.prog 7 = some S_forebaylaw33_GridForth := by kernel_rfl

-- 13
def S_forebaylaw41_SpanPlans_L2 : SCode :=
  .seq (.seq (.reg (straight [⟨some 102, none, .pur .mov [.tmp 17]⟩, ⟨some 103, none, .pur .mov [.tmp 5]⟩, ⟨some 104, none, .pur (.len false) [.tmp 103]⟩, ⟨some 105, none, .pur (.bin .lss) [.tmp 102, .tmp 104]⟩]) [105])
  (.cond (.tmp 105) (.skip) (.exit 2)))
  (.seq (.block 3 (.seq (.reg (straight [⟨some 108, none, .pur .mov [.tmp 5]⟩, ⟨some 109, none, .pur .mov [.tmp 17]⟩, ⟨some 110, none, .pur (.ixa 1) [.tmp 108, .tmp 109]⟩, ⟨some 111, none, .ld none (.tmp 110)⟩, ⟨some 112, none, .pur .mov [.tmp 5]⟩, ⟨some 113, none, .pur .mov [.tmp 15]⟩, ⟨some 114, none, .pur (.ixa 1) [.tmp 112, .tmp 113]⟩, ⟨some 115, none, .ld none (.tmp 114)⟩, ⟨some 116, none, .pur (.bin .eql) [.tmp 111, .tmp 115]⟩]) [116])
  (.cond (.tmp 116) (.reg (straight [⟨some 117, none, .pur .mov [.tmp 16]⟩, ⟨some 118, none, .pur (.bin .add) [.tmp 117, .const (.int .i64 1)]⟩, ⟨some 16, none, .pur .mov [.tmp 118]⟩]) [16]) (.skip))))
  (.reg (straight [⟨some 106, none, .pur .mov [.tmp 17]⟩, ⟨some 107, none, .pur (.bin .add) [.tmp 106, .const (.int .i64 1)]⟩, ⟨some 17, none, .pur .mov [.tmp 107]⟩]) [17]))
def S_forebaylaw41_SpanPlans_L1 : SCode :=
  .seq (.seq (.reg (straight [⟨some 82, none, .pur .mov [.tmp 15]⟩, ⟨some 83, none, .pur .mov [.tmp 0]⟩, ⟨some 84, none, .pur (.len false) [.tmp 83]⟩, ⟨some 85, none, .pur (.bin .lss) [.tmp 82, .tmp 84]⟩]) [85])
  (.cond (.tmp 85) (.skip) (.exit 0)))
  (.seq (.block 1 (.seq (.seq (.reg (.run ⟨some 88, none, .pur .mov [.tmp 15]⟩ (.run ⟨some 89, none, .pur .mov [.tmp 5]⟩ (.run ⟨some 90, none, .pur (.len false) [.tmp 89]⟩ (.run ⟨some 91, none, .pur (.bin .geq) [.tmp 88, .tmp 90]⟩ (.run ⟨some 92, none, .pur .mov [.tmp 91]⟩ (.run ⟨some 93, some (92, false), .pur .mov [.tmp 5]⟩ (.run ⟨some 94, some (92, false), .pur .mov [.tmp 15]⟩ (.run ⟨some 95, some (92, false), .pur (.ixa 1) [.tmp 93, .tmp 94]⟩ (.run ⟨some 96, some (92, false), .ld none (.tmp 95)⟩ (.run ⟨some 97, some (92, false), .pur .mov [.tmp 0]⟩ (.run ⟨some 98, some (92, false), .pur .mov [.tmp 15]⟩ (.eff ⟨some 99, some (92, false), .eff (.call 64) [.tmp 97, .tmp 98]⟩ [⟨some 96, some (92, false), .ld none (.tmp 95)⟩] (.run ⟨some 100, some (92, false), .pur (.bin .neq) [.tmp 96, .tmp 99]⟩ (.run ⟨some 101, none, .pur .pick [.tmp 92, .const (.bool true), .tmp 100]⟩ .done)))))))))))))) [101])
  (.cond (.tmp 101) (.seq (.reg (straight [⟨some 4, none, .pur .mov [.const (.bool false)]⟩]) [4])
  (.ret)) (.skip)))
  (.seq (.reg (straight [⟨some 16, none, .pur .mov [.const (.int .i64 0)]⟩]) [16])
  (.seq (.seq (.reg (straight [⟨some 17, none, .pur .mov [.const (.int .i64 0)]⟩]) [17])
  (.block 2 (.loop S_forebaylaw41_SpanPlans_L2)))
  (.reg (straight [⟨some 119, none, .pur .mov [.tmp 14]⟩, ⟨some 120, none, .pur .mov [.tmp 16]⟩, ⟨some 121, none, .pur (.minmax true) [.tmp 119, .tmp 120]⟩, ⟨some 14, none, .pur .mov [.tmp 121]⟩]) [14])))))
  (.reg (straight [⟨some 86, none, .pur .mov [.tmp 15]⟩, ⟨some 87, none, .pur (.bin .add) [.tmp 86, .const (.int .i64 1)]⟩, ⟨some 15, none, .pur .mov [.tmp 87]⟩]) [15]))
def S_forebaylaw41_SpanPlans_L3 : SCode :=
  .seq (.seq (.reg (straight [⟨some 148, none, .pur .mov [.tmp 19]⟩, ⟨some 149, none, .pur .mov [.tmp 9]⟩, ⟨some 150, none, .pur (.len false) [.tmp 149]⟩, ⟨some 151, none, .pur (.bin .lss) [.tmp 148, .tmp 150]⟩]) [151])
  (.cond (.tmp 151) (.skip) (.exit 4)))
  (.seq (.block 5 (.seq (.reg (.run ⟨some 154, none, .pur .mov [.tmp 9]⟩ (.run ⟨some 155, none, .pur .mov [.tmp 19]⟩ (.run ⟨some 156, none, .pur (.ixa 1) [.tmp 154, .tmp 155]⟩ (.run ⟨some 157, none, .ld none (.tmp 156)⟩ (.run ⟨some 158, none, .pur .mov [.tmp 18]⟩ (.run ⟨some 159, none, .pur .mov [.tmp 19]⟩ (.run ⟨some 160, none, .pur (.ixa 1) [.tmp 158, .tmp 159]⟩ (.run ⟨some 161, none, .ld none (.tmp 160)⟩ (.eff ⟨some 162, none, .eff (.call 66) [.tmp 157, .tmp 161]⟩ [] (.run ⟨some 163, none, .pur .not [.tmp 162]⟩ .done)))))))))) [163])
  (.cond (.tmp 163) (.seq (.reg (straight [⟨some 4, none, .pur .mov [.const (.bool false)]⟩]) [4])
  (.ret)) (.skip))))
  (.reg (straight [⟨some 152, none, .pur .mov [.tmp 19]⟩, ⟨some 153, none, .pur (.bin .add) [.tmp 152, .const (.int .i64 1)]⟩, ⟨some 19, none, .pur .mov [.tmp 153]⟩]) [19]))
def S_forebaylaw41_SpanPlans : Fun := ⟨164, [4, 21, 0, 23, 1, 6, 13, 8, 10, 12, 69, 71, 5, 9, 7, 11, 15, 85, 101, 17, 105, 116, 16, 14, 18, 147, 19, 151, 163], [.tmp 4],
  .seq (.reg (straight [⟨some 4, none, .pur .mov [.const (.bool false)]⟩]) [4])
  (.seq (.seq (.reg (straight [⟨some 20, none, .eff (.call 57) []⟩, ⟨some 21, none, .pur .not [.tmp 20]⟩]) [21])
  (.cond (.tmp 21) (.seq (.reg (straight [⟨some 4, none, .pur .mov [.const (.bool false)]⟩]) [4])
  (.ret)) (.skip)))
  (.seq (.seq (.reg (straight [⟨some 22, none, .pur .mov [.tmp 0]⟩, ⟨some 23, none, .eff (.call 58) [.tmp 22, .const (.slice none 0 0)]⟩]) [23])
  (.cond (.tmp 23) (.seq (.reg (straight [⟨some 4, none, .pur .mov [.const (.bool true)]⟩]) [4])
  (.ret)) (.skip)))
  (.seq (.reg (straight [⟨some 25, none, .pur .mov [.tmp 0]⟩, ⟨some 26, none, .eff (.call 60) [.tmp 25]⟩, ⟨some 27, none, .eff (.call 59) [.tmp 26]⟩, ⟨some 24, none, .pur .mov [.tmp 27]⟩, ⟨some 28, none, .pur (.ext 0) [.tmp 24]⟩, ⟨some 29, none, .pur (.ext 1) [.tmp 24]⟩, ⟨some 5, none, .pur .mov [.tmp 28]⟩, ⟨some 6, none, .pur .mov [.tmp 29]⟩]) [5, 6])
  (.seq (.reg (straight [⟨some 31, none, .pur .mov [.tmp 0]⟩, ⟨some 32, none, .eff (.call 60) [.tmp 31]⟩, ⟨some 33, none, .eff (.call 61) [.tmp 32]⟩, ⟨some 30, none, .pur .mov [.tmp 33]⟩, ⟨some 34, none, .pur (.ext 0) [.tmp 30]⟩, ⟨some 35, none, .pur (.ext 1) [.tmp 30]⟩, ⟨some 7, none, .pur .mov [.tmp 34]⟩, ⟨some 8, none, .pur .mov [.tmp 35]⟩]) [7, 8])
  (.seq (.reg (straight [⟨some 37, none, .pur .mov [.tmp 0]⟩, ⟨some 38, none, .eff (.call 60) [.tmp 37]⟩, ⟨some 39, none, .pur .mov [.tmp 1]⟩, ⟨some 40, none, .eff (.call 62) [.tmp 38, .tmp 39]⟩, ⟨some 36, none, .pur .mov [.tmp 40]⟩, ⟨some 41, none, .pur (.ext 0) [.tmp 36]⟩, ⟨some 42, none, .pur (.ext 1) [.tmp 36]⟩, ⟨some 9, none, .pur .mov [.tmp 41]⟩, ⟨some 10, none, .pur .mov [.tmp 42]⟩]) [9, 10])
  (.seq (.reg (straight [⟨some 44, none, .pur .mov [.tmp 0]⟩, ⟨some 45, none, .eff (.call 60) [.tmp 44]⟩, ⟨some 46, none, .pur .mov [.tmp 1]⟩, ⟨some 47, none, .eff (.call 63) [.tmp 45, .tmp 46]⟩, ⟨some 43, none, .pur .mov [.tmp 47]⟩, ⟨some 48, none, .pur (.ext 0) [.tmp 43]⟩, ⟨some 49, none, .pur (.ext 1) [.tmp 43]⟩, ⟨some 11, none, .pur .mov [.tmp 48]⟩, ⟨some 12, none, .pur .mov [.tmp 49]⟩]) [11, 12])
  (.seq (.reg (straight [⟨some 50, none, .pur .mov [.tmp 0]⟩, ⟨some 51, none, .eff (.call 47) [.tmp 50]⟩, ⟨some 13, none, .pur .mov [.tmp 51]⟩]) [13])
  (.seq (.seq (.reg (straight [⟨some 52, none, .pur .mov [.tmp 6]⟩, ⟨some 53, none, .pur .mov [.tmp 13]⟩, ⟨some 54, none, .pur (.bin .neq) [.tmp 52, .tmp 53]⟩, ⟨some 55, none, .pur .mov [.tmp 54]⟩, ⟨some 56, some (55, false), .pur .mov [.tmp 8]⟩, ⟨some 57, some (55, false), .pur .mov [.tmp 13]⟩, ⟨some 58, some (55, false), .pur (.bin .neq) [.tmp 56, .tmp 57]⟩, ⟨some 59, none, .pur .pick [.tmp 55, .const (.bool true), .tmp 58]⟩, ⟨some 60, none, .pur .mov [.tmp 59]⟩, ⟨some 61, some (60, false), .pur .mov [.tmp 10]⟩, ⟨some 62, some (60, false), .pur .mov [.tmp 13]⟩, ⟨some 63, some (60, false), .pur (.bin .neq) [.tmp 61, .tmp 62]⟩, ⟨some 64, none, .pur .pick [.tmp 60, .const (.bool true), .tmp 63]⟩, ⟨some 65, none, .pur .mov [.tmp 64]⟩, ⟨some 66, some (65, false), .pur .mov [.tmp 12]⟩, ⟨some 67, some (65, false), .pur .mov [.tmp 13]⟩, ⟨some 68, some (65, false), .pur (.bin .neq) [.tmp 66, .tmp 67]⟩, ⟨some 69, none, .pur .pick [.tmp 65, .const (.bool true), .tmp 68]⟩]) [69])
  (.cond (.tmp 69) (.seq (.reg (straight [⟨some 4, none, .pur .mov [.const (.bool false)]⟩]) [4])
  (.ret)) (.skip)))
  (.seq (.seq (.reg (straight [⟨some 70, none, .pur .mov [.tmp 13]⟩, ⟨some 71, none, .pur (.bin .neq) [.tmp 70, .const (.int .i64 0)]⟩]) [71])
  (.cond (.tmp 71) (.seq (.reg (straight [⟨some 72, none, .pur .mov [.tmp 5]⟩, ⟨some 73, none, .pur (.len false) [.tmp 72]⟩, ⟨some 74, none, .pur .mov [.tmp 9]⟩, ⟨some 75, none, .pur (.len false) [.tmp 74]⟩, ⟨some 76, none, .pur (.bin .add) [.tmp 73, .tmp 75]⟩, ⟨some 77, none, .pur .mov [.tmp 7]⟩, ⟨some 78, none, .pur (.bin .add) [.tmp 76, .tmp 77]⟩, ⟨some 79, none, .pur .mov [.tmp 11]⟩, ⟨some 80, none, .pur (.bin .add) [.tmp 78, .tmp 79]⟩, ⟨some 81, none, .pur (.bin .eql) [.tmp 80, .const (.int .i64 0)]⟩, ⟨some 4, none, .pur .mov [.tmp 81]⟩]) [4])
  (.ret)) (.skip)))
  (.seq (.reg (straight [⟨some 14, none, .pur .mov [.const (.int .i64 0)]⟩]) [14])
  (.seq (.seq (.reg (straight [⟨some 15, none, .pur .mov [.const (.int .i64 0)]⟩]) [15])
  (.block 0 (.loop S_forebaylaw41_SpanPlans_L1)))
  (.seq (.reg (straight [⟨some 122, none, .pur .mov [.tmp 0]⟩, ⟨some 123, none, .pur .mov [.tmp 1]⟩, ⟨some 124, none, .eff (.call 65) [.tmp 122, .tmp 123]⟩, ⟨some 18, none, .pur .mov [.tmp 124]⟩]) [18])
  (.seq (.seq (.reg (straight [⟨some 125, none, .pur .mov [.tmp 5]⟩, ⟨some 126, none, .pur (.len false) [.tmp 125]⟩, ⟨some 127, none, .pur .mov [.tmp 0]⟩, ⟨some 128, none, .pur (.len false) [.tmp 127]⟩, ⟨some 129, none, .pur (.bin .neq) [.tmp 126, .tmp 128]⟩, ⟨some 130, none, .pur .mov [.tmp 129]⟩, ⟨some 131, some (130, false), .pur .mov [.tmp 7]⟩, ⟨some 132, some (130, false), .pur .mov [.tmp 14]⟩, ⟨some 133, some (130, false), .pur (.bin .neq) [.tmp 131, .tmp 132]⟩, ⟨some 134, none, .pur .pick [.tmp 130, .const (.bool true), .tmp 133]⟩, ⟨some 135, none, .pur .mov [.tmp 134]⟩, ⟨some 136, some (135, false), .pur .mov [.tmp 9]⟩, ⟨some 137, some (135, false), .pur (.len false) [.tmp 136]⟩, ⟨some 138, some (135, false), .pur .mov [.tmp 18]⟩, ⟨some 139, some (135, false), .pur (.len false) [.tmp 138]⟩, ⟨some 140, some (135, false), .pur (.bin .neq) [.tmp 137, .tmp 139]⟩, ⟨some 141, none, .pur .pick [.tmp 135, .const (.bool true), .tmp 140]⟩, ⟨some 142, none, .pur .mov [.tmp 141]⟩, ⟨some 143, some (142, false), .pur .mov [.tmp 11]⟩, ⟨some 144, some (142, false), .pur .mov [.tmp 18]⟩, ⟨some 145, some (142, false), .pur (.len false) [.tmp 144]⟩, ⟨some 146, some (142, false), .pur (.bin .neq) [.tmp 143, .tmp 145]⟩, ⟨some 147, none, .pur .pick [.tmp 142, .const (.bool true), .tmp 146]⟩]) [147])
  (.cond (.tmp 147) (.seq (.reg (straight [⟨some 4, none, .pur .mov [.const (.bool false)]⟩]) [4])
  (.ret)) (.skip)))
  (.seq (.seq (.reg (straight [⟨some 19, none, .pur .mov [.const (.int .i64 0)]⟩]) [19])
  (.block 4 (.loop S_forebaylaw41_SpanPlans_L3)))
  (.seq (.reg (straight [⟨some 4, none, .pur .mov [.const (.bool true)]⟩]) [4])
  (.ret))))))))))))))))⟩
theorem K_forebaylaw41_SpanPlans : compF Try.prog 13 = some S_forebaylaw41_SpanPlans := by kernel_rfl

-- 16
def S_forebaylaw30_StrandBuilds : Fun := ⟨31, [2, 8, 0, 11, 4, 6, 3, 5], [.tmp 2],
  .seq (.reg (straight [⟨some 2, none, .pur .mov [.const (.bool false)]⟩]) [2])
  (.seq (.seq (.reg (straight [⟨some 7, none, .eff (.call 72) []⟩, ⟨some 8, none, .pur .not [.tmp 7]⟩]) [8])
  (.cond (.tmp 8) (.seq (.reg (straight [⟨some 2, none, .pur .mov [.const (.bool false)]⟩]) [2])
  (.ret)) (.skip)))
  (.seq (.seq (.reg (straight [⟨some 9, none, .pur .mov [.tmp 0]⟩, ⟨some 10, none, .pur (.len false) [.tmp 9]⟩, ⟨some 11, none, .pur (.bin .gtr) [.tmp 10, .const (.int .i64 2000)]⟩]) [11])
  (.cond (.tmp 11) (.seq (.reg (straight [⟨some 2, none, .pur .mov [.const (.bool true)]⟩]) [2])
  (.ret)) (.skip)))
  (.seq (.reg (straight [⟨some 13, none, .pur .mov [.tmp 0]⟩, ⟨some 14, none, .eff (.call 74) [.tmp 13]⟩, ⟨some 15, none, .eff (.call 73) [.tmp 14]⟩, ⟨some 12, none, .pur .mov [.tmp 15]⟩, ⟨some 16, none, .pur (.ext 0) [.tmp 12]⟩, ⟨some 17, none, .pur (.ext 1) [.tmp 12]⟩, ⟨some 3, none, .eff (.new 98 [.slice none 0 0, .slice none 0 0, .slice none 0 0]) []⟩, ⟨none, none, .eff (.st 3) [.tmp 3, .tmp 16]⟩, ⟨some 4, none, .pur .mov [.tmp 17]⟩]) [3, 4])
  (.seq (.reg (straight [⟨some 19, none, .pur .mov [.tmp 0]⟩, ⟨some 20, none, .eff (.call 75) [.tmp 19]⟩, ⟨some 18, none, .pur .mov [.tmp 20]⟩, ⟨some 21, none, .pur (.ext 0) [.tmp 18]⟩, ⟨some 22, none, .pur (.ext 1) [.tmp 18]⟩, ⟨some 5, none, .pur .mov [.tmp 21]⟩, ⟨some 6, none, .pur .mov [.tmp 22]⟩]) [5, 6])
  (.seq (.reg (straight [⟨some 23, none, .pur .mov [.tmp 4]⟩, ⟨some 24, none, .pur .mov [.tmp 6]⟩, ⟨some 25, none, .pur (.bin .eql) [.tmp 23, .tmp 24]⟩, ⟨some 26, none, .pur .mov [.tmp 25]⟩, ⟨some 27, some (26, true), .ld (some 3) (.tmp 3)⟩, ⟨some 28, some (26, true), .pur .mov [.tmp 5]⟩, ⟨some 29, some (26, true), .eff (.call 76) [.tmp 27, .tmp 28]⟩, ⟨some 30, none, .pur .pick [.tmp 26, .tmp 29, .const (.bool false)]⟩, ⟨some 2, none, .pur .mov [.tmp 30]⟩]) [2])
  (.ret))))))⟩
theorem K_forebaylaw30_StrandBuilds : compF Try.prog 16 = some S_forebaylaw30_StrandBuilds := by kernel_rfl

-- 46
def S_forebaylaw31_own_L1 : SCode :=
  .seq (.seq (.reg (straight [⟨some 5, none, .pur .mov [.tmp 4]⟩, ⟨some 6, none, .pur .mov [.tmp 0]⟩, ⟨some 7, none, .pur (.len false) [.tmp 6]⟩, ⟨some 8, none, .pur (.bin .lss) [.tmp 5, .tmp 7]⟩]) [8])
  (.cond (.tmp 8) (.skip) (.exit 0)))
  (.seq (.block 1 (.reg (straight [⟨some 11, none, .pur .mov [.tmp 3]⟩, ⟨some 12, none, .eff (.bsl 3 1) []⟩, ⟨some 13, none, .pur .mov [.tmp 0]⟩, ⟨some 14, none, .pur .mov [.tmp 4]⟩, ⟨some 15, none, .pur (.ixa 1) [.tmp 13, .tmp 14]⟩, ⟨some 16, none, .ld none (.tmp 15)⟩, ⟨some 17, none, .eff (.app 3 1 8 [.int .i64 0]) [.tmp 12, .tmp 16]⟩, ⟨some 18, none, .eff (.bsl 29 1) [.tmp 17]⟩, ⟨some 19, none, .eff (.app 29 1 24 [.slice none 0 0]) [.tmp 11, .tmp 18]⟩, ⟨some 3, none, .pur .mov [.tmp 19]⟩]) [3]))
  (.reg (straight [⟨some 9, none, .pur .mov [.tmp 4]⟩, ⟨some 10, none, .pur (.bin .add) [.tmp 9, .const (.int .i64 1)]⟩, ⟨some 4, none, .pur .mov [.tmp 10]⟩]) [4]))
def S_forebaylaw31_own : Fun := ⟨21, [2, 4, 0, 8, 3], [.tmp 2],
  .seq (.reg (straight [⟨some 2, none, .pur .mov [.const (.slice none 0 0)]⟩]) [2])
  (.seq (.reg (straight [⟨some 3, none, .pur .mov [.const (.slice none 0 0)]⟩]) [3])
  (.seq (.seq (.reg (straight [⟨some 4, none, .pur .mov [.const (.int .i64 0)]⟩]) [4])
  (.block 0 (.loop S_forebaylaw31_own_L1)))
  (.seq (.reg (straight [⟨some 20, none, .pur .mov [.tmp 3]⟩, ⟨some 2, none, .pur .mov [.tmp 20]⟩]) [2])
  (.ret))))⟩
theorem K_forebaylaw31_own : compF Try.prog 46 = some S_forebaylaw31_own := by kernel_rfl

-- 54
def S_forebayref31_Ahead_L1 : SCode :=
  .seq (.seq (.reg (straight [⟨some 21, none, .pur .mov [.tmp 6]⟩, ⟨some 22, none, .pur .mov [.tmp 0]⟩, ⟨some 23, none, .pur .mov [.tmp 1]⟩, ⟨some 24, none, .pur (.ixa 1) [.tmp 22, .tmp 23]⟩, ⟨some 25, none, .ld none (.tmp 24)⟩, ⟨some 26, none, .pur (.len false) [.tmp 25]⟩, ⟨some 27, none, .pur (.bin .lss) [.tmp 21, .tmp 26]⟩]) [27])
  (.cond (.tmp 27) (.skip) (.exit 0)))
  (.seq (.block 1 (.reg (straight [⟨some 30, none, .pur .mov [.tmp 5]⟩, ⟨some 31, none, .pur .mov [.tmp 0]⟩, ⟨some 32, none, .pur .mov [.tmp 1]⟩, ⟨some 33, none, .pur (.ixa 1) [.tmp 31, .tmp 32]⟩, ⟨some 34, none, .ld none (.tmp 33)⟩, ⟨some 35, none, .pur .mov [.tmp 6]⟩, ⟨some 36, none, .pur (.ixa 1) [.tmp 34, .tmp 35]⟩, ⟨some 37, none, .ld none (.tmp 36)⟩, ⟨some 38, none, .pur (.ixa 1) [.tmp 30, .tmp 37]⟩, ⟨none, none, .eff (.st 1) [.tmp 38, .const (.bool true)]⟩]) []))
  (.reg (straight [⟨some 28, none, .pur .mov [.tmp 6]⟩, ⟨some 29, none, .pur (.bin .add) [.tmp 28, .const (.int .i64 1)]⟩, ⟨some 6, none, .pur .mov [.tmp 29]⟩]) [6]))
def S_forebayref31_Ahead_L3 : SCode :=
  .seq (.seq (.reg (straight [⟨some 49, none, .pur .mov [.tmp 8]⟩, ⟨some 50, none, .pur .mov [.tmp 0]⟩, ⟨some 51, none, .pur .mov [.tmp 7]⟩, ⟨some 52, none, .pur (.ixa 1) [.tmp 50, .tmp 51]⟩, ⟨some 53, none, .ld none (.tmp 52)⟩, ⟨some 54, none, .pur (.len false) [.tmp 53]⟩, ⟨some 55, none, .pur (.bin .lss) [.tmp 49, .tmp 54]⟩]) [55])
  (.cond (.tmp 55) (.skip) (.exit 4)))
  (.seq (.block 5 (.reg (straight [⟨some 58, none, .pur .mov [.tmp 5]⟩, ⟨some 59, none, .pur .mov [.tmp 0]⟩, ⟨some 60, none, .pur .mov [.tmp 7]⟩, ⟨some 61, none, .pur (.ixa 1) [.tmp 59, .tmp 60]⟩, ⟨some 62, none, .ld none (.tmp 61)⟩, ⟨some 63, none, .pur .mov [.tmp 8]⟩, ⟨some 64, none, .pur (.ixa 1) [.tmp 62, .tmp 63]⟩, ⟨some 65, none, .ld none (.tmp 64)⟩, ⟨some 66, none, .pur (.ixa 1) [.tmp 58, .tmp 65]⟩, ⟨none, none, .eff (.st 1) [.tmp 66, .const (.bool true)]⟩]) []))
  (.reg (straight [⟨some 56, none, .pur .mov [.tmp 8]⟩, ⟨some 57, none, .pur (.bin .add) [.tmp 56, .const (.int .i64 1)]⟩, ⟨some 8, none, .pur .mov [.tmp 57]⟩]) [8]))
def S_forebayref31_Ahead_L2 : SCode :=
  .seq (.seq (.reg (straight [⟨some 41, none, .pur .mov [.tmp 7]⟩, ⟨some 42, none, .pur (.bin .geq) [.tmp 41, .const (.int .i64 0)]⟩]) [42])
  (.cond (.tmp 42) (.skip) (.exit 2)))
  (.seq (.block 3 (.seq (.reg (straight [⟨some 45, none, .pur .mov [.tmp 5]⟩, ⟨some 46, none, .pur .mov [.tmp 7]⟩, ⟨some 47, none, .pur (.ixa 1) [.tmp 45, .tmp 46]⟩, ⟨some 48, none, .ld none (.tmp 47)⟩]) [48])
  (.cond (.tmp 48) (.seq (.reg (straight [⟨some 8, none, .pur .mov [.const (.int .i64 0)]⟩]) [8])
  (.block 4 (.loop S_forebayref31_Ahead_L3))) (.skip))))
  (.reg (straight [⟨some 43, none, .pur .mov [.tmp 7]⟩, ⟨some 44, none, .pur (.bin .sub) [.tmp 43, .const (.int .i64 1)]⟩, ⟨some 7, none, .pur .mov [.tmp 44]⟩]) [7]))
def S_forebayref31_Ahead : Fun := ⟨68, [4, 0, 1, 19, 5, 6, 27, 7, 42, 48, 8, 55], [.tmp 4],
  .seq (.reg (straight [⟨some 4, none, .pur .mov [.const (.slice none 0 0)]⟩]) [4])
  (.seq (.reg (straight [⟨some 9, none, .pur .mov [.tmp 0]⟩, ⟨some 10, none, .pur (.len false) [.tmp 9]⟩, ⟨some 11, none, .eff (.mks 4 1 1 [.bool false]) [.tmp 10, .tmp 10]⟩, ⟨some 5, none, .pur .mov [.tmp 11]⟩]) [5])
  (.seq (.seq (.reg (straight [⟨some 12, none, .pur .mov [.tmp 1]⟩, ⟨some 13, none, .pur (.bin .lss) [.tmp 12, .const (.int .i64 0)]⟩, ⟨some 14, none, .pur .mov [.tmp 13]⟩, ⟨some 15, some (14, false), .pur .mov [.tmp 1]⟩, ⟨some 16, some (14, false), .pur .mov [.tmp 0]⟩, ⟨some 17, some (14, false), .pur (.len false) [.tmp 16]⟩, ⟨some 18, some (14, false), .pur (.bin .geq) [.tmp 15, .tmp 17]⟩, ⟨some 19, none, .pur .pick [.tmp 14, .const (.bool true), .tmp 18]⟩]) [19])
  (.cond (.tmp 19) (.seq (.reg (straight [⟨some 20, none, .pur .mov [.tmp 5]⟩, ⟨some 4, none, .pur .mov [.tmp 20]⟩]) [4])
  (.ret)) (.skip)))
  (.seq (.seq (.reg (straight [⟨some 6, none, .pur .mov [.const (.int .i64 0)]⟩]) [6])
  (.block 0 (.loop S_forebayref31_Ahead_L1)))
  (.seq (.seq (.reg (straight [⟨some 39, none, .pur .mov [.tmp 1]⟩, ⟨some 40, none, .pur (.bin .sub) [.tmp 39, .const (.int .i64 1)]⟩, ⟨some 7, none, .pur .mov [.tmp 40]⟩]) [7])
  (.block 2 (.loop S_forebayref31_Ahead_L2)))
  (.seq (.reg (straight [⟨some 67, none, .pur .mov [.tmp 5]⟩, ⟨some 4, none, .pur .mov [.tmp 67]⟩]) [4])
  (.ret))))))⟩
theorem K_forebayref31_Ahead : compF Try.prog 54 = some S_forebayref31_Ahead := by kernel_rfl

-- 59
def S_span_Levels_L2 : SCode :=
  .seq (.reg (straight [⟨some 28, none, .pur (.bin .lss) [.tmp 27, .tmp 26]⟩]) [28])
  (.seq (.cond (.tmp 28) (.skip) (.exit 2))
  (.seq (.block 3 (.seq (.reg (straight [⟨some 29, none, .pur (.ixa 1) [.tmp 25, .tmp 27]⟩, ⟨some 30, none, .ld none (.tmp 29)⟩, ⟨some 9, none, .pur .mov [.tmp 30]⟩]) [9])
  (.reg (.run ⟨some 31, none, .pur .mov [.tmp 5]⟩ (.run ⟨some 32, none, .pur .mov [.tmp 6]⟩ (.run ⟨some 33, none, .pur .mov [.tmp 5]⟩ (.run ⟨some 34, none, .pur .mov [.tmp 6]⟩ (.run ⟨some 35, none, .pur (.ixa 1) [.tmp 33, .tmp 34]⟩ (.run ⟨some 36, none, .ld none (.tmp 35)⟩ (.run ⟨some 37, none, .pur .mov [.tmp 5]⟩ (.run ⟨some 38, none, .pur .mov [.tmp 9]⟩ (.run ⟨some 39, none, .pur (.ixa 1) [.tmp 37, .tmp 38]⟩ (.run ⟨some 40, none, .ld none (.tmp 39)⟩ (.run ⟨some 41, none, .pur (.bin .add) [.tmp 40, .const (.int .i64 1)]⟩ (.run ⟨some 42, none, .pur (.minmax true) [.tmp 36, .tmp 41]⟩ (.run ⟨some 43, none, .pur (.ixa 1) [.tmp 31, .tmp 32]⟩ (.eff ⟨none, none, .eff (.st 1) [.tmp 43, .tmp 42]⟩ [] .done)))))))))))))) [])))
  (.reg (straight [⟨some 44, none, .pur (.bin .add) [.tmp 27, .const (.int .i64 1)]⟩, ⟨some 27, none, .pur .mov [.tmp 44]⟩]) [27])))
def S_span_Levels_L1 : SCode :=
  .seq (.reg (straight [⟨some 21, none, .pur (.bin .lss) [.tmp 20, .tmp 19]⟩]) [21])
  (.seq (.cond (.tmp 21) (.skip) (.exit 0))
  (.seq (.block 1 (.seq (.reg (straight [⟨some 22, none, .pur .mov [.tmp 20]⟩, ⟨some 23, none, .pur (.ixa 1) [.tmp 18, .tmp 20]⟩, ⟨some 24, none, .ld none (.tmp 23)⟩, ⟨some 6, none, .pur .mov [.tmp 22]⟩, ⟨some 7, none, .pur .mov [.tmp 24]⟩]) [6, 7])
  (.seq (.reg (straight [⟨some 25, none, .pur .mov [.tmp 7]⟩, ⟨some 26, none, .pur (.len false) [.tmp 25]⟩, ⟨some 27, none, .pur .mov [.const (.int .i64 0)]⟩]) [25, 26, 27])
  (.block 2 (.loop S_span_Levels_L2)))))
  (.reg (straight [⟨some 45, none, .pur (.bin .add) [.tmp 20, .const (.int .i64 1)]⟩, ⟨some 20, none, .pur .mov [.tmp 45]⟩]) [20])))
def S_span_Levels : Fun := ⟨47, [2, 3, 0, 4, 13, 20, 19, 21, 18, 7, 27, 26, 28, 25, 5, 6, 9], [.tmp 2, .tmp 3],
  .seq (.reg (straight [⟨some 2, none, .pur .mov [.const (.slice none 0 0)]⟩, ⟨some 3, none, .pur .mov [.const (.int .i64 0)]⟩]) [2, 3])
  (.seq (.seq (.reg (straight [⟨some 10, none, .pur .mov [.tmp 0]⟩, ⟨some 11, none, .eff (.call 98) [.tmp 10]⟩, ⟨some 4, none, .pur .mov [.tmp 11]⟩]) [4])
  (.seq (.reg (straight [⟨some 12, none, .pur .mov [.tmp 4]⟩, ⟨some 13, none, .pur (.bin .neq) [.tmp 12, .const (.int .i64 0)]⟩]) [13])
  (.cond (.tmp 13) (.seq (.reg (straight [⟨some 14, none, .pur .mov [.tmp 4]⟩, ⟨some 2, none, .pur .mov [.const (.slice none 0 0)]⟩, ⟨some 3, none, .pur .mov [.tmp 14]⟩]) [2, 3])
  (.ret)) (.skip))))
  (.seq (.reg (straight [⟨some 15, none, .pur .mov [.tmp 0]⟩, ⟨some 16, none, .pur (.len false) [.tmp 15]⟩, ⟨some 17, none, .eff (.mks 3 1 8 [.int .i64 0]) [.tmp 16, .tmp 16]⟩, ⟨some 5, none, .pur .mov [.tmp 17]⟩]) [5])
  (.seq (.seq (.reg (straight [⟨some 18, none, .pur .mov [.tmp 0]⟩, ⟨some 19, none, .pur (.len false) [.tmp 18]⟩, ⟨some 20, none, .pur .mov [.const (.int .i64 0)]⟩]) [18, 19, 20])
  (.block 0 (.loop S_span_Levels_L1)))
  (.seq (.reg (straight [⟨some 46, none, .pur .mov [.tmp 5]⟩, ⟨some 2, none, .pur .mov [.tmp 46]⟩, ⟨some 3, none, .pur .mov [.const (.int .i64 0)]⟩]) [2, 3])
  (.ret)))))⟩
theorem K_span_Levels : compF Try.prog 59 = some S_span_Levels := by kernel_rfl

-- 66
def S_forebaylaw05_Ints_L1 : SCode :=
  .seq (.seq (.reg (straight [⟨some 11, none, .pur .mov [.tmp 5]⟩, ⟨some 12, none, .pur .mov [.tmp 0]⟩, ⟨some 13, none, .pur (.len false) [.tmp 12]⟩, ⟨some 14, none, .pur (.bin .lss) [.tmp 11, .tmp 13]⟩, ⟨some 15, none, .pur .mov [.tmp 14]⟩, ⟨some 16, some (15, true), .pur .mov [.tmp 5]⟩, ⟨some 17, some (15, true), .pur .mov [.tmp 1]⟩, ⟨some 18, some (15, true), .pur (.len false) [.tmp 17]⟩, ⟨some 19, some (15, true), .pur (.bin .lss) [.tmp 16, .tmp 18]⟩, ⟨some 20, none, .pur .pick [.tmp 15, .tmp 19, .const (.bool false)]⟩]) [20])
  (.cond (.tmp 20) (.skip) (.exit 0)))
  (.seq (.block 1 (.seq (.reg (straight [⟨some 23, none, .pur .mov [.tmp 0]⟩, ⟨some 24, none, .pur .mov [.tmp 5]⟩, ⟨some 25, none, .pur (.ixa 1) [.tmp 23, .tmp 24]⟩, ⟨some 26, none, .ld none (.tmp 25)⟩, ⟨some 27, none, .pur .mov [.tmp 1]⟩, ⟨some 28, none, .pur .mov [.tmp 5]⟩, ⟨some 29, none, .pur (.ixa 1) [.tmp 27, .tmp 28]⟩, ⟨some 30, none, .ld none (.tmp 29)⟩, ⟨some 31, none, .pur (.bin .neq) [.tmp 26, .tmp 30]⟩]) [31])
  (.cond (.tmp 31) (.seq (.reg (straight [⟨some 4, none, .pur .mov [.const (.bool false)]⟩]) [4])
  (.ret)) (.skip))))
  (.reg (straight [⟨some 21, none, .pur .mov [.tmp 5]⟩, ⟨some 22, none, .pur (.bin .add) [.tmp 21, .const (.int .i64 1)]⟩, ⟨some 5, none, .pur .mov [.tmp 22]⟩]) [5]))
def S_forebaylaw05_Ints : Fun := ⟨32, [4, 0, 1, 10, 5, 20, 31], [.tmp 4],
  .seq (.reg (straight [⟨some 4, none, .pur .mov [.const (.bool false)]⟩]) [4])
  (.seq (.seq (.reg (straight [⟨some 6, none, .pur .mov [.tmp 0]⟩, ⟨some 7, none, .pur (.len false) [.tmp 6]⟩, ⟨some 8, none, .pur .mov [.tmp 1]⟩, ⟨some 9, none, .pur (.len false) [.tmp 8]⟩, ⟨some 10, none, .pur (.bin .neq) [.tmp 7, .tmp 9]⟩]) [10])
  (.cond (.tmp 10) (.seq (.reg (straight [⟨some 4, none, .pur .mov [.const (.bool false)]⟩]) [4])
  (.ret)) (.skip)))
  (.seq (.seq (.reg (straight [⟨some 5, none, .pur .mov [.const (.int .i64 0)]⟩]) [5])
  (.block 0 (.loop S_forebaylaw05_Ints_L1)))
  (.seq (.reg (straight [⟨some 4, none, .pur .mov [.const (.bool true)]⟩]) [4])
  (.ret))))⟩
theorem K_forebaylaw05_Ints : compF Try.prog 66 = some S_forebaylaw05_Ints := by kernel_rfl

-- 70
def S_forebayref41_Weights_L1 : SCode :=
  .seq (.seq (.reg (straight [⟨some 19, none, .pur .mov [.tmp 8]⟩, ⟨some 20, none, .pur .mov [.tmp 1]⟩, ⟨some 21, none, .pur (.len false) [.tmp 20]⟩, ⟨some 22, none, .pur (.bin .lss) [.tmp 19, .tmp 21]⟩]) [22])
  (.cond (.tmp 22) (.skip) (.exit 0)))
  (.seq (.block 1 (.seq (.reg (straight [⟨some 25, none, .pur .mov [.tmp 1]⟩, ⟨some 26, none, .pur .mov [.tmp 8]⟩, ⟨some 27, none, .pur (.ixa 3) [.tmp 25, .tmp 26]⟩, ⟨some 28, none, .pur (.fla 0) [.tmp 27]⟩, ⟨some 29, none, .ld none (.tmp 28)⟩, ⟨some 30, none, .pur (.bin .lss) [.tmp 29, .const (.int .i64 0)]⟩, ⟨some 31, none, .pur .mov [.tmp 30]⟩, ⟨some 32, some (31, false), .pur .mov [.tmp 1]⟩, ⟨some 33, some (31, false), .pur .mov [.tmp 8]⟩, ⟨some 34, some (31, false), .pur (.ixa 3) [.tmp 32, .tmp 33]⟩, ⟨some 35, some (31, false), .pur (.fla 0) [.tmp 34]⟩, ⟨some 36, some (31, false), .ld none (.tmp 35)⟩, ⟨some 37, some (31, false), .pur .mov [.tmp 0]⟩, ⟨some 38, some (31, false), .pur (.len false) [.tmp 37]⟩, ⟨some 39, some (31, false), .pur (.bin .geq) [.tmp 36, .tmp 38]⟩, ⟨some 40, none, .pur .pick [.tmp 31, .const (.bool true), .tmp 39]⟩]) [40])
  (.cond (.tmp 40) (.seq (.reg (straight [⟨some 4, none, .pur .mov [.const (.slice none 0 0)]⟩, ⟨some 5, none, .pur .mov [.const (.int .i64 3)]⟩]) [4, 5])
  (.ret)) (.skip))))
  (.reg (straight [⟨some 23, none, .pur .mov [.tmp 8]⟩, ⟨some 24, none, .pur (.bin .add) [.tmp 23, .const (.int .i64 1)]⟩, ⟨some 8, none, .pur .mov [.tmp 24]⟩]) [8]))
def S_forebayref41_Weights_L3 : SCode :=
  .seq (.seq (.reg (straight [⟨some 50, none, .pur .mov [.tmp 10]⟩, ⟨some 51, none, .pur .mov [.tmp 1]⟩, ⟨some 52, none, .pur (.len false) [.tmp 51]⟩, ⟨some 53, none, .pur (.bin .lss) [.tmp 50, .tmp 52]⟩]) [53])
  (.cond (.tmp 53) (.skip) (.exit 4)))
  (.seq (.block 5 (.seq (.reg (straight [⟨some 56, none, .pur .mov [.tmp 1]⟩, ⟨some 57, none, .pur .mov [.tmp 10]⟩, ⟨some 58, none, .pur (.ixa 3) [.tmp 56, .tmp 57]⟩, ⟨some 59, none, .pur (.fla 0) [.tmp 58]⟩, ⟨some 60, none, .ld none (.tmp 59)⟩, ⟨some 61, none, .pur .mov [.tmp 9]⟩, ⟨some 62, none, .pur (.bin .eql) [.tmp 60, .tmp 61]⟩]) [62])
  (.cond (.tmp 62) (.reg (straight [⟨some 63, none, .pur .mov [.tmp 7]⟩, ⟨some 64, none, .pur .mov [.tmp 9]⟩, ⟨some 65, none, .pur (.ixa 1) [.tmp 63, .tmp 64]⟩, ⟨some 66, none, .ld none (.tmp 65)⟩, ⟨some 67, none, .pur (.bin .add) [.tmp 66, .const (.int .i64 1)]⟩, ⟨some 68, none, .pur (.ixa 1) [.tmp 63, .tmp 64]⟩, ⟨none, none, .eff (.st 1) [.tmp 68, .tmp 67]⟩]) []) (.skip))))
  (.reg (straight [⟨some 54, none, .pur .mov [.tmp 10]⟩, ⟨some 55, none, .pur (.bin .add) [.tmp 54, .const (.int .i64 1)]⟩, ⟨some 10, none, .pur .mov [.tmp 55]⟩]) [10]))
def S_forebayref41_Weights_L2 : SCode :=
  .seq (.seq (.reg (straight [⟨some 41, none, .pur .mov [.tmp 9]⟩, ⟨some 42, none, .pur .mov [.tmp 0]⟩, ⟨some 43, none, .pur (.len false) [.tmp 42]⟩, ⟨some 44, none, .pur (.bin .lss) [.tmp 41, .tmp 43]⟩]) [44])
  (.cond (.tmp 44) (.skip) (.exit 2)))
  (.seq (.block 3 (.seq (.reg (straight [⟨some 47, none, .pur .mov [.tmp 7]⟩, ⟨some 48, none, .pur .mov [.tmp 9]⟩, ⟨some 49, none, .pur (.ixa 1) [.tmp 47, .tmp 48]⟩, ⟨none, none, .eff (.st 1) [.tmp 49, .const (.int .i64 1)]⟩]) [])
  (.seq (.reg (straight [⟨some 10, none, .pur .mov [.const (.int .i64 0)]⟩]) [10])
  (.block 4 (.loop S_forebayref41_Weights_L3)))))
  (.reg (straight [⟨some 45, none, .pur .mov [.tmp 9]⟩, ⟨some 46, none, .pur (.bin .add) [.tmp 45, .const (.int .i64 1)]⟩, ⟨some 9, none, .pur .mov [.tmp 46]⟩]) [9]))
def S_forebayref41_Weights : Fun := ⟨70, [4, 5, 0, 6, 14, 8, 1, 22, 40, 9, 44, 7, 10, 53, 62], [.tmp 4, .tmp 5],
  .seq (.reg (straight [⟨some 4, none, .pur .mov [.const (.slice none 0 0)]⟩, ⟨some 5, none, .pur .mov [.const (.int .i64 0)]⟩]) [4, 5])
  (.seq (.reg (straight [⟨some 11, none, .pur .mov [.tmp 0]⟩, ⟨some 12, none, .eff (.call 47) [.tmp 11]⟩, ⟨some 6, none, .pur .mov [.tmp 12]⟩]) [6])
  (.seq (.seq (.reg (straight [⟨some 13, none, .pur .mov [.tmp 6]⟩, ⟨some 14, none, .pur (.bin .neq) [.tmp 13, .const (.int .i64 0)]⟩]) [14])
  (.cond (.tmp 14) (.seq (.reg (straight [⟨some 15, none, .pur .mov [.tmp 6]⟩, ⟨some 4, none, .pur .mov [.const (.slice none 0 0)]⟩, ⟨some 5, none, .pur .mov [.tmp 15]⟩]) [4, 5])
  (.ret)) (.skip)))
  (.seq (.reg (straight [⟨some 16, none, .pur .mov [.tmp 0]⟩, ⟨some 17, none, .pur (.len false) [.tmp 16]⟩, ⟨some 18, none, .eff (.mks 3 1 8 [.int .i64 0]) [.tmp 17, .tmp 17]⟩, ⟨some 7, none, .pur .mov [.tmp 18]⟩]) [7])
  (.seq (.seq (.reg (straight [⟨some 8, none, .pur .mov [.const (.int .i64 0)]⟩]) [8])
  (.block 0 (.loop S_forebayref41_Weights_L1)))
  (.seq (.seq (.reg (straight [⟨some 9, none, .pur .mov [.const (.int .i64 0)]⟩]) [9])
  (.block 2 (.loop S_forebayref41_Weights_L2)))
  (.seq (.reg (straight [⟨some 69, none, .pur .mov [.tmp 7]⟩, ⟨some 4, none, .pur .mov [.tmp 69]⟩, ⟨some 5, none, .pur .mov [.const (.int .i64 0)]⟩]) [4, 5])
  (.ret)))))))⟩
theorem K_forebayref41_Weights : compF Try.prog 70 = some S_forebayref41_Weights := by kernel_rfl

-- 72
def S_forebaylaw30_works : Fun := ⟨48, [0, 2, 1], [.tmp 0],
  .seq (.reg (straight [⟨some 0, none, .pur .mov [.const (.bool false)]⟩]) [0])
  (.seq (.reg (straight [⟨some 4, none, .pur (.bld [.int .i64 0, .int .i64 0, .int .i64 0] [(0, 1)]) [.const (.int .i64 4)]⟩, ⟨some 5, none, .pur (.bld [.int .i64 0, .int .i64 0, .int .i64 0] [(0, 1), (1, 1)]) [.const (.int .i64 3), .const (.int .i64 5)]⟩, ⟨some 6, none, .pur (.bld [.int .i64 0, .int .i64 0, .int .i64 0] [(0, 1)]) [.const (.int .i64 5)]⟩, ⟨some 7, none, .pur (.bld [.int .i64 0, .int .i64 0, .int .i64 0] [(0, 1)]) [.const (.int .i64 6)]⟩, ⟨some 8, none, .eff (.bsl 158 3) [.tmp 4, .tmp 5, .tmp 6, .tmp 7]⟩, ⟨some 9, none, .eff (.call 73) [.tmp 8]⟩, ⟨some 3, none, .pur .mov [.tmp 9]⟩, ⟨some 10, none, .pur (.ext 0) [.tmp 3]⟩, ⟨some 11, none, .pur (.ext 1) [.tmp 3]⟩, ⟨some 1, none, .eff (.new 98 [.slice none 0 0, .slice none 0 0, .slice none 0 0]) []⟩, ⟨none, none, .eff (.st 3) [.tmp 1, .tmp 10]⟩, ⟨some 2, none, .pur .mov [.tmp 11]⟩]) [1, 2])
  (.seq (.reg (straight [⟨some 12, none, .pur .mov [.tmp 2]⟩, ⟨some 13, none, .pur (.bin .eql) [.tmp 12, .const (.int .i64 0)]⟩, ⟨some 14, none, .pur .mov [.tmp 13]⟩, ⟨some 15, some (14, true), .pur (.fla 0) [.tmp 1]⟩, ⟨some 16, some (14, true), .ld none (.tmp 15)⟩, ⟨some 17, some (14, true), .pur (.len false) [.tmp 16]⟩, ⟨some 18, some (14, true), .pur (.bin .eql) [.tmp 17, .const (.int .i64 4)]⟩, ⟨some 19, none, .pur .pick [.tmp 14, .tmp 18, .const (.bool false)]⟩, ⟨some 20, none, .pur .mov [.tmp 19]⟩, ⟨some 21, some (20, true), .pur (.fla 1) [.tmp 1]⟩, ⟨some 22, some (20, true), .ld none (.tmp 21)⟩, ⟨some 23, some (20, true), .pur (.len false) [.tmp 22]⟩, ⟨some 24, some (20, true), .pur (.bin .eql) [.tmp 23, .const (.int .i64 4)]⟩, ⟨some 25, none, .pur .pick [.tmp 20, .tmp 24, .const (.bool false)]⟩, ⟨some 26, none, .pur .mov [.tmp 25]⟩, ⟨some 27, some (26, true), .pur (.fla 0) [.tmp 1]⟩, ⟨some 28, some (26, true), .ld none (.tmp 27)⟩, ⟨some 29, some (26, true), .pur (.ixa 1) [.tmp 28, .const (.int .i64 3)]⟩, ⟨some 30, some (26, true), .ld none (.tmp 29)⟩, ⟨some 31, some (26, true), .eff (.bsl 3 1) [.const (.int .i64 2), .const (.int .i64 1)]⟩, ⟨some 32, some (26, true), .eff (.call 66) [.tmp 30, .tmp 31]⟩, ⟨some 33, none, .pur .pick [.tmp 26, .tmp 32, .const (.bool false)]⟩, ⟨some 34, none, .pur .mov [.tmp 33]⟩, ⟨some 35, some (34, true), .pur (.fla 2) [.tmp 1]⟩, ⟨some 36, some (34, true), .ld none (.tmp 35)⟩, ⟨some 37, some (34, true), .pur (.len false) [.tmp 36]⟩, ⟨some 38, some (34, true), .pur (.bin .eql) [.tmp 37, .const (.int .i64 1)]⟩, ⟨some 39, none, .pur .pick [.tmp 34, .tmp 38, .const (.bool false)]⟩, ⟨some 40, none, .pur .mov [.tmp 39]⟩, ⟨some 41, some (40, true), .pur (.fla 2) [.tmp 1]⟩, ⟨some 42, some (40, true), .ld none (.tmp 41)⟩, ⟨some 43, some (40, true), .pur (.ixa 3) [.tmp 42, .const (.int .i64 0)]⟩, ⟨some 44, some (40, true), .ld (some 3) (.tmp 43)⟩, ⟨some 45, some (40, true), .pur (.bld [.int .i64 0, .int .i64 0, .bool false] [(0, 1), (1, 1), (2, 1)]) [.const (.int .i64 1), .const (.int .i64 (-1)), .const (.bool true)]⟩, ⟨some 46, some (40, true), .pur (.eqs false [.int .i64, .int .i64, .bool]) [.tmp 44, .tmp 45]⟩, ⟨some 47, none, .pur .pick [.tmp 40, .tmp 46, .const (.bool false)]⟩, ⟨some 0, none, .pur .mov [.tmp 47]⟩]) [0])
  (.ret)))⟩
theorem K_forebaylaw30_works : compF Try.prog 72 = some S_forebaylaw30_works := by kernel_rfl

-- 85
def S_compare_Least_L1 : SCode :=
  .seq (.reg (straight [⟨some 12, none, .pur (.bin .lss) [.tmp 11, .tmp 10]⟩]) [12])
  (.seq (.cond (.tmp 12) (.skip) (.exit 0))
  (.seq (.block 1 (.seq (.reg (straight [⟨some 13, none, .pur (.ixa 11) [.tmp 9, .tmp 11]⟩, ⟨some 14, none, .ld (some 11) (.tmp 13)⟩, ⟨some 8, none, .eff (.new 129 [.int .i64 0, .int .i64 0, .slice none 0 0, .slice none 0 0, .int .i64 0, .int .i64 0, .int .i64 0, .int .i64 0, .int .i64 0, .int .i64 0, .int .i64 0]) []⟩, ⟨none, none, .eff (.st 11) [.tmp 8, .tmp 14]⟩]) [8])
  (.seq (.reg (straight [⟨some 15, none, .ld (some 11) (.tmp 8)⟩, ⟨some 16, none, .ld (some 7) (.tmp 2)⟩, ⟨some 17, none, .eff (.call 84) [.tmp 15, .tmp 16]⟩, ⟨some 18, none, .pur (.bin .eql) [.tmp 17, .const (.int .i64 0)]⟩, ⟨some 19, none, .pur .mov [.tmp 18]⟩, ⟨some 20, some (19, true), .pur .mov [.tmp 6]⟩, ⟨some 21, some (19, true), .pur .not [.tmp 20]⟩, ⟨some 22, some (19, true), .pur .mov [.tmp 21]⟩, ⟨some 23, some (22, false), .pur (.fla 4) [.tmp 8]⟩, ⟨some 24, some (22, false), .pur (.fla 0) [.tmp 23]⟩, ⟨some 25, some (22, false), .ld none (.tmp 24)⟩, ⟨some 26, some (22, false), .pur .mov [.tmp 5]⟩, ⟨some 27, some (22, false), .pur (.bin .lss) [.tmp 25, .tmp 26]⟩, ⟨some 28, some (19, true), .pur .pick [.tmp 22, .const (.bool true), .tmp 27]⟩, ⟨some 29, none, .pur .pick [.tmp 19, .tmp 28, .const (.bool false)]⟩]) [29])
  (.cond (.tmp 29) (.reg (straight [⟨some 30, none, .pur (.fla 4) [.tmp 8]⟩, ⟨some 31, none, .pur (.fla 0) [.tmp 30]⟩, ⟨some 32, none, .ld none (.tmp 31)⟩, ⟨some 5, none, .pur .mov [.tmp 32]⟩, ⟨some 6, none, .pur .mov [.const (.bool true)]⟩]) [5, 6]) (.skip)))))
  (.reg (straight [⟨some 33, none, .pur (.bin .add) [.tmp 11, .const (.int .i64 1)]⟩, ⟨some 11, none, .pur .mov [.tmp 33]⟩]) [11])))
def S_compare_Least : Fun := ⟨35, [4, 0, 1, 11, 10, 12, 9, 8, 2, 6, 5, 29], [.tmp 4],
  .seq (.reg (straight [⟨some 2, none, .eff (.box 131) [.tmp 0]⟩, ⟨some 4, none, .pur .mov [.const (.int .i64 0)]⟩]) [2, 4])
  (.seq (.reg (straight [⟨some 5, none, .pur .mov [.const (.int .i64 (-1))]⟩, ⟨some 6, none, .pur .mov [.const (.bool false)]⟩]) [5, 6])
  (.seq (.seq (.reg (straight [⟨some 9, none, .pur .mov [.tmp 1]⟩, ⟨some 10, none, .pur (.len false) [.tmp 9]⟩, ⟨some 11, none, .pur .mov [.const (.int .i64 0)]⟩]) [9, 10, 11])
  (.block 0 (.loop S_compare_Least_L1)))
  (.seq (.reg (straight [⟨some 34, none, .pur .mov [.tmp 5]⟩, ⟨some 4, none, .pur .mov [.tmp 34]⟩]) [4])
  (.ret))))⟩
theorem K_compare_Least : compF Try.prog 85 = some S_compare_Least := by kernel_rfl

-- 92
def S_grid_held : Fun := ⟨6, [2, 0], [.tmp 2],
  .seq (.reg (straight [⟨some 2, none, .pur .mov [.const (.int .i64 0)]⟩]) [2])
  (.seq (.reg (straight [⟨some 3, none, .pur .mov [.tmp 0]⟩, ⟨some 4, none, .pur (.minmax true) [.tmp 3, .const (.int .i64 0)]⟩, ⟨some 5, none, .pur (.minmax false) [.tmp 4, .const (.int .i64 1048576)]⟩, ⟨some 2, none, .pur .mov [.tmp 5]⟩]) [2])
  (.ret))⟩
theorem K_grid_held : compF Try.prog 92 = some S_grid_held := by kernel_rfl

-- 112
def S_compare_same : Fun := ⟨15, [4, 0, 1, 6], [.tmp 4],
  .seq (.reg (straight [⟨some 4, none, .pur .mov [.const (.bool false)]⟩]) [4])
  (.seq (.reg (straight [⟨some 8, none, .pur .mov [.tmp 0]⟩, ⟨some 9, none, .pur .mov [.tmp 1]⟩, ⟨some 10, none, .eff (.call 126) [.tmp 8, .tmp 9]⟩, ⟨some 7, none, .pur .mov [.tmp 10]⟩, ⟨some 11, none, .pur (.ext 0) [.tmp 7]⟩, ⟨some 12, none, .pur (.ext 1) [.tmp 7]⟩, ⟨some 5, none, .pur .mov [.tmp 11]⟩, ⟨some 6, none, .pur .mov [.tmp 12]⟩]) [6])
  (.seq (.reg (straight [⟨some 13, none, .pur .mov [.tmp 6]⟩, ⟨some 14, none, .pur .not [.tmp 13]⟩, ⟨some 4, none, .pur .mov [.tmp 14]⟩]) [4])
  (.ret)))⟩
theorem K_compare_same : compF Try.prog 112 = some S_compare_same := by kernel_rfl

-- 114
def S_span_plan_ready_L1 : SCode :=
  .seq (.reg (straight [⟨some 26, none, .pur (.bin .lss) [.tmp 25, .tmp 24]⟩]) [26])
  (.seq (.cond (.tmp 26) (.skip) (.exit 0))
  (.seq (.block 1 (.seq (.reg (straight [⟨some 27, none, .pur (.ixa 1) [.tmp 23, .tmp 25]⟩, ⟨some 28, none, .ld none (.tmp 27)⟩, ⟨some 8, none, .pur .mov [.tmp 28]⟩]) [8])
  (.seq (.reg (straight [⟨some 29, none, .pur .mov [.tmp 0]⟩, ⟨some 30, none, .pur .nilc [.tmp 29]⟩, ⟨some 31, none, .pur (.fla 1) [.tmp 30]⟩, ⟨some 32, none, .ld none (.tmp 31)⟩, ⟨some 33, none, .pur .mov [.tmp 8]⟩, ⟨some 34, none, .pur (.ixa 1) [.tmp 32, .tmp 33]⟩, ⟨some 35, none, .ld none (.tmp 34)⟩, ⟨some 36, none, .pur (.bin .eql) [.tmp 35, .const (.int .i64 0)]⟩, ⟨some 37, none, .pur .mov [.tmp 36]⟩, ⟨some 38, some (37, false), .pur .mov [.tmp 0]⟩, ⟨some 39, some (37, false), .pur .nilc [.tmp 38]⟩, ⟨some 40, some (37, false), .pur (.fla 1) [.tmp 39]⟩, ⟨some 41, some (37, false), .ld none (.tmp 40)⟩, ⟨some 42, some (37, false), .pur .mov [.tmp 8]⟩, ⟨some 43, some (37, false), .pur (.ixa 1) [.tmp 41, .tmp 42]⟩, ⟨some 44, some (37, false), .ld none (.tmp 43)⟩, ⟨some 45, some (37, false), .pur .mov [.tmp 2]⟩, ⟨some 46, some (37, false), .pur (.bin .gtr) [.tmp 44, .tmp 45]⟩, ⟨some 47, none, .pur .pick [.tmp 37, .const (.bool true), .tmp 46]⟩]) [47])
  (.cond (.tmp 47) (.seq (.reg (straight [⟨some 6, none, .pur .mov [.const (.bool false)]⟩]) [6])
  (.ret)) (.skip)))))
  (.reg (straight [⟨some 48, none, .pur (.bin .add) [.tmp 25, .const (.int .i64 1)]⟩, ⟨some 25, none, .pur .mov [.tmp 48]⟩]) [25])))
def S_span_plan_ready : Fun := ⟨49, [6, 0, 1, 16, 25, 24, 26, 23, 8, 2, 47], [.tmp 6],
  .seq (.reg (straight [⟨some 6, none, .pur .mov [.const (.bool false)]⟩]) [6])
  (.seq (.seq (.reg (straight [⟨some 9, none, .pur .mov [.tmp 0]⟩, ⟨some 10, none, .pur .nilc [.tmp 9]⟩, ⟨some 11, none, .pur (.fla 1) [.tmp 10]⟩, ⟨some 12, none, .ld none (.tmp 11)⟩, ⟨some 13, none, .pur .mov [.tmp 1]⟩, ⟨some 14, none, .pur (.ixa 1) [.tmp 12, .tmp 13]⟩, ⟨some 15, none, .ld none (.tmp 14)⟩, ⟨some 16, none, .pur (.bin .gtr) [.tmp 15, .const (.int .i64 0)]⟩]) [16])
  (.cond (.tmp 16) (.seq (.reg (straight [⟨some 6, none, .pur .mov [.const (.bool false)]⟩]) [6])
  (.ret)) (.skip)))
  (.seq (.seq (.reg (straight [⟨some 17, none, .pur .mov [.tmp 0]⟩, ⟨some 18, none, .pur .nilc [.tmp 17]⟩, ⟨some 19, none, .pur (.fla 0) [.tmp 18]⟩, ⟨some 20, none, .ld none (.tmp 19)⟩, ⟨some 21, none, .pur .mov [.tmp 1]⟩, ⟨some 22, none, .pur (.ixa 1) [.tmp 20, .tmp 21]⟩, ⟨some 23, none, .ld none (.tmp 22)⟩, ⟨some 24, none, .pur (.len false) [.tmp 23]⟩, ⟨some 25, none, .pur .mov [.const (.int .i64 0)]⟩]) [23, 24, 25])
  (.block 0 (.loop S_span_plan_ready_L1)))
  (.seq (.reg (straight [⟨some 6, none, .pur .mov [.const (.bool true)]⟩]) [6])
  (.ret))))⟩
theorem K_span_plan_ready : compF Try.prog 114 = some S_span_plan_ready := by kernel_rfl

-- 115
def S_strand_builder_pop : Fun := ⟨21, [2, 0, 3], [.tmp 2],
  .seq (.reg (straight [⟨some 2, none, .pur .mov [.const (.pointer none)]⟩]) [2])
  (.seq (.reg (straight [⟨some 4, none, .pur .mov [.tmp 0]⟩, ⟨some 5, none, .eff (.call 103) [.tmp 4]⟩, ⟨some 3, none, .pur .mov [.tmp 5]⟩]) [3])
  (.seq (.reg (.run ⟨some 6, none, .pur .mov [.tmp 0]⟩ (.run ⟨some 7, none, .pur .mov [.tmp 0]⟩ (.run ⟨some 8, none, .pur .nilc [.tmp 7]⟩ (.run ⟨some 9, none, .pur (.fla 3) [.tmp 8]⟩ (.run ⟨some 10, none, .ld none (.tmp 9)⟩ (.run ⟨some 11, none, .pur .mov [.tmp 0]⟩ (.run ⟨some 12, none, .pur .nilc [.tmp 11]⟩ (.run ⟨some 13, none, .pur (.fla 3) [.tmp 12]⟩ (.run ⟨some 14, none, .ld none (.tmp 13)⟩ (.run ⟨some 15, none, .pur (.len false) [.tmp 14]⟩ (.run ⟨some 16, none, .pur (.bin .sub) [.tmp 15, .const (.int .i64 1)]⟩ (.run ⟨some 17, none, .pur (.slc 1 false true) [.tmp 10, .tmp 16]⟩ (.run ⟨some 18, none, .pur .nilc [.tmp 6]⟩ (.run ⟨some 19, none, .pur (.fla 3) [.tmp 18]⟩ (.eff ⟨none, none, .eff (.st 1) [.tmp 19, .tmp 17]⟩ [] .done))))))))))))))) [])
  (.seq (.reg (straight [⟨some 20, none, .pur .mov [.tmp 3]⟩, ⟨some 2, none, .pur .mov [.tmp 20]⟩]) [2])
  (.ret))))⟩
theorem K_strand_builder_pop : compF Try.prog 115 = some S_strand_builder_pop := by kernel_rfl

-- 123
def S_forebayref30_at_L1 : SCode :=
  .seq (.seq (.reg (straight [⟨some 7, none, .pur .mov [.tmp 6]⟩, ⟨some 8, none, .pur .mov [.tmp 0]⟩, ⟨some 9, none, .pur (.len false) [.tmp 8]⟩, ⟨some 10, none, .pur (.bin .lss) [.tmp 7, .tmp 9]⟩]) [10])
  (.cond (.tmp 10) (.skip) (.exit 0)))
  (.seq (.block 1 (.seq (.reg (straight [⟨some 13, none, .pur .mov [.tmp 0]⟩, ⟨some 14, none, .pur .mov [.tmp 6]⟩, ⟨some 15, none, .pur (.ixa 2) [.tmp 13, .tmp 14]⟩, ⟨some 16, none, .pur (.fla 0) [.tmp 15]⟩, ⟨some 17, none, .ld none (.tmp 16)⟩, ⟨some 18, none, .pur .mov [.tmp 1]⟩, ⟨some 19, none, .pur (.bin .leq) [.tmp 17, .tmp 18]⟩]) [19])
  (.cond (.tmp 19) (.reg (straight [⟨some 20, none, .pur .mov [.tmp 0]⟩, ⟨some 21, none, .pur .mov [.tmp 6]⟩, ⟨some 22, none, .pur (.ixa 2) [.tmp 20, .tmp 21]⟩, ⟨some 23, none, .pur (.fla 1) [.tmp 22]⟩, ⟨some 24, none, .ld none (.tmp 23)⟩, ⟨some 5, none, .pur .mov [.tmp 24]⟩]) [5]) (.skip))))
  (.reg (straight [⟨some 11, none, .pur .mov [.tmp 6]⟩, ⟨some 12, none, .pur (.bin .add) [.tmp 11, .const (.int .i64 1)]⟩, ⟨some 6, none, .pur .mov [.tmp 12]⟩]) [6]))
def S_forebayref30_at : Fun := ⟨26, [4, 6, 0, 10, 1, 19, 5], [.tmp 4],
  .seq (.reg (straight [⟨some 4, none, .pur .mov [.const (.int .i64 0)]⟩]) [4])
  (.seq (.reg (straight [⟨some 5, none, .pur .mov [.const (.int .i64 0)]⟩]) [5])
  (.seq (.seq (.reg (straight [⟨some 6, none, .pur .mov [.const (.int .i64 0)]⟩]) [6])
  (.block 0 (.loop S_forebayref30_at_L1)))
  (.seq (.reg (straight [⟨some 25, none, .pur .mov [.tmp 5]⟩, ⟨some 4, none, .pur .mov [.tmp 25]⟩]) [4])
  (.ret))))⟩
theorem K_forebayref30_at : compF Try.prog 123 = some S_forebayref30_at := by kernel_rfl

-- 124
def S_forebayref30_Dag_wrong : Fun := ⟨8, [0], [],
  .seq (.reg (straight [⟨some 2, none, .pur .mov [.tmp 0]⟩, ⟨some 3, none, .pur .nilc [.tmp 2]⟩, ⟨some 4, none, .pur (.fla 6) [.tmp 3]⟩, ⟨none, none, .eff (.st 1) [.tmp 4, .const (.int .i64 4)]⟩]) [])
  (.reg (straight [⟨some 5, none, .pur .mov [.tmp 0]⟩, ⟨some 6, none, .pur .nilc [.tmp 5]⟩, ⟨some 7, none, .pur (.fla 5) [.tmp 6]⟩, ⟨none, none, .eff (.st 1) [.tmp 7, .const (.bool true)]⟩]) [])⟩
theorem K_forebayref30_Dag_wrong : compF Try.prog 124 = some S_forebayref30_Dag_wrong := by kernel_rfl

end Go.Proofs.Ytilofhocodbknaa
