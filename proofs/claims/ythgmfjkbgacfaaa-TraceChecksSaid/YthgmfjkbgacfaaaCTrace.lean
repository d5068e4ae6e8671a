import Derived.Test.YthgmfjkbgacfaaaKj
import Derived.Test.YthgmfjkbgacfaaaProg
import Derived.KernelRfl
namespace Go.Proofs.Ythgmfjkbgacfaaa
open Go Go.Kx Go.Proofs
set_option linter.unusedVariables false
set_option maxRecDepth 100000

-- 4
def S_forebaylaw34_TraceChecks_L2 : SCode :=
  .seq (.seq (.reg (straight [⟨some 95, none, .pur .mov [.tmp 14]⟩, ⟨some 96, none, .pur .mov [.tmp 9]⟩, ⟨some 97, none, .pur .mov [.tmp 13]⟩, ⟨some 98, none, .pur (.ixa 1) [.tmp 96, .tmp 97]⟩, ⟨some 99, none, .ld none (.tmp 98)⟩, ⟨some 100, none, .pur (.len false) [.tmp 99]⟩, ⟨some 101, none, .pur (.bin .lss) [.tmp 95, .tmp 100]⟩]) [101])
  (.cond (.tmp 101) (.skip) (.exit 2)))
  (.seq (.block 3 (.seq (.reg (straight [⟨some 104, none, .pur .mov [.tmp 9]⟩, ⟨some 105, none, .pur .mov [.tmp 13]⟩, ⟨some 106, none, .pur (.ixa 1) [.tmp 104, .tmp 105]⟩, ⟨some 107, none, .ld none (.tmp 106)⟩, ⟨some 108, none, .pur .mov [.tmp 14]⟩, ⟨some 109, none, .pur (.ixa 2) [.tmp 107, .tmp 108]⟩, ⟨some 110, none, .ld (some 2) (.tmp 109)⟩, ⟨some 111, none, .pur .mov [.tmp 10]⟩, ⟨some 112, none, .pur .mov [.tmp 13]⟩, ⟨some 113, none, .pur (.ixa 1) [.tmp 111, .tmp 112]⟩, ⟨some 114, none, .ld none (.tmp 113)⟩, ⟨some 115, none, .pur .mov [.tmp 14]⟩, ⟨some 116, none, .pur (.ixa 2) [.tmp 114, .tmp 115]⟩, ⟨some 117, none, .ld (some 2) (.tmp 116)⟩, ⟨some 118, none, .pur (.eqs true [.int .i64, .bool]) [.tmp 110, .tmp 117]⟩]) [118])
  (.cond (.tmp 118) (.seq (.reg (straight [⟨some 4, none, .pur .mov [.const (.bool false)]⟩]) [4])
  (.ret)) (.skip))))
  (.reg (straight [⟨some 102, none, .pur .mov [.tmp 14]⟩, ⟨some 103, none, .pur (.bin .add) [.tmp 102, .const (.int .i64 1)]⟩, ⟨some 14, none, .pur .mov [.tmp 103]⟩]) [14]))
def S_forebaylaw34_TraceChecks_L1 : SCode :=
  .seq (.seq (.reg (straight [⟨some 78, none, .pur .mov [.tmp 13]⟩, ⟨some 79, none, .pur .mov [.tmp 9]⟩, ⟨some 80, none, .pur (.len false) [.tmp 79]⟩, ⟨some 81, none, .pur (.bin .lss) [.tmp 78, .tmp 80]⟩]) [81])
  (.cond (.tmp 81) (.skip) (.exit 0)))
  (.seq (.block 1 (.seq (.seq (.reg (straight [⟨some 84, none, .pur .mov [.tmp 9]⟩, ⟨some 85, none, .pur .mov [.tmp 13]⟩, ⟨some 86, none, .pur (.ixa 1) [.tmp 84, .tmp 85]⟩, ⟨some 87, none, .ld none (.tmp 86)⟩, ⟨some 88, none, .pur (.len false) [.tmp 87]⟩, ⟨some 89, none, .pur .mov [.tmp 10]⟩, ⟨some 90, none, .pur .mov [.tmp 13]⟩, ⟨some 91, none, .pur (.ixa 1) [.tmp 89, .tmp 90]⟩, ⟨some 92, none, .ld none (.tmp 91)⟩, ⟨some 93, none, .pur (.len false) [.tmp 92]⟩, ⟨some 94, none, .pur (.bin .neq) [.tmp 88, .tmp 93]⟩]) [94])
  (.cond (.tmp 94) (.seq (.reg (straight [⟨some 4, none, .pur .mov [.const (.bool false)]⟩]) [4])
  (.ret)) (.skip)))
  (.seq (.reg (straight [⟨some 14, none, .pur .mov [.const (.int .i64 0)]⟩]) [14])
  (.block 2 (.loop S_forebaylaw34_TraceChecks_L2)))))
  (.reg (straight [⟨some 82, none, .pur .mov [.tmp 13]⟩, ⟨some 83, none, .pur (.bin .add) [.tmp 82, .const (.int .i64 1)]⟩, ⟨some 13, none, .pur .mov [.tmp 83]⟩]) [13]))
def S_forebaylaw34_TraceChecks_L3 : SCode :=
  .seq (.seq (.reg (straight [⟨some 119, none, .pur .mov [.tmp 15]⟩, ⟨some 120, none, .pur .mov [.tmp 11]⟩, ⟨some 121, none, .pur (.len false) [.tmp 120]⟩, ⟨some 122, none, .pur (.bin .lss) [.tmp 119, .tmp 121]⟩]) [122])
  (.cond (.tmp 122) (.skip) (.exit 4)))
  (.seq (.block 5 (.seq (.reg (.run ⟨some 125, none, .pur .mov [.tmp 11]⟩ (.run ⟨some 126, none, .pur .mov [.tmp 15]⟩ (.run ⟨some 127, none, .pur (.ixa 1) [.tmp 125, .tmp 126]⟩ (.run ⟨some 128, none, .ld none (.tmp 127)⟩ (.run ⟨some 129, none, .pur .mov [.tmp 12]⟩ (.run ⟨some 130, none, .pur .mov [.tmp 15]⟩ (.run ⟨some 131, none, .pur (.ixa 2) [.tmp 129, .tmp 130]⟩ (.run ⟨some 132, none, .pur (.ixaA 2 1) [.tmp 131, .const (.int .i64 0)]⟩ (.run ⟨some 133, none, .ld none (.tmp 132)⟩ (.run ⟨some 134, none, .pur .mov [.tmp 12]⟩ (.run ⟨some 135, none, .pur .mov [.tmp 15]⟩ (.run ⟨some 136, none, .pur (.ixa 2) [.tmp 134, .tmp 135]⟩ (.run ⟨some 137, none, .pur (.ixaA 2 1) [.tmp 136, .const (.int .i64 1)]⟩ (.run ⟨some 138, none, .ld none (.tmp 137)⟩ (.eff ⟨some 139, none, .eff (.call 24) [.tmp 133, .tmp 138]⟩ [⟨some 128, none, .ld none (.tmp 127)⟩] (.run ⟨some 140, none, .pur (.bin .neq) [.tmp 128, .tmp 139]⟩ .done)))))))))))))))) [140])
  (.cond (.tmp 140) (.seq (.reg (straight [⟨some 4, none, .pur .mov [.const (.bool false)]⟩]) [4])
  (.ret)) (.skip))))
  (.reg (straight [⟨some 123, none, .pur .mov [.tmp 15]⟩, ⟨some 124, none, .pur (.bin .add) [.tmp 123, .const (.int .i64 1)]⟩, ⟨some 15, none, .pur .mov [.tmp 124]⟩]) [15]))
def S_forebaylaw34_TraceChecks : Fun := ⟨141, [4, 17, 0, 20, 1, 5, 7, 6, 8, 9, 10, 11, 12, 77, 13, 81, 94, 14, 101, 118, 15, 122, 140], [.tmp 4],
  .seq (.reg (straight [⟨some 4, none, .pur .mov [.const (.bool false)]⟩]) [4])
  (.seq (.seq (.reg (straight [⟨some 16, none, .eff (.call 14) []⟩, ⟨some 17, none, .pur .not [.tmp 16]⟩]) [17])
  (.cond (.tmp 17) (.seq (.reg (straight [⟨some 4, none, .pur .mov [.const (.bool false)]⟩]) [4])
  (.ret)) (.skip)))
  (.seq (.seq (.reg (straight [⟨some 18, none, .pur .mov [.tmp 0]⟩, ⟨some 19, none, .pur (.len false) [.tmp 18]⟩, ⟨some 20, none, .pur (.bin .gtr) [.tmp 19, .const (.int .i64 150)]⟩]) [20])
  (.cond (.tmp 20) (.seq (.reg (straight [⟨some 4, none, .pur .mov [.const (.bool true)]⟩]) [4])
  (.ret)) (.skip)))
  (.seq (.reg (straight [⟨some 22, none, .pur .mov [.tmp 0]⟩, ⟨some 23, none, .eff (.call 16) [.tmp 22]⟩, ⟨some 24, none, .eff (.call 15) [.tmp 23]⟩, ⟨some 21, none, .pur .mov [.tmp 24]⟩, ⟨some 25, none, .pur (.ext 0) [.tmp 21]⟩, ⟨some 26, none, .pur (.ext 1) [.tmp 21]⟩, ⟨some 5, none, .pur .mov [.tmp 25]⟩, ⟨some 6, none, .pur .mov [.tmp 26]⟩]) [5, 6])
  (.seq (.reg (straight [⟨some 28, none, .pur .mov [.tmp 0]⟩, ⟨some 29, none, .eff (.call 17) [.tmp 28]⟩, ⟨some 27, none, .pur .mov [.tmp 29]⟩, ⟨some 30, none, .pur (.ext 0) [.tmp 27]⟩, ⟨some 31, none, .pur (.ext 1) [.tmp 27]⟩, ⟨some 7, none, .pur .mov [.tmp 30]⟩, ⟨some 8, none, .pur .mov [.tmp 31]⟩]) [7, 8])
  (.seq (.reg (straight [⟨some 32, none, .pur .mov [.tmp 0]⟩, ⟨some 33, none, .eff (.call 16) [.tmp 32]⟩, ⟨some 34, none, .pur .mov [.tmp 1]⟩, ⟨some 35, none, .eff (.call 18) [.tmp 33, .tmp 34]⟩, ⟨some 36, none, .pur .mov [.tmp 0]⟩, ⟨some 37, none, .pur .mov [.tmp 1]⟩, ⟨some 38, none, .eff (.call 19) [.tmp 36, .tmp 37]⟩, ⟨some 9, none, .pur .mov [.tmp 35]⟩, ⟨some 10, none, .pur .mov [.tmp 38]⟩]) [9, 10])
  (.seq (.reg (straight [⟨some 39, none, .pur .mov [.tmp 0]⟩, ⟨some 40, none, .eff (.call 16) [.tmp 39]⟩, ⟨some 41, none, .pur .mov [.tmp 1]⟩, ⟨some 42, none, .eff (.call 20) [.tmp 40, .tmp 41]⟩, ⟨some 43, none, .pur .mov [.tmp 0]⟩, ⟨some 44, none, .pur .mov [.tmp 1]⟩, ⟨some 45, none, .eff (.call 21) [.tmp 43, .tmp 44]⟩, ⟨some 11, none, .pur .mov [.tmp 42]⟩, ⟨some 12, none, .pur .mov [.tmp 45]⟩]) [11, 12])
  (.seq (.seq (.reg (straight [⟨some 46, none, .pur .mov [.tmp 5]⟩, ⟨some 47, none, .pur .mov [.tmp 7]⟩, ⟨some 48, none, .pur (.bin .neq) [.tmp 46, .tmp 47]⟩, ⟨some 49, none, .pur .mov [.tmp 48]⟩, ⟨some 50, some (49, false), .pur .mov [.tmp 6]⟩, ⟨some 51, some (49, false), .pur .mov [.tmp 8]⟩, ⟨some 52, some (49, false), .pur (.bin .neq) [.tmp 50, .tmp 51]⟩, ⟨some 53, none, .pur .pick [.tmp 49, .const (.bool true), .tmp 52]⟩, ⟨some 54, none, .pur .mov [.tmp 53]⟩, ⟨some 55, some (54, false), .pur .mov [.tmp 9]⟩, ⟨some 56, some (54, false), .pur (.len false) [.tmp 55]⟩, ⟨some 57, some (54, false), .pur .mov [.tmp 10]⟩, ⟨some 58, some (54, false), .pur (.len false) [.tmp 57]⟩, ⟨some 59, some (54, false), .pur (.bin .neq) [.tmp 56, .tmp 58]⟩, ⟨some 60, none, .pur .pick [.tmp 54, .const (.bool true), .tmp 59]⟩, ⟨some 61, none, .pur .mov [.tmp 60]⟩, ⟨some 62, some (61, false), .pur .mov [.tmp 11]⟩, ⟨some 63, some (61, false), .pur (.len false) [.tmp 62]⟩, ⟨some 64, some (61, false), .pur .mov [.tmp 12]⟩, ⟨some 65, some (61, false), .pur (.len false) [.tmp 64]⟩, ⟨some 66, some (61, false), .pur (.bin .neq) [.tmp 63, .tmp 65]⟩, ⟨some 67, none, .pur .pick [.tmp 61, .const (.bool true), .tmp 66]⟩, ⟨some 68, none, .pur .mov [.tmp 67]⟩, ⟨some 69, some (68, false), .pur .mov [.tmp 0]⟩, ⟨some 70, some (68, false), .eff (.call 16) [.tmp 69]⟩, ⟨some 71, some (68, false), .pur .mov [.tmp 1]⟩, ⟨some 72, some (68, false), .eff (.call 22) [.tmp 70, .tmp 71]⟩, ⟨some 73, some (68, false), .pur .mov [.tmp 0]⟩, ⟨some 74, some (68, false), .pur .mov [.tmp 1]⟩, ⟨some 75, some (68, false), .eff (.call 23) [.tmp 73, .tmp 74]⟩, ⟨some 76, some (68, false), .pur (.eqb true) [.tmp 72, .tmp 75]⟩, ⟨some 77, none, .pur .pick [.tmp 68, .const (.bool true), .tmp 76]⟩]) [77])
  (.cond (.tmp 77) (.seq (.reg (straight [⟨some 4, none, .pur .mov [.const (.bool false)]⟩]) [4])
  (.ret)) (.skip)))
  (.seq (.seq (.reg (straight [⟨some 13, none, .pur .mov [.const (.int .i64 0)]⟩]) [13])
  (.block 0 (.loop S_forebaylaw34_TraceChecks_L1)))
  (.seq (.seq (.reg (straight [⟨some 15, none, .pur .mov [.const (.int .i64 0)]⟩]) [15])
  (.block 4 (.loop S_forebaylaw34_TraceChecks_L3)))
  (.seq (.reg (straight [⟨some 4, none, .pur .mov [.const (.bool true)]⟩]) [4])
  (.ret)))))))))))⟩
theorem K_forebaylaw34_TraceChecks : compF Try.prog 4 = some S_forebaylaw34_TraceChecks := by kernel_rfl

-- 5
def S_forebaylaw34_TraceCuts_L1 : SCode :=
  .seq (.seq (.reg (straight [⟨some 59, none, .pur .mov [.tmp 13]⟩, ⟨some 60, none, .pur .mov [.tmp 0]⟩, ⟨some 61, none, .pur (.len false) [.tmp 60]⟩, ⟨some 62, none, .pur (.bin .lss) [.tmp 59, .tmp 61]⟩]) [62])
  (.cond (.tmp 62) (.skip) (.exit 0)))
  (.seq (.block 1 (.seq (.seq (.reg (straight [⟨some 65, none, .pur .mov [.tmp 0]⟩, ⟨some 66, none, .pur .mov [.tmp 13]⟩, ⟨some 67, none, .pur (.ixa 4) [.tmp 65, .tmp 66]⟩, ⟨some 68, none, .pur (.fla 1) [.tmp 67]⟩, ⟨some 69, none, .ld none (.tmp 68)⟩, ⟨some 70, none, .pur (.bin .gtr) [.tmp 69, .const (.int .i64 1099511627776)]⟩]) [70])
  (.cond (.tmp 70) (.seq (.reg (straight [⟨some 6, none, .pur .mov [.const (.bool true)]⟩]) [6])
  (.ret)) (.skip)))
  (.reg (straight [⟨some 71, none, .pur .mov [.tmp 12]⟩, ⟨some 72, none, .pur .mov [.tmp 0]⟩, ⟨some 73, none, .pur .mov [.tmp 13]⟩, ⟨some 74, none, .pur (.ixa 4) [.tmp 72, .tmp 73]⟩, ⟨some 75, none, .pur (.fla 1) [.tmp 74]⟩, ⟨some 76, none, .ld none (.tmp 75)⟩, ⟨some 77, none, .pur (.minmax true) [.tmp 71, .tmp 76]⟩, ⟨some 12, none, .pur .mov [.tmp 77]⟩]) [12])))
  (.reg (straight [⟨some 63, none, .pur .mov [.tmp 13]⟩, ⟨some 64, none, .pur (.bin .add) [.tmp 63, .const (.int .i64 1)]⟩, ⟨some 13, none, .pur .mov [.tmp 64]⟩]) [13]))
def S_forebaylaw34_TraceCuts_L2 : SCode :=
  .seq (.seq (.reg (straight [⟨some 80, none, .pur .mov [.tmp 15]⟩, ⟨some 81, none, .pur .mov [.tmp 14]⟩, ⟨some 82, none, .pur (.len false) [.tmp 81]⟩, ⟨some 83, none, .pur (.bin .lss) [.tmp 80, .tmp 82]⟩]) [83])
  (.cond (.tmp 83) (.skip) (.exit 2)))
  (.seq (.block 3 (.reg (straight [⟨some 86, none, .pur .mov [.tmp 14]⟩, ⟨some 87, none, .pur .mov [.tmp 15]⟩, ⟨some 88, none, .pur .mov [.tmp 12]⟩, ⟨some 89, none, .pur (.bin .add) [.tmp 88, .const (.int .i64 1)]⟩, ⟨some 90, none, .pur (.ixa 4) [.tmp 86, .tmp 87]⟩, ⟨some 91, none, .pur (.fla 1) [.tmp 90]⟩, ⟨none, none, .eff (.st 1) [.tmp 91, .tmp 89]⟩]) []))
  (.reg (straight [⟨some 84, none, .pur .mov [.tmp 15]⟩, ⟨some 85, none, .pur (.bin .add) [.tmp 84, .const (.int .i64 1)]⟩, ⟨some 15, none, .pur .mov [.tmp 85]⟩]) [15]))
def S_forebaylaw34_TraceCuts_L3 : SCode :=
  .seq (.seq (.reg (straight [⟨some 100, none, .pur .mov [.tmp 19]⟩, ⟨some 101, none, .pur .mov [.tmp 0]⟩, ⟨some 102, none, .pur (.len false) [.tmp 101]⟩, ⟨some 103, none, .pur (.bin .lss) [.tmp 100, .tmp 102]⟩, ⟨some 104, none, .pur .mov [.tmp 103]⟩, ⟨some 105, some (104, false), .pur .mov [.tmp 19]⟩, ⟨some 106, some (104, false), .pur .mov [.tmp 14]⟩, ⟨some 107, some (104, false), .pur (.len false) [.tmp 106]⟩, ⟨some 108, some (104, false), .pur (.bin .lss) [.tmp 105, .tmp 107]⟩, ⟨some 109, none, .pur .pick [.tmp 104, .const (.bool true), .tmp 108]⟩]) [109])
  (.cond (.tmp 109) (.skip) (.exit 4)))
  (.seq (.block 5 (.seq (.seq (.reg (straight [⟨some 112, none, .pur .mov [.tmp 19]⟩, ⟨some 113, none, .pur .mov [.tmp 0]⟩, ⟨some 114, none, .pur (.len false) [.tmp 113]⟩, ⟨some 115, none, .pur (.bin .lss) [.tmp 112, .tmp 114]⟩]) [115])
  (.cond (.tmp 115) (.reg (straight [⟨some 116, none, .pur .mov [.tmp 18]⟩, ⟨some 117, none, .pur .mov [.tmp 0]⟩, ⟨some 118, none, .pur .mov [.tmp 19]⟩, ⟨some 119, none, .pur (.ixa 4) [.tmp 117, .tmp 118]⟩, ⟨some 120, none, .ld (some 4) (.tmp 119)⟩, ⟨some 121, none, .eff (.bsl 28 4) [.tmp 120]⟩, ⟨some 122, none, .eff (.app 28 4 32 [.int .i64 0, .int .i64 0, .int .i64 0, .int .i64 0]) [.tmp 116, .tmp 121]⟩, ⟨some 18, none, .pur .mov [.tmp 122]⟩]) [18]) (.skip)))
  (.seq (.reg (straight [⟨some 123, none, .pur .mov [.tmp 19]⟩, ⟨some 124, none, .pur .mov [.tmp 14]⟩, ⟨some 125, none, .pur (.len false) [.tmp 124]⟩, ⟨some 126, none, .pur (.bin .lss) [.tmp 123, .tmp 125]⟩]) [126])
  (.cond (.tmp 126) (.reg (straight [⟨some 127, none, .pur .mov [.tmp 18]⟩, ⟨some 128, none, .pur .mov [.tmp 14]⟩, ⟨some 129, none, .pur .mov [.tmp 19]⟩, ⟨some 130, none, .pur (.ixa 4) [.tmp 128, .tmp 129]⟩, ⟨some 131, none, .ld (some 4) (.tmp 130)⟩, ⟨some 132, none, .eff (.bsl 28 4) [.tmp 131]⟩, ⟨some 133, none, .eff (.app 28 4 32 [.int .i64 0, .int .i64 0, .int .i64 0, .int .i64 0]) [.tmp 127, .tmp 132]⟩, ⟨some 18, none, .pur .mov [.tmp 133]⟩]) [18]) (.skip)))))
  (.reg (straight [⟨some 110, none, .pur .mov [.tmp 19]⟩, ⟨some 111, none, .pur (.bin .add) [.tmp 110, .const (.int .i64 1)]⟩, ⟨some 19, none, .pur .mov [.tmp 111]⟩]) [19]))
def S_forebaylaw34_TraceCuts : Fun := ⟨142, [6, 23, 0, 2, 31, 1, 8, 47, 7, 9, 11, 58, 13, 62, 70, 12, 15, 14, 83, 17, 99, 19, 109, 115, 18, 126, 21], [.tmp 6],
  .seq (.reg (straight [⟨some 6, none, .pur .mov [.const (.bool false)]⟩]) [6])
  (.seq (.seq (.reg (straight [⟨some 22, none, .eff (.call 14) []⟩, ⟨some 23, none, .pur .not [.tmp 22]⟩]) [23])
  (.cond (.tmp 23) (.seq (.reg (straight [⟨some 6, none, .pur .mov [.const (.bool false)]⟩]) [6])
  (.ret)) (.skip)))
  (.seq (.seq (.reg (straight [⟨some 24, none, .pur .mov [.tmp 0]⟩, ⟨some 25, none, .pur (.len false) [.tmp 24]⟩, ⟨some 26, none, .pur (.bin .gtr) [.tmp 25, .const (.int .i64 300)]⟩, ⟨some 27, none, .pur .mov [.tmp 26]⟩, ⟨some 28, some (27, false), .pur .mov [.tmp 2]⟩, ⟨some 29, some (27, false), .pur (.len false) [.tmp 28]⟩, ⟨some 30, some (27, false), .pur (.bin .gtr) [.tmp 29, .const (.int .i64 100)]⟩, ⟨some 31, none, .pur .pick [.tmp 27, .const (.bool true), .tmp 30]⟩]) [31])
  (.cond (.tmp 31) (.seq (.reg (straight [⟨some 6, none, .pur .mov [.const (.bool true)]⟩]) [6])
  (.ret)) (.skip)))
  (.seq (.reg (straight [⟨some 33, none, .pur .mov [.tmp 0]⟩, ⟨some 34, none, .eff (.call 16) [.tmp 33]⟩, ⟨some 35, none, .eff (.call 15) [.tmp 34]⟩, ⟨some 32, none, .pur .mov [.tmp 35]⟩, ⟨some 36, none, .pur (.ext 0) [.tmp 32]⟩, ⟨some 37, none, .pur (.ext 1) [.tmp 32]⟩, ⟨some 7, none, .pur .mov [.tmp 36]⟩, ⟨some 8, none, .pur .mov [.tmp 37]⟩]) [7, 8])
  (.seq (.reg (straight [⟨some 38, none, .pur .mov [.tmp 1]⟩, ⟨some 39, none, .pur (.toInt .u64) [.tmp 38]⟩, ⟨some 40, none, .pur .mov [.tmp 0]⟩, ⟨some 41, none, .pur (.len false) [.tmp 40]⟩, ⟨some 42, none, .pur (.bin .add) [.tmp 41, .const (.int .i64 1)]⟩, ⟨some 43, none, .pur (.toInt .u64) [.tmp 42]⟩, ⟨some 44, none, .pur (.bin .rem) [.tmp 39, .tmp 43]⟩, ⟨some 45, none, .pur (.toInt .i64) [.tmp 44]⟩, ⟨some 9, none, .pur .mov [.tmp 45]⟩]) [9])
  (.seq (.seq (.reg (straight [⟨some 46, none, .pur .mov [.tmp 8]⟩, ⟨some 47, none, .pur (.bin .neq) [.tmp 46, .const (.int .i64 0)]⟩]) [47])
  (.cond (.tmp 47) (.reg (straight [⟨some 48, none, .pur .mov [.tmp 7]⟩, ⟨some 9, none, .pur .mov [.tmp 48]⟩]) [9]) (.skip)))
  (.seq (.reg (straight [⟨some 50, none, .pur .mov [.tmp 0]⟩, ⟨some 51, none, .pur .mov [.tmp 9]⟩, ⟨some 52, none, .pur (.slc 4 false true) [.tmp 50, .tmp 51]⟩, ⟨some 53, none, .eff (.call 16) [.tmp 52]⟩, ⟨some 54, none, .eff (.call 15) [.tmp 53]⟩, ⟨some 49, none, .pur .mov [.tmp 54]⟩, ⟨some 55, none, .pur (.ext 0) [.tmp 49]⟩, ⟨some 56, none, .pur (.ext 1) [.tmp 49]⟩, ⟨some 10, none, .pur .mov [.tmp 55]⟩, ⟨some 11, none, .pur .mov [.tmp 56]⟩]) [11])
  (.seq (.seq (.reg (straight [⟨some 57, none, .pur .mov [.tmp 11]⟩, ⟨some 58, none, .pur (.bin .neq) [.tmp 57, .const (.int .i64 0)]⟩]) [58])
  (.cond (.tmp 58) (.seq (.reg (straight [⟨some 6, none, .pur .mov [.const (.bool false)]⟩]) [6])
  (.ret)) (.skip)))
  (.seq (.reg (straight [⟨some 12, none, .pur .mov [.const (.int .i64 0)]⟩]) [12])
  (.seq (.seq (.reg (straight [⟨some 13, none, .pur .mov [.const (.int .i64 0)]⟩]) [13])
  (.block 0 (.loop S_forebaylaw34_TraceCuts_L1)))
  (.seq (.reg (straight [⟨some 78, none, .pur .mov [.tmp 2]⟩, ⟨some 79, none, .eff (.call 16) [.tmp 78]⟩, ⟨some 14, none, .pur .mov [.tmp 79]⟩]) [14])
  (.seq (.seq (.reg (straight [⟨some 15, none, .pur .mov [.const (.int .i64 0)]⟩]) [15])
  (.block 2 (.loop S_forebaylaw34_TraceCuts_L2)))
  (.seq (.reg (straight [⟨some 93, none, .pur .mov [.tmp 14]⟩, ⟨some 94, none, .eff (.call 16) [.tmp 93]⟩, ⟨some 95, none, .eff (.call 15) [.tmp 94]⟩, ⟨some 92, none, .pur .mov [.tmp 95]⟩, ⟨some 96, none, .pur (.ext 0) [.tmp 92]⟩, ⟨some 97, none, .pur (.ext 1) [.tmp 92]⟩, ⟨some 16, none, .pur .mov [.tmp 96]⟩, ⟨some 17, none, .pur .mov [.tmp 97]⟩]) [17])
  (.seq (.seq (.reg (straight [⟨some 98, none, .pur .mov [.tmp 17]⟩, ⟨some 99, none, .pur (.bin .neq) [.tmp 98, .const (.int .i64 0)]⟩]) [99])
  (.cond (.tmp 99) (.seq (.reg (straight [⟨some 6, none, .pur .mov [.const (.bool true)]⟩]) [6])
  (.ret)) (.skip)))
  (.seq (.reg (straight [⟨some 18, none, .pur .mov [.const (.slice none 0 0)]⟩]) [18])
  (.seq (.seq (.reg (straight [⟨some 19, none, .pur .mov [.const (.int .i64 0)]⟩]) [19])
  (.block 4 (.loop S_forebaylaw34_TraceCuts_L3)))
  (.seq (.reg (straight [⟨some 135, none, .pur .mov [.tmp 18]⟩, ⟨some 136, none, .eff (.call 15) [.tmp 135]⟩, ⟨some 134, none, .pur .mov [.tmp 136]⟩, ⟨some 137, none, .pur (.ext 0) [.tmp 134]⟩, ⟨some 138, none, .pur (.ext 1) [.tmp 134]⟩, ⟨some 20, none, .pur .mov [.tmp 137]⟩, ⟨some 21, none, .pur .mov [.tmp 138]⟩]) [21])
  (.seq (.reg (straight [⟨some 139, none, .pur .mov [.tmp 21]⟩, ⟨some 140, none, .pur .mov [.tmp 8]⟩, ⟨some 141, none, .pur (.bin .eql) [.tmp 139, .tmp 140]⟩, ⟨some 6, none, .pur .mov [.tmp 141]⟩]) [6])
  (.ret))))))))))))))))))⟩
theorem K_forebaylaw34_TraceCuts : compF Try.prog 5 = some S_forebaylaw34_TraceCuts := by kernel_rfl

-- 7
def S_forebaylaw34_TraceFollows_L1 : SCode :=
  .seq (.seq (.reg (straight [⟨some 31, none, .pur .mov [.tmp 6]⟩, ⟨some 32, none, .pur .mov [.tmp 0]⟩, ⟨some 33, none, .pur (.len false) [.tmp 32]⟩, ⟨some 34, none, .pur (.bin .lss) [.tmp 31, .tmp 33]⟩]) [34])
  (.cond (.tmp 34) (.skip) (.exit 0)))
  (.seq (.block 1 (.reg (straight [⟨some 37, none, .pur .mov [.tmp 5]⟩, ⟨some 38, none, .pur .mov [.tmp 0]⟩, ⟨some 39, none, .pur .mov [.tmp 6]⟩, ⟨some 40, none, .pur (.ixa 4) [.tmp 38, .tmp 39]⟩, ⟨some 41, none, .ld (some 4) (.tmp 40)⟩, ⟨some 42, none, .eff (.call 11) [.tmp 37, .tmp 41]⟩]) []))
  (.reg (straight [⟨some 35, none, .pur .mov [.tmp 6]⟩, ⟨some 36, none, .pur (.bin .add) [.tmp 35, .const (.int .i64 1)]⟩, ⟨some 6, none, .pur .mov [.tmp 36]⟩]) [6]))
def S_forebaylaw34_TraceFollows_L2 : SCode :=
  .seq (.seq (.reg (straight [⟨some 45, none, .pur .mov [.tmp 8]⟩, ⟨some 46, none, .pur .mov [.tmp 7]⟩, ⟨some 47, none, .pur (.len false) [.tmp 46]⟩, ⟨some 48, none, .pur (.bin .lss) [.tmp 45, .tmp 47]⟩]) [48])
  (.cond (.tmp 48) (.skip) (.exit 2)))
  (.seq (.block 3 (.seq (.reg (.run ⟨some 51, none, .pur .mov [.tmp 0]⟩ (.run ⟨some 53, none, .pur .mov [.tmp 7]⟩ (.run ⟨some 54, none, .pur .mov [.tmp 8]⟩ (.run ⟨some 55, none, .pur (.ixa 1) [.tmp 53, .tmp 54]⟩ (.run ⟨some 56, none, .ld none (.tmp 55)⟩ (.eff ⟨some 52, none, .eff (.call 16) [.tmp 51]⟩ [⟨some 56, none, .ld none (.tmp 55)⟩] (.eff ⟨some 57, none, .eff (.call 18) [.tmp 52, .tmp 56]⟩ [] (.eff ⟨some 58, none, .eff (.call 32) [.tmp 57]⟩ [] (.run ⟨some 59, none, .pur .mov [.tmp 58]⟩ (.run ⟨some 60, some (59, true), .pur .mov [.tmp 0]⟩ (.run ⟨some 62, some (59, true), .pur .mov [.tmp 7]⟩ (.run ⟨some 63, some (59, true), .pur .mov [.tmp 8]⟩ (.run ⟨some 64, some (59, true), .pur (.ixa 1) [.tmp 62, .tmp 63]⟩ (.run ⟨some 65, some (59, true), .ld none (.tmp 64)⟩ (.eff ⟨some 61, some (59, true), .eff (.call 16) [.tmp 60]⟩ [⟨some 65, some (59, true), .ld none (.tmp 64)⟩] (.eff ⟨some 66, some (59, true), .eff (.call 22) [.tmp 61, .tmp 65]⟩ [] (.run ⟨some 67, some (59, true), .pur .not [.tmp 66]⟩ (.run ⟨some 68, none, .pur .pick [.tmp 59, .tmp 67, .const (.bool false)]⟩ .done)))))))))))))))))) [68])
  (.cond (.tmp 68) (.seq (.reg (straight [⟨some 2, none, .pur .mov [.const (.bool false)]⟩]) [2])
  (.ret)) (.skip))))
  (.reg (straight [⟨some 49, none, .pur .mov [.tmp 8]⟩, ⟨some 50, none, .pur (.bin .add) [.tmp 49, .const (.int .i64 1)]⟩, ⟨some 8, none, .pur .mov [.tmp 50]⟩]) [8]))
def S_forebaylaw34_TraceFollows : Fun := ⟨71, [2, 10, 0, 13, 4, 21, 3, 6, 34, 5, 8, 7, 48, 68], [.tmp 2],
  .seq (.reg (straight [⟨some 2, none, .pur .mov [.const (.bool false)]⟩]) [2])
  (.seq (.seq (.reg (straight [⟨some 9, none, .eff (.call 14) []⟩, ⟨some 10, none, .pur .not [.tmp 9]⟩]) [10])
  (.cond (.tmp 10) (.seq (.reg (straight [⟨some 2, none, .pur .mov [.const (.bool false)]⟩]) [2])
  (.ret)) (.skip)))
  (.seq (.seq (.reg (straight [⟨some 11, none, .pur .mov [.tmp 0]⟩, ⟨some 12, none, .pur (.len false) [.tmp 11]⟩, ⟨some 13, none, .pur (.bin .gtr) [.tmp 12, .const (.int .i64 600)]⟩]) [13])
  (.cond (.tmp 13) (.seq (.reg (straight [⟨some 2, none, .pur .mov [.const (.bool true)]⟩]) [2])
  (.ret)) (.skip)))
  (.seq (.reg (straight [⟨some 15, none, .pur .mov [.tmp 0]⟩, ⟨some 16, none, .eff (.call 16) [.tmp 15]⟩, ⟨some 17, none, .eff (.call 15) [.tmp 16]⟩, ⟨some 14, none, .pur .mov [.tmp 17]⟩, ⟨some 18, none, .pur (.ext 0) [.tmp 14]⟩, ⟨some 19, none, .pur (.ext 1) [.tmp 14]⟩, ⟨some 3, none, .pur .mov [.tmp 18]⟩, ⟨some 4, none, .pur .mov [.tmp 19]⟩]) [3, 4])
  (.seq (.seq (.reg (straight [⟨some 20, none, .pur .mov [.tmp 4]⟩, ⟨some 21, none, .pur (.bin .neq) [.tmp 20, .const (.int .i64 0)]⟩]) [21])
  (.cond (.tmp 21) (.seq (.reg (straight [⟨some 22, none, .pur .mov [.tmp 3]⟩, ⟨some 23, none, .pur (.bin .geq) [.tmp 22, .const (.int .i64 0)]⟩, ⟨some 24, none, .pur .mov [.tmp 23]⟩, ⟨some 25, some (24, true), .pur .mov [.tmp 3]⟩, ⟨some 26, some (24, true), .pur .mov [.tmp 0]⟩, ⟨some 27, some (24, true), .pur (.len false) [.tmp 26]⟩, ⟨some 28, some (24, true), .pur (.bin .lss) [.tmp 25, .tmp 27]⟩, ⟨some 29, none, .pur .pick [.tmp 24, .tmp 28, .const (.bool false)]⟩, ⟨some 2, none, .pur .mov [.tmp 29]⟩]) [2])
  (.ret)) (.skip)))
  (.seq (.reg (straight [⟨some 30, none, .eff (.call 10) []⟩, ⟨some 5, none, .pur .mov [.tmp 30]⟩]) [5])
  (.seq (.seq (.reg (straight [⟨some 6, none, .pur .mov [.const (.int .i64 0)]⟩]) [6])
  (.block 0 (.loop S_forebaylaw34_TraceFollows_L1)))
  (.seq (.reg (straight [⟨some 43, none, .pur .mov [.tmp 5]⟩, ⟨some 44, none, .eff (.call 12) [.tmp 43]⟩, ⟨some 7, none, .pur .mov [.tmp 44]⟩]) [7])
  (.seq (.seq (.reg (straight [⟨some 8, none, .pur .mov [.const (.int .i64 0)]⟩]) [8])
  (.block 2 (.loop S_forebaylaw34_TraceFollows_L2)))
  (.seq (.reg (straight [⟨some 69, none, .pur .mov [.tmp 3]⟩, ⟨some 70, none, .pur (.bin .eql) [.tmp 69, .const (.int .i64 0)]⟩, ⟨some 2, none, .pur .mov [.tmp 70]⟩]) [2])
  (.ret))))))))))⟩
theorem K_forebaylaw34_TraceFollows : compF Try.prog 7 = some S_forebaylaw34_TraceFollows := by kernel_rfl

-- 14
def S_forebaylaw34_works : Fun := ⟨52, [0, 3, 1, 2, 4, 5], [.tmp 0],
  .seq (.reg (straight [⟨some 0, none, .pur .mov [.const (.bool false)]⟩]) [0])
  (.seq (.reg (straight [⟨some 7, none, .eff (.call 50) []⟩, ⟨some 8, none, .eff (.call 15) [.tmp 7]⟩, ⟨some 6, none, .pur .mov [.tmp 8]⟩, ⟨some 9, none, .pur (.ext 0) [.tmp 6]⟩, ⟨some 10, none, .pur (.ext 1) [.tmp 6]⟩, ⟨some 1, none, .pur .mov [.tmp 9]⟩, ⟨some 2, none, .pur .mov [.tmp 10]⟩]) [1, 2])
  (.seq (.reg (straight [⟨some 11, none, .eff (.call 50) []⟩, ⟨some 3, none, .pur .mov [.tmp 11]⟩]) [3])
  (.seq (.reg (straight [⟨some 12, none, .pur .mov [.tmp 3]⟩, ⟨some 13, none, .pur .mov [.tmp 3]⟩, ⟨some 14, none, .pur (.ixa 4) [.tmp 13, .const (.int .i64 8)]⟩, ⟨some 15, none, .ld (some 4) (.tmp 14)⟩, ⟨some 16, none, .pur (.ixa 4) [.tmp 12, .const (.int .i64 7)]⟩, ⟨none, none, .eff (.st 4) [.tmp 16, .tmp 15]⟩]) [])
  (.seq (.reg (straight [⟨some 18, none, .pur .mov [.tmp 3]⟩, ⟨some 19, none, .eff (.call 15) [.tmp 18]⟩, ⟨some 17, none, .pur .mov [.tmp 19]⟩, ⟨some 20, none, .pur (.ext 0) [.tmp 17]⟩, ⟨some 21, none, .pur (.ext 1) [.tmp 17]⟩, ⟨some 4, none, .pur .mov [.tmp 20]⟩, ⟨some 5, none, .pur .mov [.tmp 21]⟩]) [4, 5])
  (.seq (.reg (straight [⟨some 22, none, .pur .mov [.tmp 1]⟩, ⟨some 23, none, .pur (.bin .eql) [.tmp 22, .const (.int .i64 0)]⟩, ⟨some 24, none, .pur .mov [.tmp 23]⟩, ⟨some 25, some (24, true), .pur .mov [.tmp 2]⟩, ⟨some 26, some (24, true), .pur (.bin .eql) [.tmp 25, .const (.int .i64 0)]⟩, ⟨some 27, none, .pur .pick [.tmp 24, .tmp 26, .const (.bool false)]⟩, ⟨some 28, none, .pur .mov [.tmp 27]⟩, ⟨some 29, some (28, true), .pur .mov [.tmp 4]⟩, ⟨some 30, some (28, true), .pur (.bin .eql) [.tmp 29, .const (.int .i64 7)]⟩, ⟨some 31, none, .pur .pick [.tmp 28, .tmp 30, .const (.bool false)]⟩, ⟨some 32, none, .pur .mov [.tmp 31]⟩, ⟨some 33, some (32, true), .pur .mov [.tmp 5]⟩, ⟨some 34, some (32, true), .pur (.bin .eql) [.tmp 33, .const (.int .i64 1)]⟩, ⟨some 35, none, .pur .pick [.tmp 32, .tmp 34, .const (.bool false)]⟩, ⟨some 36, none, .pur .mov [.tmp 35]⟩, ⟨some 37, some (36, true), .eff (.call 50) []⟩, ⟨some 38, some (36, true), .eff (.call 22) [.tmp 37, .const (.int .i64 1)]⟩, ⟨some 39, none, .pur .pick [.tmp 36, .tmp 38, .const (.bool false)]⟩, ⟨some 40, none, .pur .mov [.tmp 39]⟩, ⟨some 41, some (40, true), .eff (.call 50) []⟩, ⟨some 42, some (40, true), .eff (.call 18) [.tmp 41, .const (.int .i64 1)]⟩, ⟨some 43, some (40, true), .pur (.len false) [.tmp 42]⟩, ⟨some 44, some (40, true), .pur (.bin .eql) [.tmp 43, .const (.int .i64 2)]⟩, ⟨some 45, none, .pur .pick [.tmp 40, .tmp 44, .const (.bool false)]⟩, ⟨some 46, none, .pur .mov [.tmp 45]⟩, ⟨some 47, some (46, true), .eff (.call 50) []⟩, ⟨some 48, some (46, true), .eff (.call 20) [.tmp 47, .const (.int .i64 1)]⟩, ⟨some 49, some (46, true), .pur (.len false) [.tmp 48]⟩, ⟨some 50, some (46, true), .pur (.bin .eql) [.tmp 49, .const (.int .i64 4)]⟩, ⟨some 51, none, .pur .pick [.tmp 46, .tmp 50, .const (.bool false)]⟩, ⟨some 0, none, .pur .mov [.tmp 51]⟩]) [0])
  (.ret))))))⟩
theorem K_forebaylaw34_works : compF Try.prog 14 = some S_forebaylaw34_works := by kernel_rfl

-- 15
def S_trace_Check_L1 : SCode :=
  .seq (.reg (straight [⟨some 13, none, .pur (.bin .lss) [.tmp 12, .tmp 11]⟩]) [13])
  (.seq (.cond (.tmp 13) (.skip) (.exit 0))
  (.seq (.block 1 (.seq (.reg (straight [⟨some 14, none, .pur .mov [.tmp 12]⟩, ⟨some 15, none, .pur (.ixa 4) [.tmp 10, .tmp 12]⟩, ⟨some 16, none, .ld (some 4) (.tmp 15)⟩, ⟨some 6, none, .eff (.new 28 [.int .i64 0, .int .i64 0, .int .i64 0, .int .i64 0]) []⟩, ⟨some 5, none, .pur .mov [.tmp 14]⟩, ⟨none, none, .eff (.st 4) [.tmp 6, .tmp 16]⟩]) [6, 5])
  (.seq (.seq (.reg (straight [⟨some 17, none, .pur (.fla 0) [.tmp 6]⟩, ⟨some 18, none, .ld none (.tmp 17)⟩, ⟨some 19, none, .pur (.bin .lss) [.tmp 18, .const (.int .i64 1)]⟩, ⟨some 20, none, .pur .mov [.tmp 19]⟩, ⟨some 21, some (20, false), .pur (.fla 0) [.tmp 6]⟩, ⟨some 22, some (20, false), .ld none (.tmp 21)⟩, ⟨some 23, some (20, false), .pur (.bin .gtr) [.tmp 22, .const (.int .i64 6)]⟩, ⟨some 24, none, .pur .pick [.tmp 20, .const (.bool true), .tmp 23]⟩]) [24])
  (.cond (.tmp 24) (.seq (.reg (straight [⟨some 25, none, .pur .mov [.tmp 5]⟩, ⟨some 2, none, .pur .mov [.tmp 25]⟩, ⟨some 3, none, .pur .mov [.const (.int .i64 5)]⟩]) [2, 3])
  (.ret)) (.skip)))
  (.seq (.reg (straight [⟨some 26, none, .pur .mov [.tmp 4]⟩, ⟨some 27, none, .pur (.fla 1) [.tmp 6]⟩, ⟨some 28, none, .ld none (.tmp 27)⟩, ⟨some 29, none, .eff (.mlk (.int .i64) (.pointer none)) [.tmp 26, .tmp 28]⟩, ⟨some 7, none, .pur .mov [.tmp 29]⟩]) [7])
  (.seq (.seq (.reg (straight [⟨some 30, none, .pur .mov [.tmp 7]⟩, ⟨some 31, none, .pur (.eqn false 0) [.tmp 30]⟩]) [31])
  (.cond (.tmp 31) (.seq (.reg (straight [⟨some 32, none, .pur (.bld [.slice none 0 0, .bool false] []) []⟩, ⟨some 33, none, .eff (.box 98) [.tmp 32]⟩, ⟨some 7, none, .pur .mov [.tmp 33]⟩]) [7])
  (.reg (straight [⟨some 34, none, .pur .mov [.tmp 4]⟩, ⟨some 35, none, .pur (.fla 1) [.tmp 6]⟩, ⟨some 36, none, .ld none (.tmp 35)⟩, ⟨some 37, none, .pur .mov [.tmp 7]⟩, ⟨none, none, .eff (.mup (.int .i64)) [.tmp 34, .tmp 36, .tmp 37]⟩]) [])) (.skip)))
  (.seq (.reg (straight [⟨some 38, none, .pur .mov [.tmp 7]⟩, ⟨some 39, none, .ld (some 4) (.tmp 6)⟩, ⟨some 40, none, .eff (.call 51) [.tmp 38, .tmp 39]⟩, ⟨some 8, none, .pur .mov [.tmp 40]⟩]) [8])
  (.seq (.reg (straight [⟨some 41, none, .pur .mov [.tmp 8]⟩, ⟨some 42, none, .pur (.bin .neq) [.tmp 41, .const (.int .i64 0)]⟩]) [42])
  (.cond (.tmp 42) (.seq (.reg (straight [⟨some 43, none, .pur .mov [.tmp 5]⟩, ⟨some 44, none, .pur .mov [.tmp 8]⟩, ⟨some 2, none, .pur .mov [.tmp 43]⟩, ⟨some 3, none, .pur .mov [.tmp 44]⟩]) [2, 3])
  (.ret)) (.skip)))))))))
  (.reg (straight [⟨some 45, none, .pur (.bin .add) [.tmp 12, .const (.int .i64 1)]⟩, ⟨some 12, none, .pur .mov [.tmp 45]⟩]) [12])))
def S_trace_Check : Fun := ⟨46, [2, 3, 0, 12, 11, 13, 10, 6, 24, 5, 4, 7, 31, 8, 42], [.tmp 2, .tmp 3],
  .seq (.reg (straight [⟨some 2, none, .pur .mov [.const (.int .i64 0)]⟩, ⟨some 3, none, .pur .mov [.const (.int .i64 0)]⟩]) [2, 3])
  (.seq (.reg (straight [⟨some 9, none, .eff .mkm []⟩, ⟨some 4, none, .pur .mov [.tmp 9]⟩]) [4])
  (.seq (.seq (.reg (straight [⟨some 10, none, .pur .mov [.tmp 0]⟩, ⟨some 11, none, .pur (.len false) [.tmp 10]⟩, ⟨some 12, none, .pur .mov [.const (.int .i64 0)]⟩]) [10, 11, 12])
  (.block 0 (.loop S_trace_Check_L1)))
  (.seq (.reg (straight [⟨some 2, none, .pur .mov [.const (.int .i64 0)]⟩, ⟨some 3, none, .pur .mov [.const (.int .i64 0)]⟩]) [2, 3])
  (.ret))))⟩
theorem K_trace_Check : compF Try.prog 15 = some S_trace_Check := by kernel_rfl

-- 16
def S_forebaylaw34_own : Fun := ⟨6, [2, 0], [.tmp 2],
  .seq (.reg (straight [⟨some 2, none, .pur .mov [.const (.slice none 0 0)]⟩]) [2])
  (.seq (.reg (straight [⟨some 3, none, .eff (.bsl 28 4) []⟩, ⟨some 4, none, .pur .mov [.tmp 0]⟩, ⟨some 5, none, .eff (.app 28 4 32 [.int .i64 0, .int .i64 0, .int .i64 0, .int .i64 0]) [.tmp 3, .tmp 4]⟩, ⟨some 2, none, .pur .mov [.tmp 5]⟩]) [2])
  (.ret))⟩
theorem K_forebaylaw34_own : compF Try.prog 16 = some S_forebaylaw34_own := by kernel_rfl

-- 17
def S_forebayref34_Check_L1 : SCode :=
  .seq (.seq (.reg (straight [⟨some 6, none, .pur .mov [.tmp 4]⟩, ⟨some 7, none, .pur .mov [.tmp 0]⟩, ⟨some 8, none, .pur (.len false) [.tmp 7]⟩, ⟨some 9, none, .pur (.bin .lss) [.tmp 6, .tmp 8]⟩]) [9])
  (.cond (.tmp 9) (.skip) (.exit 0)))
  (.seq (.block 1 (.seq (.reg (.run ⟨some 12, none, .pur .mov [.tmp 0]⟩ (.run ⟨some 13, none, .pur .mov [.tmp 4]⟩ (.run ⟨some 14, none, .pur (.slc 4 false true) [.tmp 12, .tmp 13]⟩ (.run ⟨some 15, none, .pur .mov [.tmp 0]⟩ (.run ⟨some 16, none, .pur .mov [.tmp 4]⟩ (.run ⟨some 17, none, .pur (.ixa 4) [.tmp 15, .tmp 16]⟩ (.run ⟨some 18, none, .ld (some 4) (.tmp 17)⟩ (.eff ⟨some 19, none, .eff (.call 52) [.tmp 14, .tmp 18]⟩ [] (.run ⟨some 5, none, .pur .mov [.tmp 19]⟩ .done))))))))) [5])
  (.seq (.reg (straight [⟨some 20, none, .pur .mov [.tmp 5]⟩, ⟨some 21, none, .pur (.bin .neq) [.tmp 20, .const (.int .i64 0)]⟩]) [21])
  (.cond (.tmp 21) (.seq (.reg (straight [⟨some 22, none, .pur .mov [.tmp 4]⟩, ⟨some 23, none, .pur .mov [.tmp 5]⟩, ⟨some 2, none, .pur .mov [.tmp 22]⟩, ⟨some 3, none, .pur .mov [.tmp 23]⟩]) [2, 3])
  (.ret)) (.skip)))))
  (.reg (straight [⟨some 10, none, .pur .mov [.tmp 4]⟩, ⟨some 11, none, .pur (.bin .add) [.tmp 10, .const (.int .i64 1)]⟩, ⟨some 4, none, .pur .mov [.tmp 11]⟩]) [4]))
def S_forebayref34_Check : Fun := ⟨24, [2, 3, 4, 0, 9, 5, 21], [.tmp 2, .tmp 3],
  .seq (.reg (straight [⟨some 2, none, .pur .mov [.const (.int .i64 0)]⟩, ⟨some 3, none, .pur .mov [.const (.int .i64 0)]⟩]) [2, 3])
  (.seq (.seq (.reg (straight [⟨some 4, none, .pur .mov [.const (.int .i64 0)]⟩]) [4])
  (.block 0 (.loop S_forebayref34_Check_L1)))
  (.seq (.reg (straight [⟨some 2, none, .pur .mov [.const (.int .i64 0)]⟩, ⟨some 3, none, .pur .mov [.const (.int .i64 0)]⟩]) [2, 3])
  (.ret)))⟩
theorem K_forebayref34_Check : compF Try.prog 17 = some S_forebayref34_Check := by kernel_rfl

-- 18
def S_trace_Rows_R1a : SCode :=
  .reg (straight [⟨some 8, none, .eff (.new 28 [.int .i64 0, .int .i64 0, .int .i64 0, .int .i64 0]) []⟩, ⟨none, none, .eff (.st 4) [.tmp 8, .tmp 16]⟩]) [8]
def S_trace_Rows_R1b : SCode :=
  .block 1 (.seq (.reg (straight [⟨some 17, none, .pur (.fla 0) [.tmp 8]⟩, ⟨some 18, none, .ld none (.tmp 17)⟩]) [18])
  (.block 2 (.seq (.reg (straight [⟨some 20, none, .pur (.bin .eql) [.tmp 18, .const (.int .i64 1)]⟩, ⟨some 19, none, .pur .mov [.tmp 20]⟩]) [19])
  (.cond (.tmp 19) (.seq (.reg (straight [⟨some 21, none, .ld none (.tmp 5)⟩, ⟨some 22, none, .pur (.bld [.int .i64 0, .bool false] []) []⟩, ⟨some 23, none, .eff (.bsl 47 2) [.tmp 22]⟩, ⟨some 24, none, .eff (.bsl 45 1) [.tmp 23]⟩, ⟨some 25, none, .eff (.app 45 1 24 [.slice none 0 0]) [.tmp 21, .tmp 24]⟩, ⟨none, none, .eff (.st 1) [.tmp 5, .tmp 25]⟩]) [])
  (.reg (straight [⟨some 26, none, .ld none (.tmp 6)⟩, ⟨some 27, none, .pur (.fla 2) [.tmp 8]⟩, ⟨some 28, none, .ld none (.tmp 27)⟩, ⟨some 29, none, .ld none (.tmp 5)⟩, ⟨some 30, none, .pur (.len false) [.tmp 29]⟩, ⟨none, none, .eff (.mup (.int .i64)) [.tmp 26, .tmp 28, .tmp 30]⟩]) [])) (.seq (.seq (.reg (straight [⟨some 32, none, .pur (.bin .eql) [.tmp 18, .const (.int .i64 3)]⟩, ⟨some 31, none, .pur .mov [.tmp 32]⟩]) [31])
  (.cond (.tmp 31) (.skip) (.reg (straight [⟨some 33, none, .pur (.bin .eql) [.tmp 18, .const (.int .i64 6)]⟩, ⟨some 31, none, .pur .mov [.tmp 33]⟩]) [31])))
  (.cond (.tmp 31) (.seq (.reg (straight [⟨some 34, none, .ld none (.tmp 6)⟩, ⟨some 35, none, .pur (.fla 2) [.tmp 8]⟩, ⟨some 36, none, .ld none (.tmp 35)⟩, ⟨some 37, none, .eff (.mlk (.int .i64) (.int .i64 0)) [.tmp 34, .tmp 36]⟩, ⟨some 9, none, .pur .mov [.tmp 37]⟩]) [9])
  (.seq (.reg (straight [⟨some 38, none, .pur .mov [.tmp 9]⟩, ⟨some 39, none, .pur (.bin .gtr) [.tmp 38, .const (.int .i64 0)]⟩]) [39])
  (.cond (.tmp 39) (.reg (.run ⟨some 40, none, .ld none (.tmp 5)⟩ (.run ⟨some 41, none, .pur .mov [.tmp 9]⟩ (.run ⟨some 42, none, .pur (.bin .sub) [.tmp 41, .const (.int .i64 1)]⟩ (.run ⟨some 43, none, .ld none (.tmp 5)⟩ (.run ⟨some 44, none, .pur .mov [.tmp 9]⟩ (.run ⟨some 45, none, .pur (.bin .sub) [.tmp 44, .const (.int .i64 1)]⟩ (.run ⟨some 46, none, .pur (.ixa 1) [.tmp 43, .tmp 45]⟩ (.run ⟨some 47, none, .ld none (.tmp 46)⟩ (.run ⟨some 48, none, .pur (.fla 3) [.tmp 8]⟩ (.run ⟨some 49, none, .ld none (.tmp 48)⟩ (.run ⟨some 50, none, .pur (.fla 0) [.tmp 8]⟩ (.run ⟨some 51, none, .ld none (.tmp 50)⟩ (.run ⟨some 52, none, .pur (.bin .eql) [.tmp 51, .const (.int .i64 3)]⟩ (.run ⟨some 53, none, .pur (.bld [.int .i64 0, .bool false] [(0, 1), (1, 1)]) [.tmp 49, .tmp 52]⟩ (.eff ⟨some 54, none, .eff (.bsl 47 2) [.tmp 53]⟩ [⟨some 47, none, .ld none (.tmp 46)⟩, ⟨some 43, none, .ld none (.tmp 5)⟩, ⟨some 40, none, .ld none (.tmp 5)⟩] (.eff ⟨some 55, none, .eff (.app 47 2 16 [.int .i64 0, .bool false]) [.tmp 47, .tmp 54]⟩ [⟨some 40, none, .ld none (.tmp 5)⟩] (.run ⟨some 56, none, .pur (.ixa 1) [.tmp 40, .tmp 42]⟩ (.eff ⟨none, none, .eff (.st 1) [.tmp 56, .tmp 55]⟩ [] .done)))))))))))))))))) []) (.skip)))) (.skip)))))))
def S_trace_Rows : Fun := ⟨58, [4, 0, 1, 14, 15, 16, 8, 18, 19, 5, 6, 31, 9, 39], [.tmp 4],
  .seq (.reg (straight [⟨some 4, none, .pur .mov [.const (.slice none 0 0)]⟩]) [4])
  (.seq (.reg (straight [⟨some 5, none, .eff (.new 38 [.slice none 0 0]) []⟩]) [5])
  (.seq (.reg (straight [⟨some 10, none, .eff .mkm []⟩, ⟨some 6, none, .eff (.new 101 [.map none]) []⟩, ⟨none, none, .eff (.st 1) [.tmp 6, .tmp 10]⟩]) [6])
  (.seq (.seq (.reg (straight [⟨some 11, none, .pur .mov [.tmp 0]⟩, ⟨some 12, none, .eff (.call 53) [.tmp 11]⟩, ⟨some 13, none, .pur .mov [.tmp 1]⟩, ⟨some 14, none, .eff (.call 48) [.tmp 12, .tmp 13]⟩]) [14])
  (.block 0 (.rf (.tmp 14) [15, 16] S_trace_Rows_R1a S_trace_Rows_R1b)))
  (.seq (.reg (straight [⟨some 57, none, .ld none (.tmp 5)⟩, ⟨some 4, none, .pur .mov [.tmp 57]⟩]) [4])
  (.ret)))))⟩
theorem K_trace_Rows : compF Try.prog 18 = some S_trace_Rows := by kernel_rfl

-- 19
def S_forebayref34_Rows_L2 : SCode :=
  .seq (.seq (.reg (straight [⟨some 34, none, .pur .mov [.tmp 8]⟩, ⟨some 35, none, .pur .mov [.tmp 0]⟩, ⟨some 36, none, .pur (.len false) [.tmp 35]⟩, ⟨some 37, none, .pur (.bin .lss) [.tmp 34, .tmp 36]⟩]) [37])
  (.cond (.tmp 37) (.skip) (.exit 2)))
  (.seq (.block 3 (.seq (.seq (.reg (straight [⟨some 40, none, .pur .mov [.tmp 0]⟩, ⟨some 41, none, .pur .mov [.tmp 8]⟩, ⟨some 42, none, .pur (.ixa 4) [.tmp 40, .tmp 41]⟩, ⟨some 43, none, .pur (.fla 1) [.tmp 42]⟩, ⟨some 44, none, .ld none (.tmp 43)⟩, ⟨some 45, none, .pur .mov [.tmp 1]⟩, ⟨some 46, none, .pur (.bin .neq) [.tmp 44, .tmp 45]⟩, ⟨some 47, none, .pur .mov [.tmp 46]⟩, ⟨some 48, some (47, false), .pur .mov [.tmp 0]⟩, ⟨some 49, some (47, false), .pur .mov [.tmp 8]⟩, ⟨some 50, some (47, false), .pur (.ixa 4) [.tmp 48, .tmp 49]⟩, ⟨some 51, some (47, false), .pur (.fla 2) [.tmp 50]⟩, ⟨some 52, some (47, false), .ld none (.tmp 51)⟩, ⟨some 53, some (47, false), .pur .mov [.tmp 0]⟩, ⟨some 54, some (47, false), .pur .mov [.tmp 6]⟩, ⟨some 55, some (47, false), .pur (.ixa 4) [.tmp 53, .tmp 54]⟩, ⟨some 56, some (47, false), .pur (.fla 2) [.tmp 55]⟩, ⟨some 57, some (47, false), .ld none (.tmp 56)⟩, ⟨some 58, some (47, false), .pur (.bin .neq) [.tmp 52, .tmp 57]⟩, ⟨some 59, none, .pur .pick [.tmp 47, .const (.bool true), .tmp 58]⟩]) [59])
  (.cond (.tmp 59) (.exit 3) (.skip)))
  (.seq (.seq (.reg (straight [⟨some 60, none, .pur .mov [.tmp 0]⟩, ⟨some 61, none, .pur .mov [.tmp 8]⟩, ⟨some 62, none, .pur (.ixa 4) [.tmp 60, .tmp 61]⟩, ⟨some 63, none, .pur (.fla 0) [.tmp 62]⟩, ⟨some 64, none, .ld none (.tmp 63)⟩, ⟨some 65, none, .pur (.bin .eql) [.tmp 64, .const (.int .i64 1)]⟩]) [65])
  (.cond (.tmp 65) (.exit 2) (.skip)))
  (.seq (.reg (straight [⟨some 66, none, .pur .mov [.tmp 0]⟩, ⟨some 67, none, .pur .mov [.tmp 8]⟩, ⟨some 68, none, .pur (.ixa 4) [.tmp 66, .tmp 67]⟩, ⟨some 69, none, .pur (.fla 0) [.tmp 68]⟩, ⟨some 70, none, .ld none (.tmp 69)⟩, ⟨some 71, none, .pur (.bin .eql) [.tmp 70, .const (.int .i64 3)]⟩, ⟨some 72, none, .pur .mov [.tmp 71]⟩, ⟨some 73, some (72, false), .pur .mov [.tmp 0]⟩, ⟨some 74, some (72, false), .pur .mov [.tmp 8]⟩, ⟨some 75, some (72, false), .pur (.ixa 4) [.tmp 73, .tmp 74]⟩, ⟨some 76, some (72, false), .pur (.fla 0) [.tmp 75]⟩, ⟨some 77, some (72, false), .ld none (.tmp 76)⟩, ⟨some 78, some (72, false), .pur (.bin .eql) [.tmp 77, .const (.int .i64 6)]⟩, ⟨some 79, none, .pur .pick [.tmp 72, .const (.bool true), .tmp 78]⟩]) [79])
  (.cond (.tmp 79) (.reg (.run ⟨some 80, none, .pur .mov [.tmp 7]⟩ (.run ⟨some 81, none, .pur .mov [.tmp 0]⟩ (.run ⟨some 82, none, .pur .mov [.tmp 8]⟩ (.run ⟨some 83, none, .pur (.ixa 4) [.tmp 81, .tmp 82]⟩ (.run ⟨some 84, none, .pur (.fla 3) [.tmp 83]⟩ (.run ⟨some 85, none, .ld none (.tmp 84)⟩ (.run ⟨some 86, none, .pur .mov [.tmp 0]⟩ (.run ⟨some 87, none, .pur .mov [.tmp 8]⟩ (.run ⟨some 88, none, .pur (.ixa 4) [.tmp 86, .tmp 87]⟩ (.run ⟨some 89, none, .pur (.fla 0) [.tmp 88]⟩ (.run ⟨some 90, none, .ld none (.tmp 89)⟩ (.run ⟨some 91, none, .pur (.bin .eql) [.tmp 90, .const (.int .i64 3)]⟩ (.run ⟨some 92, none, .pur (.bld [.int .i64 0, .bool false] [(0, 1), (1, 1)]) [.tmp 85, .tmp 91]⟩ (.eff ⟨some 93, none, .eff (.bsl 47 2) [.tmp 92]⟩ [] (.eff ⟨some 94, none, .eff (.app 47 2 16 [.int .i64 0, .bool false]) [.tmp 80, .tmp 93]⟩ [] (.eff ⟨some 7, none, .pur .mov [.tmp 94]⟩ [] .done)))))))))))))))) [7]) (.skip))))))
  (.reg (straight [⟨some 38, none, .pur .mov [.tmp 8]⟩, ⟨some 39, none, .pur (.bin .add) [.tmp 38, .const (.int .i64 1)]⟩, ⟨some 8, none, .pur .mov [.tmp 39]⟩]) [8]))
def S_forebayref34_Rows_L1 : SCode :=
  .seq (.seq (.reg (straight [⟨some 9, none, .pur .mov [.tmp 6]⟩, ⟨some 10, none, .pur .mov [.tmp 0]⟩, ⟨some 11, none, .pur (.len false) [.tmp 10]⟩, ⟨some 12, none, .pur (.bin .lss) [.tmp 9, .tmp 11]⟩]) [12])
  (.cond (.tmp 12) (.skip) (.exit 0)))
  (.seq (.block 1 (.seq (.seq (.reg (straight [⟨some 15, none, .pur .mov [.tmp 0]⟩, ⟨some 16, none, .pur .mov [.tmp 6]⟩, ⟨some 17, none, .pur (.ixa 4) [.tmp 15, .tmp 16]⟩, ⟨some 18, none, .pur (.fla 1) [.tmp 17]⟩, ⟨some 19, none, .ld none (.tmp 18)⟩, ⟨some 20, none, .pur .mov [.tmp 1]⟩, ⟨some 21, none, .pur (.bin .neq) [.tmp 19, .tmp 20]⟩, ⟨some 22, none, .pur .mov [.tmp 21]⟩, ⟨some 23, some (22, false), .pur .mov [.tmp 0]⟩, ⟨some 24, some (22, false), .pur .mov [.tmp 6]⟩, ⟨some 25, some (22, false), .pur (.ixa 4) [.tmp 23, .tmp 24]⟩, ⟨some 26, some (22, false), .pur (.fla 0) [.tmp 25]⟩, ⟨some 27, some (22, false), .ld none (.tmp 26)⟩, ⟨some 28, some (22, false), .pur (.bin .neq) [.tmp 27, .const (.int .i64 1)]⟩, ⟨some 29, none, .pur .pick [.tmp 22, .const (.bool true), .tmp 28]⟩]) [29])
  (.cond (.tmp 29) (.exit 1) (.skip)))
  (.seq (.reg (straight [⟨some 30, none, .pur (.bld [.int .i64 0, .bool false] []) []⟩, ⟨some 31, none, .eff (.bsl 47 2) [.tmp 30]⟩, ⟨some 7, none, .pur .mov [.tmp 31]⟩]) [7])
  (.seq (.seq (.reg (straight [⟨some 32, none, .pur .mov [.tmp 6]⟩, ⟨some 33, none, .pur (.bin .add) [.tmp 32, .const (.int .i64 1)]⟩, ⟨some 8, none, .pur .mov [.tmp 33]⟩]) [8])
  (.block 2 (.loop S_forebayref34_Rows_L2)))
  (.reg (straight [⟨some 95, none, .pur .mov [.tmp 5]⟩, ⟨some 96, none, .pur .mov [.tmp 7]⟩, ⟨some 97, none, .eff (.bsl 45 1) [.tmp 96]⟩, ⟨some 98, none, .eff (.app 45 1 24 [.slice none 0 0]) [.tmp 95, .tmp 97]⟩, ⟨some 5, none, .pur .mov [.tmp 98]⟩]) [5])))))
  (.reg (straight [⟨some 13, none, .pur .mov [.tmp 6]⟩, ⟨some 14, none, .pur (.bin .add) [.tmp 13, .const (.int .i64 1)]⟩, ⟨some 6, none, .pur .mov [.tmp 14]⟩]) [6]))
def S_forebayref34_Rows : Fun := ⟨100, [4, 6, 0, 12, 1, 29, 8, 37, 59, 65, 79, 7, 5], [.tmp 4],
  .seq (.reg (straight [⟨some 4, none, .pur .mov [.const (.slice none 0 0)]⟩]) [4])
  (.seq (.reg (straight [⟨some 5, none, .pur .mov [.const (.slice none 0 0)]⟩]) [5])
  (.seq (.seq (.reg (straight [⟨some 6, none, .pur .mov [.const (.int .i64 0)]⟩]) [6])
  (.block 0 (.loop S_forebayref34_Rows_L1)))
  (.seq (.reg (straight [⟨some 99, none, .pur .mov [.tmp 5]⟩, ⟨some 4, none, .pur .mov [.tmp 99]⟩]) [4])
  (.ret))))⟩
theorem K_forebayref34_Rows : compF Try.prog 19 = some S_forebayref34_Rows := by kernel_rfl

-- 20
def S_trace_Begun_R1a : SCode :=
  .reg (straight [⟨some 7, none, .eff (.new 28 [.int .i64 0, .int .i64 0, .int .i64 0, .int .i64 0]) []⟩, ⟨none, none, .eff (.st 4) [.tmp 7, .tmp 13]⟩]) [7]
def S_trace_Begun_R1b : SCode :=
  .block 1 (.seq (.reg (straight [⟨some 14, none, .pur (.fla 0) [.tmp 7]⟩, ⟨some 15, none, .ld none (.tmp 14)⟩, ⟨some 16, none, .pur (.bin .eql) [.tmp 15, .const (.int .i64 2)]⟩]) [16])
  (.cond (.tmp 16) (.reg (.run ⟨some 17, none, .ld none (.tmp 5)⟩ (.run ⟨some 18, none, .pur (.fla 2) [.tmp 7]⟩ (.run ⟨some 19, none, .ld none (.tmp 18)⟩ (.run ⟨some 20, none, .pur (.fla 3) [.tmp 7]⟩ (.run ⟨some 21, none, .ld none (.tmp 20)⟩ (.eff ⟨some 22, none, .eff (.call 24) [.tmp 19, .tmp 21]⟩ [⟨some 17, none, .ld none (.tmp 5)⟩] (.eff ⟨some 23, none, .eff (.bsl 48 1) [.tmp 22]⟩ [⟨some 17, none, .ld none (.tmp 5)⟩] (.eff ⟨some 24, none, .eff (.app 48 1 16 [.complex .f64 0 0]) [.tmp 17, .tmp 23]⟩ [] (.eff ⟨none, none, .eff (.st 1) [.tmp 5, .tmp 24]⟩ [] .done))))))))) []) (.skip)))
def S_trace_Begun : Fun := ⟨26, [4, 0, 1, 11, 12, 13, 7, 16, 5], [.tmp 4],
  .seq (.reg (straight [⟨some 4, none, .pur .mov [.const (.slice none 0 0)]⟩]) [4])
  (.seq (.reg (straight [⟨some 5, none, .eff (.new 40 [.slice none 0 0]) []⟩]) [5])
  (.seq (.seq (.reg (straight [⟨some 8, none, .pur .mov [.tmp 0]⟩, ⟨some 9, none, .eff (.call 53) [.tmp 8]⟩, ⟨some 10, none, .pur .mov [.tmp 1]⟩, ⟨some 11, none, .eff (.call 48) [.tmp 9, .tmp 10]⟩]) [11])
  (.block 0 (.rf (.tmp 11) [12, 13] S_trace_Begun_R1a S_trace_Begun_R1b)))
  (.seq (.reg (straight [⟨some 25, none, .ld none (.tmp 5)⟩, ⟨some 4, none, .pur .mov [.tmp 25]⟩]) [4])
  (.ret))))⟩
theorem K_trace_Begun : compF Try.prog 20 = some S_trace_Begun := by kernel_rfl

-- 21
def S_forebayref34_Begun_L1 : SCode :=
  .seq (.seq (.reg (straight [⟨some 7, none, .pur .mov [.tmp 6]⟩, ⟨some 8, none, .pur .mov [.tmp 0]⟩, ⟨some 9, none, .pur (.len false) [.tmp 8]⟩, ⟨some 10, none, .pur (.bin .lss) [.tmp 7, .tmp 9]⟩]) [10])
  (.cond (.tmp 10) (.skip) (.exit 0)))
  (.seq (.block 1 (.seq (.reg (straight [⟨some 13, none, .pur .mov [.tmp 0]⟩, ⟨some 14, none, .pur .mov [.tmp 6]⟩, ⟨some 15, none, .pur (.ixa 4) [.tmp 13, .tmp 14]⟩, ⟨some 16, none, .pur (.fla 1) [.tmp 15]⟩, ⟨some 17, none, .ld none (.tmp 16)⟩, ⟨some 18, none, .pur .mov [.tmp 1]⟩, ⟨some 19, none, .pur (.bin .eql) [.tmp 17, .tmp 18]⟩, ⟨some 20, none, .pur .mov [.tmp 19]⟩, ⟨some 21, some (20, true), .pur .mov [.tmp 0]⟩, ⟨some 22, some (20, true), .pur .mov [.tmp 6]⟩, ⟨some 23, some (20, true), .pur (.ixa 4) [.tmp 21, .tmp 22]⟩, ⟨some 24, some (20, true), .pur (.fla 0) [.tmp 23]⟩, ⟨some 25, some (20, true), .ld none (.tmp 24)⟩, ⟨some 26, some (20, true), .pur (.bin .eql) [.tmp 25, .const (.int .i64 2)]⟩, ⟨some 27, none, .pur .pick [.tmp 20, .tmp 26, .const (.bool false)]⟩]) [27])
  (.cond (.tmp 27) (.reg (.run ⟨some 28, none, .pur .mov [.tmp 5]⟩ (.run ⟨some 29, none, .pur .mov [.tmp 0]⟩ (.run ⟨some 30, none, .pur .mov [.tmp 6]⟩ (.run ⟨some 31, none, .pur (.ixa 4) [.tmp 29, .tmp 30]⟩ (.run ⟨some 32, none, .pur (.fla 2) [.tmp 31]⟩ (.run ⟨some 33, none, .ld none (.tmp 32)⟩ (.run ⟨some 35, none, .pur .mov [.tmp 0]⟩ (.run ⟨some 36, none, .pur .mov [.tmp 6]⟩ (.run ⟨some 37, none, .pur (.ixa 4) [.tmp 35, .tmp 36]⟩ (.run ⟨some 38, none, .pur (.fla 3) [.tmp 37]⟩ (.run ⟨some 39, none, .ld none (.tmp 38)⟩ (.eff ⟨some 34, none, .eff (.call 54) [.tmp 33]⟩ [⟨some 39, none, .ld none (.tmp 38)⟩] (.eff ⟨some 40, none, .eff (.call 54) [.tmp 39]⟩ [] (.run ⟨some 41, none, .pur (.bld [.int .i64 0, .int .i64 0] [(0, 1), (1, 1)]) [.tmp 34, .tmp 40]⟩ (.eff ⟨some 42, none, .eff (.bsl 50 2) [.tmp 41]⟩ [] (.eff ⟨some 43, none, .eff (.app 50 2 16 [.int .i64 0, .int .i64 0]) [.tmp 28, .tmp 42]⟩ [] (.eff ⟨some 5, none, .pur .mov [.tmp 43]⟩ [] .done))))))))))))))))) [5]) (.skip))))
  (.reg (straight [⟨some 11, none, .pur .mov [.tmp 6]⟩, ⟨some 12, none, .pur (.bin .add) [.tmp 11, .const (.int .i64 1)]⟩, ⟨some 6, none, .pur .mov [.tmp 12]⟩]) [6]))
def S_forebayref34_Begun : Fun := ⟨45, [4, 6, 0, 10, 1, 27, 5], [.tmp 4],
  .seq (.reg (straight [⟨some 4, none, .pur .mov [.const (.slice none 0 0)]⟩]) [4])
  (.seq (.reg (straight [⟨some 5, none, .pur .mov [.const (.slice none 0 0)]⟩]) [5])
  (.seq (.seq (.reg (straight [⟨some 6, none, .pur .mov [.const (.int .i64 0)]⟩]) [6])
  (.block 0 (.loop S_forebayref34_Begun_L1)))
  (.seq (.reg (straight [⟨some 44, none, .pur .mov [.tmp 5]⟩, ⟨some 4, none, .pur .mov [.tmp 44]⟩]) [4])
  (.ret))))⟩
theorem K_forebayref34_Begun : compF Try.prog 21 = some S_forebayref34_Begun := by kernel_rfl

-- 22
def S_trace_Follows_L1 : SCode :=
  .seq (.reg (straight [⟨some 29, none, .pur (.bin .lss) [.tmp 28, .tmp 27]⟩]) [29])
  (.seq (.cond (.tmp 29) (.skip) (.exit 0))
  (.seq (.block 1 (.seq (.reg (straight [⟨some 30, none, .pur .mov [.tmp 28]⟩, ⟨some 31, none, .pur (.ixa 1) [.tmp 26, .tmp 28]⟩, ⟨some 32, none, .ld none (.tmp 31)⟩, ⟨some 8, none, .pur .mov [.tmp 30]⟩, ⟨some 9, none, .pur .mov [.tmp 32]⟩]) [8, 9])
  (.seq (.reg (straight [⟨some 33, none, .pur .mov [.tmp 7]⟩, ⟨some 34, none, .pur .mov [.tmp 9]⟩, ⟨some 35, none, .eff (.mlk (.complex .f64) (.int .i64 0)) [.tmp 33, .tmp 34]⟩, ⟨some 36, none, .pur (.bin .eql) [.tmp 35, .const (.int .i64 0)]⟩]) [36])
  (.cond (.tmp 36) (.reg (straight [⟨some 37, none, .pur .mov [.tmp 7]⟩, ⟨some 38, none, .pur .mov [.tmp 9]⟩, ⟨some 39, none, .pur .mov [.tmp 8]⟩, ⟨some 40, none, .pur (.bin .add) [.tmp 39, .const (.int .i64 1)]⟩, ⟨none, none, .eff (.mup (.complex .f64)) [.tmp 37, .tmp 38, .tmp 40]⟩]) []) (.skip)))))
  (.reg (straight [⟨some 41, none, .pur (.bin .add) [.tmp 28, .const (.int .i64 1)]⟩, ⟨some 28, none, .pur .mov [.tmp 41]⟩]) [28])))
def S_trace_Follows_L2 : SCode :=
  .seq (.reg (straight [⟨some 45, none, .pur (.bin .lss) [.tmp 44, .tmp 43]⟩]) [45])
  (.seq (.cond (.tmp 45) (.skip) (.exit 2))
  (.seq (.block 3 (.seq (.reg (straight [⟨some 46, none, .pur (.ixa 2) [.tmp 42, .tmp 44]⟩, ⟨some 47, none, .ld (some 2) (.tmp 46)⟩, ⟨some 11, none, .eff (.new 107 [.complex .f64 0 0, .complex .f64 0 0]) []⟩, ⟨none, none, .eff (.st 2) [.tmp 11, .tmp 47]⟩]) [11])
  (.seq (.reg (.run ⟨some 48, none, .pur .mov [.tmp 7]⟩ (.run ⟨some 49, none, .pur (.ixaA 2 1) [.tmp 11, .const (.int .i64 0)]⟩ (.run ⟨some 50, none, .ld none (.tmp 49)⟩ (.run ⟨some 52, none, .pur .mov [.tmp 7]⟩ (.run ⟨some 53, none, .pur (.ixaA 2 1) [.tmp 11, .const (.int .i64 1)]⟩ (.run ⟨some 54, none, .ld none (.tmp 53)⟩ (.both (.eff ⟨some 51, none, .eff (.mlk (.complex .f64) (.int .i64 0)) [.tmp 48, .tmp 50]⟩ [⟨some 54, none, .ld none (.tmp 53)⟩] (.run ⟨some 12, none, .pur .mov [.tmp 51]⟩ (.eff ⟨some 55, none, .eff (.mlk (.complex .f64) (.int .i64 0)) [.tmp 52, .tmp 54]⟩ [] (.run ⟨some 13, none, .pur .mov [.tmp 55]⟩ .done)))) (.eff ⟨some 55, none, .eff (.mlk (.complex .f64) (.int .i64 0)) [.tmp 52, .tmp 54]⟩ [⟨some 50, none, .ld none (.tmp 49)⟩] (.eff ⟨some 51, none, .eff (.mlk (.complex .f64) (.int .i64 0)) [.tmp 48, .tmp 50]⟩ [] (.run ⟨some 12, none, .pur .mov [.tmp 51]⟩ (.run ⟨some 13, none, .pur .mov [.tmp 55]⟩ .done))))))))))) [12, 13])
  (.seq (.reg (straight [⟨some 56, none, .pur .mov [.tmp 13]⟩, ⟨some 57, none, .pur (.bin .gtr) [.tmp 56, .const (.int .i64 0)]⟩, ⟨some 58, none, .pur .mov [.tmp 57]⟩, ⟨some 59, some (58, true), .pur .mov [.tmp 12]⟩, ⟨some 60, some (58, true), .pur (.bin .eql) [.tmp 59, .const (.int .i64 0)]⟩, ⟨some 61, some (58, true), .pur .mov [.tmp 60]⟩, ⟨some 62, some (61, false), .pur .mov [.tmp 12]⟩, ⟨some 63, some (61, false), .pur .mov [.tmp 13]⟩, ⟨some 64, some (61, false), .pur (.bin .gtr) [.tmp 62, .tmp 63]⟩, ⟨some 65, some (58, true), .pur .pick [.tmp 61, .const (.bool true), .tmp 64]⟩, ⟨some 66, none, .pur .pick [.tmp 58, .tmp 65, .const (.bool false)]⟩]) [66])
  (.cond (.tmp 66) (.seq (.reg (straight [⟨some 4, none, .pur .mov [.const (.bool false)]⟩]) [4])
  (.ret)) (.skip))))))
  (.reg (straight [⟨some 67, none, .pur (.bin .add) [.tmp 44, .const (.int .i64 1)]⟩, ⟨some 44, none, .pur .mov [.tmp 67]⟩]) [44])))
def S_trace_Follows : Fun := ⟨68, [4, 0, 1, 6, 22, 28, 27, 29, 26, 7, 9, 36, 8, 5, 44, 43, 45, 42, 11, 13, 12, 66], [.tmp 4],
  .seq (.reg (straight [⟨some 4, none, .pur .mov [.const (.bool false)]⟩]) [4])
  (.seq (.reg (straight [⟨some 15, none, .pur .mov [.tmp 0]⟩, ⟨some 16, none, .pur .mov [.tmp 1]⟩, ⟨some 17, none, .eff (.call 18) [.tmp 15, .tmp 16]⟩, ⟨some 18, none, .eff (.call 55) [.tmp 17]⟩, ⟨some 14, none, .pur .mov [.tmp 18]⟩, ⟨some 19, none, .pur (.ext 0) [.tmp 14]⟩, ⟨some 20, none, .pur (.ext 1) [.tmp 14]⟩, ⟨some 5, none, .pur .mov [.tmp 19]⟩, ⟨some 6, none, .pur .mov [.tmp 20]⟩]) [5, 6])
  (.seq (.seq (.reg (straight [⟨some 21, none, .pur .mov [.tmp 6]⟩, ⟨some 22, none, .pur (.bin .neq) [.tmp 21, .const (.int .i64 0)]⟩]) [22])
  (.cond (.tmp 22) (.seq (.reg (straight [⟨some 4, none, .pur .mov [.const (.bool false)]⟩]) [4])
  (.ret)) (.skip)))
  (.seq (.reg (straight [⟨some 23, none, .eff .mkm []⟩, ⟨some 7, none, .pur .mov [.tmp 23]⟩]) [7])
  (.seq (.seq (.reg (straight [⟨some 24, none, .pur .mov [.tmp 0]⟩, ⟨some 25, none, .pur .mov [.tmp 1]⟩, ⟨some 26, none, .eff (.call 20) [.tmp 24, .tmp 25]⟩, ⟨some 27, none, .pur (.len false) [.tmp 26]⟩, ⟨some 28, none, .pur .mov [.const (.int .i64 0)]⟩]) [26, 27, 28])
  (.block 0 (.loop S_trace_Follows_L1)))
  (.seq (.seq (.reg (straight [⟨some 42, none, .pur .mov [.tmp 5]⟩, ⟨some 43, none, .pur (.len false) [.tmp 42]⟩, ⟨some 44, none, .pur .mov [.const (.int .i64 0)]⟩]) [42, 43, 44])
  (.block 2 (.loop S_trace_Follows_L2)))
  (.seq (.reg (straight [⟨some 4, none, .pur .mov [.const (.bool true)]⟩]) [4])
  (.ret)))))))⟩
theorem K_trace_Follows : compF Try.prog 22 = some S_trace_Follows := by kernel_rfl

-- 23
def S_forebayref34_Follows_L1 : SCode :=
  .seq (.seq (.reg (straight [⟨some 22, none, .pur .mov [.tmp 8]⟩, ⟨some 23, none, .pur .mov [.tmp 6]⟩, ⟨some 24, none, .pur (.len false) [.tmp 23]⟩, ⟨some 25, none, .pur (.bin .lss) [.tmp 22, .tmp 24]⟩]) [25])
  (.cond (.tmp 25) (.skip) (.exit 0)))
  (.seq (.block 1 (.seq (.reg (.run ⟨some 28, none, .pur .mov [.tmp 7]⟩ (.run ⟨some 29, none, .pur .mov [.tmp 6]⟩ (.run ⟨some 30, none, .pur .mov [.tmp 8]⟩ (.run ⟨some 31, none, .pur (.ixa 4) [.tmp 29, .tmp 30]⟩ (.run ⟨some 32, none, .pur (.ixaA 4 1) [.tmp 31, .const (.int .i64 0)]⟩ (.run ⟨some 33, none, .ld none (.tmp 32)⟩ (.run ⟨some 34, none, .pur .mov [.tmp 6]⟩ (.run ⟨some 35, none, .pur .mov [.tmp 8]⟩ (.run ⟨some 36, none, .pur (.ixa 4) [.tmp 34, .tmp 35]⟩ (.run ⟨some 37, none, .pur (.ixaA 4 1) [.tmp 36, .const (.int .i64 1)]⟩ (.run ⟨some 38, none, .ld none (.tmp 37)⟩ (.run ⟨some 39, none, .pur (.bld [.int .i64 0, .int .i64 0] [(0, 1), (1, 1)]) [.tmp 33, .tmp 38]⟩ (.run ⟨some 41, none, .pur .mov [.tmp 7]⟩ (.run ⟨some 42, none, .pur .mov [.tmp 6]⟩ (.run ⟨some 43, none, .pur .mov [.tmp 8]⟩ (.run ⟨some 44, none, .pur (.ixa 4) [.tmp 42, .tmp 43]⟩ (.run ⟨some 45, none, .pur (.ixaA 4 1) [.tmp 44, .const (.int .i64 2)]⟩ (.run ⟨some 46, none, .ld none (.tmp 45)⟩ (.run ⟨some 47, none, .pur .mov [.tmp 6]⟩ (.run ⟨some 48, none, .pur .mov [.tmp 8]⟩ (.run ⟨some 49, none, .pur (.ixa 4) [.tmp 47, .tmp 48]⟩ (.run ⟨some 50, none, .pur (.ixaA 4 1) [.tmp 49, .const (.int .i64 3)]⟩ (.run ⟨some 51, none, .ld none (.tmp 50)⟩ (.run ⟨some 52, none, .pur (.bld [.int .i64 0, .int .i64 0] [(0, 1), (1, 1)]) [.tmp 46, .tmp 51]⟩ (.eff ⟨some 40, none, .eff (.call 57) [.tmp 28, .tmp 39]⟩ [⟨some 51, none, .ld none (.tmp 50)⟩, ⟨some 46, none, .ld none (.tmp 45)⟩] (.eff ⟨some 53, none, .eff (.call 57) [.tmp 41, .tmp 52]⟩ [] (.run ⟨some 9, none, .pur .mov [.tmp 40]⟩ (.run ⟨some 10, none, .pur .mov [.tmp 53]⟩ .done)))))))))))))))))))))))))))) [9, 10])
  (.seq (.reg (straight [⟨some 54, none, .pur .mov [.tmp 10]⟩, ⟨some 55, none, .pur (.bin .geq) [.tmp 54, .const (.int .i64 0)]⟩, ⟨some 56, none, .pur .mov [.tmp 55]⟩, ⟨some 57, some (56, true), .pur .mov [.tmp 9]⟩, ⟨some 58, some (56, true), .pur (.bin .lss) [.tmp 57, .const (.int .i64 0)]⟩, ⟨some 59, some (56, true), .pur .mov [.tmp 58]⟩, ⟨some 60, some (59, false), .pur .mov [.tmp 9]⟩, ⟨some 61, some (59, false), .pur .mov [.tmp 10]⟩, ⟨some 62, some (59, false), .pur (.bin .gtr) [.tmp 60, .tmp 61]⟩, ⟨some 63, some (56, true), .pur .pick [.tmp 59, .const (.bool true), .tmp 62]⟩, ⟨some 64, none, .pur .pick [.tmp 56, .tmp 63, .const (.bool false)]⟩]) [64])
  (.cond (.tmp 64) (.seq (.reg (straight [⟨some 4, none, .pur .mov [.const (.bool false)]⟩]) [4])
  (.ret)) (.skip)))))
  (.reg (straight [⟨some 26, none, .pur .mov [.tmp 8]⟩, ⟨some 27, none, .pur (.bin .add) [.tmp 26, .const (.int .i64 1)]⟩, ⟨some 8, none, .pur .mov [.tmp 27]⟩]) [8]))
def S_forebayref34_Follows : Fun := ⟨65, [4, 0, 1, 5, 16, 8, 6, 25, 7, 10, 9, 64], [.tmp 4],
  .seq (.reg (straight [⟨some 4, none, .pur .mov [.const (.bool false)]⟩]) [4])
  (.seq (.reg (straight [⟨some 11, none, .pur .mov [.tmp 0]⟩, ⟨some 12, none, .pur .mov [.tmp 1]⟩, ⟨some 13, none, .eff (.call 19) [.tmp 11, .tmp 12]⟩, ⟨some 5, none, .pur .mov [.tmp 13]⟩]) [5])
  (.seq (.seq (.reg (straight [⟨some 14, none, .pur .mov [.tmp 5]⟩, ⟨some 15, none, .eff (.call 35) [.tmp 14]⟩, ⟨some 16, none, .pur (.bin .neq) [.tmp 15, .const (.int .i64 0)]⟩]) [16])
  (.cond (.tmp 16) (.seq (.reg (straight [⟨some 4, none, .pur .mov [.const (.bool false)]⟩]) [4])
  (.ret)) (.skip)))
  (.seq (.reg (straight [⟨some 17, none, .pur .mov [.tmp 5]⟩, ⟨some 18, none, .eff (.call 56) [.tmp 17]⟩, ⟨some 19, none, .pur .mov [.tmp 0]⟩, ⟨some 20, none, .pur .mov [.tmp 1]⟩, ⟨some 21, none, .eff (.call 21) [.tmp 19, .tmp 20]⟩, ⟨some 6, none, .pur .mov [.tmp 18]⟩, ⟨some 7, none, .pur .mov [.tmp 21]⟩]) [6, 7])
  (.seq (.seq (.reg (straight [⟨some 8, none, .pur .mov [.const (.int .i64 0)]⟩]) [8])
  (.block 0 (.loop S_forebayref34_Follows_L1)))
  (.seq (.reg (straight [⟨some 4, none, .pur .mov [.const (.bool true)]⟩]) [4])
  (.ret))))))⟩
theorem K_forebayref34_Follows : compF Try.prog 23 = some S_forebayref34_Follows := by kernel_rfl

-- 32
def S_forebaylaw34_few_L1 : SCode :=
  .seq (.seq (.reg (straight [⟨some 4, none, .pur .mov [.tmp 3]⟩, ⟨some 5, none, .pur .mov [.tmp 0]⟩, ⟨some 6, none, .pur (.len false) [.tmp 5]⟩, ⟨some 7, none, .pur (.bin .lss) [.tmp 4, .tmp 6]⟩]) [7])
  (.cond (.tmp 7) (.skip) (.exit 0)))
  (.seq (.block 1 (.seq (.reg (straight [⟨some 10, none, .pur .mov [.tmp 0]⟩, ⟨some 11, none, .pur .mov [.tmp 3]⟩, ⟨some 12, none, .pur (.ixa 1) [.tmp 10, .tmp 11]⟩, ⟨some 13, none, .ld none (.tmp 12)⟩, ⟨some 14, none, .pur (.len false) [.tmp 13]⟩, ⟨some 15, none, .pur (.bin .gtr) [.tmp 14, .const (.int .i64 100)]⟩]) [15])
  (.cond (.tmp 15) (.seq (.reg (straight [⟨some 2, none, .pur .mov [.const (.bool false)]⟩]) [2])
  (.ret)) (.skip))))
  (.reg (straight [⟨some 8, none, .pur .mov [.tmp 3]⟩, ⟨some 9, none, .pur (.bin .add) [.tmp 8, .const (.int .i64 1)]⟩, ⟨some 3, none, .pur .mov [.tmp 9]⟩]) [3]))
def S_forebaylaw34_few : Fun := ⟨19, [2, 3, 0, 7, 15], [.tmp 2],
  .seq (.reg (straight [⟨some 2, none, .pur .mov [.const (.bool false)]⟩]) [2])
  (.seq (.seq (.reg (straight [⟨some 3, none, .pur .mov [.const (.int .i64 0)]⟩]) [3])
  (.block 0 (.loop S_forebaylaw34_few_L1)))
  (.seq (.reg (straight [⟨some 16, none, .pur .mov [.tmp 0]⟩, ⟨some 17, none, .pur (.len false) [.tmp 16]⟩, ⟨some 18, none, .pur (.bin .leq) [.tmp 17, .const (.int .i64 100)]⟩, ⟨some 2, none, .pur .mov [.tmp 18]⟩]) [2])
  (.ret)))⟩
theorem K_forebaylaw34_few : compF Try.prog 32 = some S_forebaylaw34_few := by kernel_rfl

-- 50
def S_forebaylaw34_right : Fun := ⟨13, [0], [.tmp 0],
  .seq (.reg (straight [⟨some 0, none, .pur .mov [.const (.slice none 0 0)]⟩]) [0])
  (.seq (.reg (straight [⟨some 1, none, .pur (.bld [.int .i64 0, .int .i64 0, .int .i64 0, .int .i64 0] [(0, 1), (1, 1)]) [.const (.int .i64 1), .const (.int .i64 1)]⟩, ⟨some 2, none, .pur (.bld [.int .i64 0, .int .i64 0, .int .i64 0, .int .i64 0] [(0, 1), (1, 1)]) [.const (.int .i64 2), .const (.int .i64 1)]⟩, ⟨some 3, none, .pur (.bld [.int .i64 0, .int .i64 0, .int .i64 0, .int .i64 0] [(0, 1), (1, 1), (3, 1)]) [.const (.int .i64 3), .const (.int .i64 1), .const (.int .i64 3)]⟩, ⟨some 4, none, .pur (.bld [.int .i64 0, .int .i64 0, .int .i64 0, .int .i64 0] [(0, 1), (1, 1), (2, 1)]) [.const (.int .i64 1), .const (.int .i64 1), .const (.int .i64 1)]⟩, ⟨some 5, none, .pur (.bld [.int .i64 0, .int .i64 0, .int .i64 0, .int .i64 0] [(0, 1), (1, 1), (2, 1)]) [.const (.int .i64 2), .const (.int .i64 1), .const (.int .i64 1)]⟩, ⟨some 6, none, .pur (.bld [.int .i64 0, .int .i64 0, .int .i64 0, .int .i64 0] [(0, 1), (1, 1), (2, 1), (3, 1)]) [.const (.int .i64 3), .const (.int .i64 1), .const (.int .i64 1), .const (.int .i64 3)]⟩, ⟨some 7, none, .pur (.bld [.int .i64 0, .int .i64 0, .int .i64 0, .int .i64 0] [(0, 1), (1, 1), (3, 1)]) [.const (.int .i64 2), .const (.int .i64 1), .const (.int .i64 3)]⟩, ⟨some 8, none, .pur (.bld [.int .i64 0, .int .i64 0, .int .i64 0, .int .i64 0] [(0, 1), (1, 1), (3, 1)]) [.const (.int .i64 4), .const (.int .i64 1), .const (.int .i64 3)]⟩, ⟨some 9, none, .pur (.bld [.int .i64 0, .int .i64 0, .int .i64 0, .int .i64 0] [(0, 1), (1, 1), (2, 1), (3, 1)]) [.const (.int .i64 2), .const (.int .i64 1), .const (.int .i64 1), .const (.int .i64 3)]⟩, ⟨some 10, none, .pur (.bld [.int .i64 0, .int .i64 0, .int .i64 0, .int .i64 0] [(0, 1), (1, 1), (2, 1), (3, 1)]) [.const (.int .i64 4), .const (.int .i64 1), .const (.int .i64 1), .const (.int .i64 3)]⟩, ⟨some 11, none, .pur (.bld [.int .i64 0, .int .i64 0, .int .i64 0, .int .i64 0] [(0, 1), (1, 1), (2, 1)]) [.const (.int .i64 5), .const (.int .i64 1), .const (.int .i64 2)]⟩, ⟨some 12, none, .eff (.bsl 28 4) [.tmp 1, .tmp 2, .tmp 3, .tmp 4, .tmp 5, .tmp 6, .tmp 7, .tmp 8, .tmp 9, .tmp 10, .tmp 11]⟩, ⟨some 0, none, .pur .mov [.tmp 12]⟩]) [0])
  (.ret))⟩
theorem K_forebaylaw34_right : compF Try.prog 50 = some S_forebaylaw34_right := by kernel_rfl

-- 51
def S_trace_loop_event : Fun := ⟨84, [4, 1, 0, 6, 3, 11, 18, 25, 5, 45, 50, 58, 65], [.tmp 4],
  .seq (.reg (straight [⟨some 3, none, .eff (.box 28) [.tmp 1]⟩, ⟨some 4, none, .pur .mov [.const (.int .i64 0)]⟩]) [3, 4])
  (.seq (.block 0 (.seq (.reg (straight [⟨some 7, none, .pur .mov [.tmp 0]⟩, ⟨some 8, none, .pur .nilc [.tmp 7]⟩, ⟨some 9, none, .pur (.fla 1) [.tmp 8]⟩, ⟨some 10, none, .ld none (.tmp 9)⟩, ⟨some 6, none, .pur .mov [.tmp 10]⟩]) [6])
  (.cond (.tmp 6) (.seq (.reg (straight [⟨some 4, none, .pur .mov [.const (.int .i64 8)]⟩]) [4])
  (.ret)) (.seq (.reg (straight [⟨some 12, none, .pur (.fla 0) [.tmp 3]⟩, ⟨some 13, none, .ld none (.tmp 12)⟩, ⟨some 14, none, .pur (.bin .eql) [.tmp 13, .const (.int .i64 1)]⟩, ⟨some 11, none, .pur .mov [.tmp 14]⟩]) [11])
  (.cond (.tmp 11) (.seq (.reg (straight [⟨some 15, none, .pur .mov [.tmp 0]⟩, ⟨some 16, none, .ld (some 4) (.tmp 3)⟩, ⟨some 17, none, .eff (.call 82) [.tmp 15, .tmp 16]⟩, ⟨some 4, none, .pur .mov [.tmp 17]⟩]) [4])
  (.ret)) (.seq (.reg (straight [⟨some 19, none, .pur (.fla 0) [.tmp 3]⟩, ⟨some 20, none, .ld none (.tmp 19)⟩, ⟨some 21, none, .pur (.bin .eql) [.tmp 20, .const (.int .i64 5)]⟩, ⟨some 18, none, .pur .mov [.tmp 21]⟩]) [18])
  (.cond (.tmp 18) (.seq (.reg (straight [⟨some 22, none, .pur .mov [.tmp 0]⟩, ⟨some 23, none, .ld (some 4) (.tmp 3)⟩, ⟨some 24, none, .eff (.call 83) [.tmp 22, .tmp 23]⟩, ⟨some 4, none, .pur .mov [.tmp 24]⟩]) [4])
  (.ret)) (.seq (.seq (.reg (straight [⟨some 26, none, .pur (.fla 2) [.tmp 3]⟩, ⟨some 27, none, .ld none (.tmp 26)⟩, ⟨some 28, none, .pur (.bin .lss) [.tmp 27, .const (.int .i64 0)]⟩, ⟨some 25, none, .pur .mov [.tmp 28]⟩]) [25])
  (.cond (.tmp 25) (.skip) (.reg (straight [⟨some 29, none, .pur (.fla 2) [.tmp 3]⟩, ⟨some 30, none, .ld none (.tmp 29)⟩, ⟨some 31, none, .pur .mov [.tmp 0]⟩, ⟨some 32, none, .pur .nilc [.tmp 31]⟩, ⟨some 33, none, .pur (.fla 0) [.tmp 32]⟩, ⟨some 34, none, .ld none (.tmp 33)⟩, ⟨some 35, none, .pur (.len false) [.tmp 34]⟩, ⟨some 36, none, .pur (.bin .geq) [.tmp 30, .tmp 35]⟩, ⟨some 25, none, .pur .mov [.tmp 36]⟩]) [25])))
  (.cond (.tmp 25) (.seq (.reg (straight [⟨some 4, none, .pur .mov [.const (.int .i64 7)]⟩]) [4])
  (.ret)) (.skip))))))))))
  (.seq (.reg (straight [⟨some 37, none, .pur .mov [.tmp 0]⟩, ⟨some 38, none, .pur .nilc [.tmp 37]⟩, ⟨some 39, none, .pur (.fla 0) [.tmp 38]⟩, ⟨some 40, none, .ld none (.tmp 39)⟩, ⟨some 41, none, .pur (.fla 2) [.tmp 3]⟩, ⟨some 42, none, .ld none (.tmp 41)⟩, ⟨some 43, none, .pur (.ixa 1) [.tmp 40, .tmp 42]⟩, ⟨some 44, none, .ld none (.tmp 43)⟩, ⟨some 5, none, .pur .mov [.tmp 44]⟩]) [5])
  (.seq (.block 1 (.seq (.reg (straight [⟨some 46, none, .pur .mov [.tmp 5]⟩, ⟨some 47, none, .pur .nilc [.tmp 46]⟩, ⟨some 48, none, .pur (.fla 4) [.tmp 47]⟩, ⟨some 49, none, .ld none (.tmp 48)⟩, ⟨some 45, none, .pur .mov [.tmp 49]⟩]) [45])
  (.cond (.tmp 45) (.seq (.reg (straight [⟨some 4, none, .pur .mov [.const (.int .i64 10)]⟩]) [4])
  (.ret)) (.seq (.reg (straight [⟨some 51, none, .pur (.fla 0) [.tmp 3]⟩, ⟨some 52, none, .ld none (.tmp 51)⟩, ⟨some 53, none, .pur (.bin .eql) [.tmp 52, .const (.int .i64 2)]⟩, ⟨some 50, none, .pur .mov [.tmp 53]⟩]) [50])
  (.cond (.tmp 50) (.seq (.reg (straight [⟨some 54, none, .pur .mov [.tmp 0]⟩, ⟨some 55, none, .pur .mov [.tmp 5]⟩, ⟨some 56, none, .ld (some 4) (.tmp 3)⟩, ⟨some 57, none, .eff (.call 84) [.tmp 54, .tmp 55, .tmp 56]⟩, ⟨some 4, none, .pur .mov [.tmp 57]⟩]) [4])
  (.ret)) (.seq (.reg (straight [⟨some 59, none, .pur (.fla 0) [.tmp 3]⟩, ⟨some 60, none, .ld none (.tmp 59)⟩, ⟨some 61, none, .pur (.bin .neq) [.tmp 60, .const (.int .i64 4)]⟩, ⟨some 58, none, .pur .mov [.tmp 61]⟩]) [58])
  (.cond (.tmp 58) (.seq (.reg (straight [⟨some 62, none, .pur .mov [.tmp 5]⟩, ⟨some 63, none, .ld (some 4) (.tmp 3)⟩, ⟨some 64, none, .eff (.call 85) [.tmp 62, .tmp 63]⟩, ⟨some 4, none, .pur .mov [.tmp 64]⟩]) [4])
  (.ret)) (.seq (.seq (.reg (straight [⟨some 66, none, .pur .mov [.tmp 5]⟩, ⟨some 67, none, .pur .nilc [.tmp 66]⟩, ⟨some 68, none, .pur (.fla 2) [.tmp 67]⟩, ⟨some 69, none, .ld none (.tmp 68)⟩, ⟨some 70, none, .pur .not [.tmp 69]⟩, ⟨some 65, none, .pur .mov [.tmp 70]⟩]) [65])
  (.cond (.tmp 65) (.skip) (.reg (straight [⟨some 71, none, .pur (.fla 3) [.tmp 3]⟩, ⟨some 72, none, .ld none (.tmp 71)⟩, ⟨some 73, none, .pur .mov [.tmp 5]⟩, ⟨some 74, none, .pur .nilc [.tmp 73]⟩, ⟨some 75, none, .pur (.fla 0) [.tmp 74]⟩, ⟨some 76, none, .ld none (.tmp 75)⟩, ⟨some 77, none, .pur (.bin .neq) [.tmp 72, .tmp 76]⟩, ⟨some 65, none, .pur .mov [.tmp 77]⟩]) [65])))
  (.cond (.tmp 65) (.seq (.reg (straight [⟨some 4, none, .pur .mov [.const (.int .i64 4)]⟩]) [4])
  (.ret)) (.skip))))))))))
  (.seq (.reg (straight [⟨some 78, none, .pur .mov [.tmp 5]⟩, ⟨some 79, none, .pur .mov [.tmp 5]⟩, ⟨some 80, none, .pur .nilc [.tmp 78]⟩, ⟨some 81, none, .pur (.fla 4) [.tmp 80]⟩, ⟨none, none, .eff (.st 1) [.tmp 81, .const (.bool true)]⟩, ⟨some 82, none, .pur .nilc [.tmp 79]⟩, ⟨some 83, none, .pur (.fla 3) [.tmp 82]⟩, ⟨none, none, .eff (.st 1) [.tmp 83, .const (.bool true)]⟩]) [])
  (.seq (.reg (straight [⟨some 4, none, .pur .mov [.const (.int .i64 0)]⟩]) [4])
  (.ret))))))⟩
theorem K_trace_loop_event : compF Try.prog 51 = some S_trace_loop_event := by kernel_rfl

-- 52
def S_forebayref34_one_L1 : SCode :=
  .seq (.seq (.reg (straight [⟨some 66, none, .pur .mov [.tmp 7]⟩, ⟨some 67, none, .pur .mov [.tmp 5]⟩, ⟨some 68, none, .pur (.bin .lss) [.tmp 66, .tmp 67]⟩]) [68])
  (.cond (.tmp 68) (.skip) (.exit 1)))
  (.seq (.block 2 (.seq (.reg (straight [⟨some 71, none, .pur .mov [.tmp 0]⟩, ⟨some 72, none, .pur (.fla 1) [.tmp 3]⟩, ⟨some 73, none, .ld none (.tmp 72)⟩, ⟨some 74, none, .pur .mov [.tmp 7]⟩, ⟨some 75, none, .eff (.call 87) [.tmp 71, .tmp 73, .tmp 74]⟩, ⟨some 76, none, .pur (.fld 5 none) [.tmp 75]⟩, ⟨some 77, none, .pur .not [.tmp 76]⟩]) [77])
  (.cond (.tmp 77) (.seq (.reg (straight [⟨some 4, none, .pur .mov [.const (.int .i64 4)]⟩]) [4])
  (.ret)) (.skip))))
  (.reg (straight [⟨some 69, none, .pur .mov [.tmp 7]⟩, ⟨some 70, none, .pur (.bin .add) [.tmp 69, .const (.int .i64 1)]⟩, ⟨some 7, none, .pur .mov [.tmp 70]⟩]) [7]))
def S_forebayref34_one : Fun := ⟨155, [4, 1, 3, 17, 0, 6, 25, 27, 28, 5, 38, 50, 51, 65, 7, 68, 77, 8, 86, 88, 90, 91, 101, 9, 127, 128, 139, 154], [.tmp 4],
  .seq (.reg (straight [⟨some 3, none, .eff (.box 28) [.tmp 1]⟩, ⟨some 4, none, .pur .mov [.const (.int .i64 0)]⟩]) [3, 4])
  (.seq (.seq (.reg (straight [⟨some 10, none, .pur (.fla 0) [.tmp 3]⟩, ⟨some 11, none, .ld none (.tmp 10)⟩, ⟨some 12, none, .pur (.bin .lss) [.tmp 11, .const (.int .i64 1)]⟩, ⟨some 13, none, .pur .mov [.tmp 12]⟩, ⟨some 14, some (13, false), .pur (.fla 0) [.tmp 3]⟩, ⟨some 15, some (13, false), .ld none (.tmp 14)⟩, ⟨some 16, some (13, false), .pur (.bin .gtr) [.tmp 15, .const (.int .i64 6)]⟩, ⟨some 17, none, .pur .pick [.tmp 13, .const (.bool true), .tmp 16]⟩]) [17])
  (.cond (.tmp 17) (.seq (.reg (straight [⟨some 4, none, .pur .mov [.const (.int .i64 5)]⟩]) [4])
  (.ret)) (.skip)))
  (.seq (.reg (straight [⟨some 19, none, .pur .mov [.tmp 0]⟩, ⟨some 20, none, .pur (.fla 1) [.tmp 3]⟩, ⟨some 21, none, .ld none (.tmp 20)⟩, ⟨some 22, none, .eff (.call 86) [.tmp 19, .tmp 21]⟩, ⟨some 18, none, .pur .mov [.tmp 22]⟩, ⟨some 23, none, .pur (.ext 0) [.tmp 18]⟩, ⟨some 24, none, .pur (.ext 1) [.tmp 18]⟩, ⟨some 5, none, .pur .mov [.tmp 23]⟩, ⟨some 6, none, .pur .mov [.tmp 24]⟩]) [5, 6])
  (.seq (.seq (.reg (straight [⟨some 25, none, .pur .mov [.tmp 6]⟩]) [25])
  (.cond (.tmp 25) (.seq (.reg (straight [⟨some 4, none, .pur .mov [.const (.int .i64 8)]⟩]) [4])
  (.ret)) (.skip)))
  (.seq (.seq (.reg (straight [⟨some 26, none, .pur (.fla 0) [.tmp 3]⟩, ⟨some 27, none, .ld none (.tmp 26)⟩]) [27])
  (.block 0 (.seq (.reg (straight [⟨some 29, none, .pur (.bin .eql) [.tmp 27, .const (.int .i64 1)]⟩, ⟨some 28, none, .pur .mov [.tmp 29]⟩]) [28])
  (.cond (.tmp 28) (.seq (.seq (.reg (straight [⟨some 30, none, .pur (.fla 2) [.tmp 3]⟩, ⟨some 31, none, .ld none (.tmp 30)⟩, ⟨some 32, none, .pur .mov [.tmp 5]⟩, ⟨some 33, none, .pur (.bin .neq) [.tmp 31, .tmp 32]⟩, ⟨some 34, none, .pur .mov [.tmp 33]⟩, ⟨some 35, some (34, false), .pur (.fla 3) [.tmp 3]⟩, ⟨some 36, some (34, false), .ld none (.tmp 35)⟩, ⟨some 37, some (34, false), .pur (.bin .neq) [.tmp 36, .const (.int .i64 0)]⟩, ⟨some 38, none, .pur .pick [.tmp 34, .const (.bool true), .tmp 37]⟩]) [38])
  (.cond (.tmp 38) (.seq (.reg (straight [⟨some 4, none, .pur .mov [.const (.int .i64 4)]⟩]) [4])
  (.ret)) (.skip)))
  (.seq (.seq (.reg (straight [⟨some 39, none, .pur .mov [.tmp 5]⟩, ⟨some 40, none, .pur (.bin .gtr) [.tmp 39, .const (.int .i64 0)]⟩, ⟨some 41, none, .pur .mov [.tmp 40]⟩, ⟨some 42, some (41, true), .pur .mov [.tmp 0]⟩, ⟨some 43, some (41, true), .pur (.fla 1) [.tmp 3]⟩, ⟨some 44, some (41, true), .ld none (.tmp 43)⟩, ⟨some 45, some (41, true), .pur .mov [.tmp 5]⟩, ⟨some 46, some (41, true), .pur (.bin .sub) [.tmp 45, .const (.int .i64 1)]⟩, ⟨some 47, some (41, true), .eff (.call 87) [.tmp 42, .tmp 44, .tmp 46]⟩, ⟨some 48, some (41, true), .pur (.fld 4 none) [.tmp 47]⟩, ⟨some 49, some (41, true), .pur .not [.tmp 48]⟩, ⟨some 50, none, .pur .pick [.tmp 41, .tmp 49, .const (.bool false)]⟩]) [50])
  (.cond (.tmp 50) (.seq (.reg (straight [⟨some 4, none, .pur .mov [.const (.int .i64 1)]⟩]) [4])
  (.ret)) (.skip)))
  (.seq (.reg (straight [⟨some 4, none, .pur .mov [.const (.int .i64 0)]⟩]) [4])
  (.ret)))) (.seq (.reg (straight [⟨some 52, none, .pur (.bin .eql) [.tmp 27, .const (.int .i64 5)]⟩, ⟨some 51, none, .pur .mov [.tmp 52]⟩]) [51])
  (.cond (.tmp 51) (.seq (.seq (.reg (straight [⟨some 53, none, .pur (.fla 2) [.tmp 3]⟩, ⟨some 54, none, .ld none (.tmp 53)⟩, ⟨some 55, none, .pur .mov [.tmp 5]⟩, ⟨some 56, none, .pur (.bin .neq) [.tmp 54, .tmp 55]⟩, ⟨some 57, none, .pur .mov [.tmp 56]⟩, ⟨some 58, some (57, false), .pur .mov [.tmp 5]⟩, ⟨some 59, some (57, false), .pur (.bin .eql) [.tmp 58, .const (.int .i64 0)]⟩, ⟨some 60, none, .pur .pick [.tmp 57, .const (.bool true), .tmp 59]⟩, ⟨some 61, none, .pur .mov [.tmp 60]⟩, ⟨some 62, some (61, false), .pur (.fla 3) [.tmp 3]⟩, ⟨some 63, some (61, false), .ld none (.tmp 62)⟩, ⟨some 64, some (61, false), .pur (.bin .neq) [.tmp 63, .const (.int .i64 0)]⟩, ⟨some 65, none, .pur .pick [.tmp 61, .const (.bool true), .tmp 64]⟩]) [65])
  (.cond (.tmp 65) (.seq (.reg (straight [⟨some 4, none, .pur .mov [.const (.int .i64 4)]⟩]) [4])
  (.ret)) (.skip)))
  (.seq (.seq (.reg (straight [⟨some 7, none, .pur .mov [.const (.int .i64 0)]⟩]) [7])
  (.block 1 (.loop S_forebayref34_one_L1)))
  (.seq (.reg (straight [⟨some 4, none, .pur .mov [.const (.int .i64 0)]⟩]) [4])
  (.ret)))) (.skip)))))))
  (.seq (.reg (straight [⟨some 78, none, .pur .mov [.tmp 0]⟩, ⟨some 79, none, .pur (.fla 1) [.tmp 3]⟩, ⟨some 80, none, .ld none (.tmp 79)⟩, ⟨some 81, none, .pur (.fla 2) [.tmp 3]⟩, ⟨some 82, none, .ld none (.tmp 81)⟩, ⟨some 83, none, .eff (.call 87) [.tmp 78, .tmp 80, .tmp 82]⟩, ⟨some 8, none, .eff (.new 157 [.bool false, .int .i64 0, .bool false, .bool false, .bool false, .bool false]) []⟩, ⟨none, none, .eff (.st 6) [.tmp 8, .tmp 83]⟩]) [8])
  (.seq (.seq (.reg (straight [⟨some 84, none, .pur (.fla 0) [.tmp 8]⟩, ⟨some 85, none, .ld none (.tmp 84)⟩, ⟨some 86, none, .pur .not [.tmp 85]⟩]) [86])
  (.cond (.tmp 86) (.seq (.reg (straight [⟨some 4, none, .pur .mov [.const (.int .i64 7)]⟩]) [4])
  (.ret)) (.skip)))
  (.seq (.seq (.reg (straight [⟨some 87, none, .pur (.fla 5) [.tmp 8]⟩, ⟨some 88, none, .ld none (.tmp 87)⟩]) [88])
  (.cond (.tmp 88) (.seq (.reg (straight [⟨some 4, none, .pur .mov [.const (.int .i64 10)]⟩]) [4])
  (.ret)) (.skip)))
  (.seq (.seq (.reg (straight [⟨some 89, none, .pur (.fla 0) [.tmp 3]⟩, ⟨some 90, none, .ld none (.tmp 89)⟩]) [90])
  (.block 3 (.seq (.reg (straight [⟨some 92, none, .pur (.bin .eql) [.tmp 90, .const (.int .i64 2)]⟩, ⟨some 91, none, .pur .mov [.tmp 92]⟩]) [91])
  (.cond (.tmp 91) (.seq (.seq (.reg (straight [⟨some 93, none, .pur (.fla 3) [.tmp 3]⟩, ⟨some 94, none, .ld none (.tmp 93)⟩, ⟨some 95, none, .pur (.fla 1) [.tmp 8]⟩, ⟨some 96, none, .ld none (.tmp 95)⟩, ⟨some 97, none, .pur (.bin .neq) [.tmp 94, .tmp 96]⟩, ⟨some 98, none, .pur .mov [.tmp 97]⟩, ⟨some 99, some (98, false), .pur (.fla 3) [.tmp 8]⟩, ⟨some 100, some (98, false), .ld none (.tmp 99)⟩, ⟨some 101, none, .pur .pick [.tmp 98, .const (.bool true), .tmp 100]⟩]) [101])
  (.cond (.tmp 101) (.seq (.reg (straight [⟨some 4, none, .pur .mov [.const (.int .i64 4)]⟩]) [4])
  (.ret)) (.skip)))
  (.seq (.reg (straight [⟨some 102, none, .pur .mov [.tmp 0]⟩, ⟨some 103, none, .pur (.fla 1) [.tmp 3]⟩, ⟨some 104, none, .ld none (.tmp 103)⟩, ⟨some 105, none, .pur (.fla 2) [.tmp 3]⟩, ⟨some 106, none, .ld none (.tmp 105)⟩, ⟨some 107, none, .pur (.bin .sub) [.tmp 106, .const (.int .i64 1)]⟩, ⟨some 108, none, .eff (.call 87) [.tmp 102, .tmp 104, .tmp 107]⟩, ⟨some 9, none, .eff (.new 157 [.bool false, .int .i64 0, .bool false, .bool false, .bool false, .bool false]) []⟩, ⟨none, none, .eff (.st 6) [.tmp 9, .tmp 108]⟩]) [9])
  (.seq (.seq (.reg (straight [⟨some 109, none, .pur (.fla 2) [.tmp 8]⟩, ⟨some 110, none, .ld none (.tmp 109)⟩, ⟨some 111, none, .pur .mov [.tmp 110]⟩, ⟨some 112, some (111, true), .pur (.fla 2) [.tmp 3]⟩, ⟨some 113, some (111, true), .ld none (.tmp 112)⟩, ⟨some 114, some (111, true), .pur (.bin .gtr) [.tmp 113, .const (.int .i64 0)]⟩, ⟨some 115, none, .pur .pick [.tmp 111, .tmp 114, .const (.bool false)]⟩, ⟨some 116, none, .pur .mov [.tmp 115]⟩, ⟨some 117, some (116, true), .pur (.fla 5) [.tmp 9]⟩, ⟨some 118, some (116, true), .ld none (.tmp 117)⟩, ⟨some 119, some (116, true), .pur .not [.tmp 118]⟩, ⟨some 120, none, .pur .pick [.tmp 116, .tmp 119, .const (.bool false)]⟩, ⟨some 121, none, .pur .mov [.tmp 120]⟩, ⟨some 122, some (121, true), .pur (.fla 1) [.tmp 9]⟩, ⟨some 123, some (121, true), .ld none (.tmp 122)⟩, ⟨some 124, some (121, true), .pur (.fla 3) [.tmp 3]⟩, ⟨some 125, some (121, true), .ld none (.tmp 124)⟩, ⟨some 126, some (121, true), .pur (.bin .leq) [.tmp 123, .tmp 125]⟩, ⟨some 127, none, .pur .pick [.tmp 121, .tmp 126, .const (.bool false)]⟩]) [127])
  (.cond (.tmp 127) (.seq (.reg (straight [⟨some 4, none, .pur .mov [.const (.int .i64 1)]⟩]) [4])
  (.ret)) (.skip)))
  (.seq (.reg (straight [⟨some 4, none, .pur .mov [.const (.int .i64 0)]⟩]) [4])
  (.ret))))) (.seq (.reg (straight [⟨some 129, none, .pur (.bin .eql) [.tmp 90, .const (.int .i64 4)]⟩, ⟨some 128, none, .pur .mov [.tmp 129]⟩]) [128])
  (.cond (.tmp 128) (.seq (.seq (.reg (straight [⟨some 130, none, .pur (.fla 3) [.tmp 8]⟩, ⟨some 131, none, .ld none (.tmp 130)⟩, ⟨some 132, none, .pur .not [.tmp 131]⟩, ⟨some 133, none, .pur .mov [.tmp 132]⟩, ⟨some 134, some (133, false), .pur (.fla 3) [.tmp 3]⟩, ⟨some 135, some (133, false), .ld none (.tmp 134)⟩, ⟨some 136, some (133, false), .pur (.fla 1) [.tmp 8]⟩, ⟨some 137, some (133, false), .ld none (.tmp 136)⟩, ⟨some 138, some (133, false), .pur (.bin .neq) [.tmp 135, .tmp 137]⟩, ⟨some 139, none, .pur .pick [.tmp 133, .const (.bool true), .tmp 138]⟩]) [139])
  (.cond (.tmp 139) (.seq (.reg (straight [⟨some 4, none, .pur .mov [.const (.int .i64 4)]⟩]) [4])
  (.ret)) (.skip)))
  (.seq (.reg (straight [⟨some 4, none, .pur .mov [.const (.int .i64 0)]⟩]) [4])
  (.ret))) (.skip)))))))
  (.seq (.seq (.reg (straight [⟨some 140, none, .pur (.fla 3) [.tmp 8]⟩, ⟨some 141, none, .ld none (.tmp 140)⟩, ⟨some 142, none, .pur .not [.tmp 141]⟩, ⟨some 143, none, .pur .mov [.tmp 142]⟩, ⟨some 144, some (143, false), .pur (.fla 3) [.tmp 3]⟩, ⟨some 145, some (143, false), .ld none (.tmp 144)⟩, ⟨some 146, some (143, false), .pur (.fla 1) [.tmp 8]⟩, ⟨some 147, some (143, false), .ld none (.tmp 146)⟩, ⟨some 148, some (143, false), .pur (.bin .leq) [.tmp 145, .tmp 147]⟩, ⟨some 149, none, .pur .pick [.tmp 143, .const (.bool true), .tmp 148]⟩, ⟨some 150, none, .pur .mov [.tmp 149]⟩, ⟨some 151, some (150, false), .pur (.fla 3) [.tmp 3]⟩, ⟨some 152, some (150, false), .ld none (.tmp 151)⟩, ⟨some 153, some (150, false), .pur (.bin .gtr) [.tmp 152, .const (.int .i64 1048575)]⟩, ⟨some 154, none, .pur .pick [.tmp 150, .const (.bool true), .tmp 153]⟩]) [154])
  (.cond (.tmp 154) (.seq (.reg (straight [⟨some 4, none, .pur .mov [.const (.int .i64 4)]⟩]) [4])
  (.ret)) (.skip)))
  (.seq (.reg (straight [⟨some 4, none, .pur .mov [.const (.int .i64 0)]⟩]) [4])
  (.ret)))))))))))⟩
theorem K_forebayref34_one : compF Try.prog 52 = some S_forebayref34_one := by kernel_rfl

-- 53
def S_trace_of_L1 : SCode :=
  .seq (.reg (straight [⟨some 10, none, .pur (.bin .lss) [.tmp 9, .tmp 8]⟩]) [10])
  (.seq (.cond (.tmp 10) (.skip) (.exit 0))
  (.seq (.block 1 (.seq (.reg (straight [⟨some 11, none, .pur (.ixa 4) [.tmp 7, .tmp 9]⟩, ⟨some 12, none, .ld (some 4) (.tmp 11)⟩, ⟨some 5, none, .eff (.new 28 [.int .i64 0, .int .i64 0, .int .i64 0, .int .i64 0]) []⟩, ⟨none, none, .eff (.st 4) [.tmp 5, .tmp 12]⟩]) [5])
  (.reg (straight [⟨some 13, none, .pur .mov [.tmp 3]⟩, ⟨some 14, none, .ld (some 4) (.tmp 5)⟩, ⟨some 15, none, .eff (.call 11) [.tmp 13, .tmp 14]⟩]) [])))
  (.reg (straight [⟨some 16, none, .pur (.bin .add) [.tmp 9, .const (.int .i64 1)]⟩, ⟨some 9, none, .pur .mov [.tmp 16]⟩]) [9])))
def S_trace_of : Fun := ⟨18, [2, 0, 9, 8, 10, 7, 3, 5], [.tmp 2],
  .seq (.reg (straight [⟨some 2, none, .pur .mov [.const (.pointer none)]⟩]) [2])
  (.seq (.reg (straight [⟨some 6, none, .eff (.call 10) []⟩, ⟨some 3, none, .pur .mov [.tmp 6]⟩]) [3])
  (.seq (.seq (.reg (straight [⟨some 7, none, .pur .mov [.tmp 0]⟩, ⟨some 8, none, .pur (.len false) [.tmp 7]⟩, ⟨some 9, none, .pur .mov [.const (.int .i64 0)]⟩]) [7, 8, 9])
  (.block 0 (.loop S_trace_of_L1)))
  (.seq (.reg (straight [⟨some 17, none, .pur .mov [.tmp 3]⟩, ⟨some 2, none, .pur .mov [.tmp 17]⟩]) [2])
  (.ret))))⟩
theorem K_trace_of : compF Try.prog 53 = some S_trace_of := by kernel_rfl

-- 54
def S_forebayref34_held : Fun := ⟨6, [2, 0], [.tmp 2],
  .seq (.reg (straight [⟨some 2, none, .pur .mov [.const (.int .i64 0)]⟩]) [2])
  (.seq (.reg (straight [⟨some 3, none, .pur .mov [.tmp 0]⟩, ⟨some 4, none, .pur (.minmax true) [.tmp 3, .const (.int .i64 0)]⟩, ⟨some 5, none, .pur (.minmax false) [.tmp 4, .const (.int .i64 1048576)]⟩, ⟨some 2, none, .pur .mov [.tmp 5]⟩]) [2])
  (.ret))⟩
theorem K_forebayref34_held : compF Try.prog 54 = some S_forebayref34_held := by kernel_rfl

-- 57
def S_forebayref34_first_L1 : SCode :=
  .seq (.seq (.reg (straight [⟨some 6, none, .pur .mov [.tmp 5]⟩, ⟨some 7, none, .pur .mov [.tmp 0]⟩, ⟨some 8, none, .pur (.len false) [.tmp 7]⟩, ⟨some 9, none, .pur (.bin .lss) [.tmp 6, .tmp 8]⟩]) [9])
  (.cond (.tmp 9) (.skip) (.exit 0)))
  (.seq (.block 1 (.seq (.reg (straight [⟨some 12, none, .pur .mov [.tmp 0]⟩, ⟨some 13, none, .pur .mov [.tmp 5]⟩, ⟨some 14, none, .pur (.ixa 2) [.tmp 12, .tmp 13]⟩, ⟨some 15, none, .ld (some 2) (.tmp 14)⟩, ⟨some 16, none, .ld (some 2) (.tmp 3)⟩, ⟨some 17, none, .pur (.eqs false [.int .i64, .int .i64]) [.tmp 15, .tmp 16]⟩]) [17])
  (.cond (.tmp 17) (.seq (.reg (straight [⟨some 18, none, .pur .mov [.tmp 5]⟩, ⟨some 4, none, .pur .mov [.tmp 18]⟩]) [4])
  (.ret)) (.skip))))
  (.reg (straight [⟨some 10, none, .pur .mov [.tmp 5]⟩, ⟨some 11, none, .pur (.bin .add) [.tmp 10, .const (.int .i64 1)]⟩, ⟨some 5, none, .pur .mov [.tmp 11]⟩]) [5]))
def S_forebayref34_first : Fun := ⟨19, [4, 1, 5, 0, 9, 3, 17], [.tmp 4],
  .seq (.reg (straight [⟨some 3, none, .eff (.box 50) [.tmp 1]⟩, ⟨some 4, none, .pur .mov [.const (.int .i64 0)]⟩]) [3, 4])
  (.seq (.seq (.reg (straight [⟨some 5, none, .pur .mov [.const (.int .i64 0)]⟩]) [5])
  (.block 0 (.loop S_forebayref34_first_L1)))
  (.seq (.reg (straight [⟨some 4, none, .pur .mov [.const (.int .i64 (-1))]⟩]) [4])
  (.ret)))⟩
theorem K_forebayref34_first : compF Try.prog 57 = some S_forebayref34_first := by kernel_rfl

-- 82
def S_trace_loop_start : Fun := ⟨47, [4, 1, 0, 3, 5, 11, 19], [.tmp 4],
  .seq (.reg (straight [⟨some 3, none, .eff (.box 28) [.tmp 1]⟩, ⟨some 4, none, .pur .mov [.const (.int .i64 0)]⟩]) [3, 4])
  (.seq (.reg (straight [⟨some 6, none, .pur .mov [.tmp 0]⟩, ⟨some 7, none, .pur .nilc [.tmp 6]⟩, ⟨some 8, none, .pur (.fla 0) [.tmp 7]⟩, ⟨some 9, none, .ld none (.tmp 8)⟩, ⟨some 10, none, .pur (.len false) [.tmp 9]⟩, ⟨some 5, none, .pur .mov [.tmp 10]⟩]) [5])
  (.seq (.block 0 (.seq (.seq (.reg (straight [⟨some 12, none, .pur (.fla 2) [.tmp 3]⟩, ⟨some 13, none, .ld none (.tmp 12)⟩, ⟨some 14, none, .pur .mov [.tmp 5]⟩, ⟨some 15, none, .pur (.bin .neq) [.tmp 13, .tmp 14]⟩, ⟨some 11, none, .pur .mov [.tmp 15]⟩]) [11])
  (.cond (.tmp 11) (.skip) (.reg (straight [⟨some 16, none, .pur (.fla 3) [.tmp 3]⟩, ⟨some 17, none, .ld none (.tmp 16)⟩, ⟨some 18, none, .pur (.bin .neq) [.tmp 17, .const (.int .i64 0)]⟩, ⟨some 11, none, .pur .mov [.tmp 18]⟩]) [11])))
  (.cond (.tmp 11) (.seq (.reg (straight [⟨some 4, none, .pur .mov [.const (.int .i64 4)]⟩]) [4])
  (.ret)) (.seq (.reg (straight [⟨some 20, none, .pur .mov [.tmp 5]⟩, ⟨some 21, none, .pur (.bin .gtr) [.tmp 20, .const (.int .i64 0)]⟩, ⟨some 22, none, .pur .mov [.tmp 21]⟩, ⟨some 23, some (22, true), .pur .mov [.tmp 0]⟩, ⟨some 24, some (22, true), .pur .nilc [.tmp 23]⟩, ⟨some 25, some (22, true), .pur (.fla 0) [.tmp 24]⟩, ⟨some 26, some (22, true), .ld none (.tmp 25)⟩, ⟨some 27, some (22, true), .pur .mov [.tmp 5]⟩, ⟨some 28, some (22, true), .pur (.bin .sub) [.tmp 27, .const (.int .i64 1)]⟩, ⟨some 29, some (22, true), .pur (.ixa 1) [.tmp 26, .tmp 28]⟩, ⟨some 30, some (22, true), .ld none (.tmp 29)⟩, ⟨some 31, some (22, true), .pur .nilc [.tmp 30]⟩, ⟨some 32, some (22, true), .pur (.fla 3) [.tmp 31]⟩, ⟨some 33, some (22, true), .ld none (.tmp 32)⟩, ⟨some 34, some (22, true), .pur .not [.tmp 33]⟩, ⟨some 35, none, .pur .pick [.tmp 22, .tmp 34, .const (.bool false)]⟩, ⟨some 19, none, .pur .mov [.tmp 35]⟩]) [19])
  (.cond (.tmp 19) (.seq (.reg (straight [⟨some 4, none, .pur .mov [.const (.int .i64 1)]⟩]) [4])
  (.ret)) (.skip))))))
  (.seq (.reg (straight [⟨some 36, none, .pur .mov [.tmp 0]⟩, ⟨some 37, none, .pur .mov [.tmp 0]⟩, ⟨some 38, none, .pur .nilc [.tmp 37]⟩, ⟨some 39, none, .pur (.fla 0) [.tmp 38]⟩, ⟨some 40, none, .ld none (.tmp 39)⟩, ⟨some 41, none, .pur (.bld [.int .i64 0, .bool false, .bool false, .bool false, .bool false] []) []⟩, ⟨some 42, none, .eff (.box 152) [.tmp 41]⟩, ⟨some 43, none, .eff (.bsl 150 1) [.tmp 42]⟩, ⟨some 44, none, .eff (.app 150 1 8 [.pointer none]) [.tmp 40, .tmp 43]⟩, ⟨some 45, none, .pur .nilc [.tmp 36]⟩, ⟨some 46, none, .pur (.fla 0) [.tmp 45]⟩, ⟨none, none, .eff (.st 1) [.tmp 46, .tmp 44]⟩]) [])
  (.seq (.reg (straight [⟨some 4, none, .pur .mov [.const (.int .i64 0)]⟩]) [4])
  (.ret)))))⟩
theorem K_trace_loop_start : compF Try.prog 82 = some S_trace_loop_start := by kernel_rfl

-- 83
def S_trace_loop_end_L1 : SCode :=
  .seq (.reg (straight [⟨some 34, none, .pur (.bin .lss) [.tmp 33, .tmp 32]⟩]) [34])
  (.seq (.cond (.tmp 34) (.skip) (.exit 0))
  (.seq (.block 1 (.seq (.reg (straight [⟨some 35, none, .pur (.ixa 1) [.tmp 31, .tmp 33]⟩, ⟨some 36, none, .ld none (.tmp 35)⟩, ⟨some 6, none, .pur .mov [.tmp 36]⟩]) [6])
  (.seq (.reg (straight [⟨some 37, none, .pur .mov [.tmp 6]⟩, ⟨some 38, none, .pur .nilc [.tmp 37]⟩, ⟨some 39, none, .pur (.fla 4) [.tmp 38]⟩, ⟨some 40, none, .ld none (.tmp 39)⟩, ⟨some 41, none, .pur .not [.tmp 40]⟩]) [41])
  (.cond (.tmp 41) (.seq (.reg (straight [⟨some 4, none, .pur .mov [.const (.int .i64 4)]⟩]) [4])
  (.ret)) (.skip)))))
  (.reg (straight [⟨some 42, none, .pur (.bin .add) [.tmp 33, .const (.int .i64 1)]⟩, ⟨some 33, none, .pur .mov [.tmp 42]⟩]) [33])))
def S_trace_loop_end : Fun := ⟨46, [4, 1, 3, 0, 27, 33, 32, 34, 31, 6, 41], [.tmp 4],
  .seq (.reg (straight [⟨some 3, none, .eff (.box 28) [.tmp 1]⟩, ⟨some 4, none, .pur .mov [.const (.int .i64 0)]⟩]) [3, 4])
  (.seq (.seq (.reg (straight [⟨some 7, none, .pur (.fla 2) [.tmp 3]⟩, ⟨some 8, none, .ld none (.tmp 7)⟩, ⟨some 9, none, .pur .mov [.tmp 0]⟩, ⟨some 10, none, .pur .nilc [.tmp 9]⟩, ⟨some 11, none, .pur (.fla 0) [.tmp 10]⟩, ⟨some 12, none, .ld none (.tmp 11)⟩, ⟨some 13, none, .pur (.len false) [.tmp 12]⟩, ⟨some 14, none, .pur (.bin .neq) [.tmp 8, .tmp 13]⟩, ⟨some 15, none, .pur .mov [.tmp 14]⟩, ⟨some 16, some (15, false), .pur .mov [.tmp 0]⟩, ⟨some 17, some (15, false), .pur .nilc [.tmp 16]⟩, ⟨some 18, some (15, false), .pur (.fla 0) [.tmp 17]⟩, ⟨some 19, some (15, false), .ld none (.tmp 18)⟩, ⟨some 20, some (15, false), .pur (.len false) [.tmp 19]⟩, ⟨some 21, some (15, false), .pur (.bin .eql) [.tmp 20, .const (.int .i64 0)]⟩, ⟨some 22, none, .pur .pick [.tmp 15, .const (.bool true), .tmp 21]⟩, ⟨some 23, none, .pur .mov [.tmp 22]⟩, ⟨some 24, some (23, false), .pur (.fla 3) [.tmp 3]⟩, ⟨some 25, some (23, false), .ld none (.tmp 24)⟩, ⟨some 26, some (23, false), .pur (.bin .neq) [.tmp 25, .const (.int .i64 0)]⟩, ⟨some 27, none, .pur .pick [.tmp 23, .const (.bool true), .tmp 26]⟩]) [27])
  (.cond (.tmp 27) (.seq (.reg (straight [⟨some 4, none, .pur .mov [.const (.int .i64 4)]⟩]) [4])
  (.ret)) (.skip)))
  (.seq (.seq (.reg (straight [⟨some 28, none, .pur .mov [.tmp 0]⟩, ⟨some 29, none, .pur .nilc [.tmp 28]⟩, ⟨some 30, none, .pur (.fla 0) [.tmp 29]⟩, ⟨some 31, none, .ld none (.tmp 30)⟩, ⟨some 32, none, .pur (.len false) [.tmp 31]⟩, ⟨some 33, none, .pur .mov [.const (.int .i64 0)]⟩]) [31, 32, 33])
  (.block 0 (.loop S_trace_loop_end_L1)))
  (.seq (.reg (straight [⟨some 43, none, .pur .mov [.tmp 0]⟩, ⟨some 44, none, .pur .nilc [.tmp 43]⟩, ⟨some 45, none, .pur (.fla 1) [.tmp 44]⟩, ⟨none, none, .eff (.st 1) [.tmp 45, .const (.bool true)]⟩]) [])
  (.seq (.reg (straight [⟨some 4, none, .pur .mov [.const (.int .i64 0)]⟩]) [4])
  (.ret)))))⟩
theorem K_trace_loop_end : compF Try.prog 83 = some S_trace_loop_end := by kernel_rfl

-- 84
def S_trace_loop_begin : Fun := ⟨36, [6, 2, 5, 1, 7, 0, 19], [.tmp 6],
  .seq (.reg (straight [⟨some 5, none, .eff (.box 28) [.tmp 2]⟩, ⟨some 6, none, .pur .mov [.const (.int .i64 0)]⟩]) [5, 6])
  (.seq (.block 0 (.seq (.seq (.reg (straight [⟨some 8, none, .pur (.fla 3) [.tmp 5]⟩, ⟨some 9, none, .ld none (.tmp 8)⟩, ⟨some 10, none, .pur .mov [.tmp 1]⟩, ⟨some 11, none, .pur .nilc [.tmp 10]⟩, ⟨some 12, none, .pur (.fla 0) [.tmp 11]⟩, ⟨some 13, none, .ld none (.tmp 12)⟩, ⟨some 14, none, .pur (.bin .neq) [.tmp 9, .tmp 13]⟩, ⟨some 7, none, .pur .mov [.tmp 14]⟩]) [7])
  (.cond (.tmp 7) (.skip) (.reg (straight [⟨some 15, none, .pur .mov [.tmp 1]⟩, ⟨some 16, none, .pur .nilc [.tmp 15]⟩, ⟨some 17, none, .pur (.fla 2) [.tmp 16]⟩, ⟨some 18, none, .ld none (.tmp 17)⟩, ⟨some 7, none, .pur .mov [.tmp 18]⟩]) [7])))
  (.cond (.tmp 7) (.seq (.reg (straight [⟨some 6, none, .pur .mov [.const (.int .i64 4)]⟩]) [6])
  (.ret)) (.seq (.reg (straight [⟨some 20, none, .pur .mov [.tmp 1]⟩, ⟨some 21, none, .pur .nilc [.tmp 20]⟩, ⟨some 22, none, .pur (.fla 1) [.tmp 21]⟩, ⟨some 23, none, .ld none (.tmp 22)⟩, ⟨some 24, none, .pur .mov [.tmp 23]⟩, ⟨some 25, some (24, true), .pur .mov [.tmp 0]⟩, ⟨some 26, some (24, true), .pur (.fla 2) [.tmp 5]⟩, ⟨some 27, some (24, true), .ld none (.tmp 26)⟩, ⟨some 28, some (24, true), .pur (.fla 3) [.tmp 5]⟩, ⟨some 29, some (24, true), .ld none (.tmp 28)⟩, ⟨some 30, some (24, true), .eff (.call 112) [.tmp 25, .tmp 27, .tmp 29]⟩, ⟨some 31, some (24, true), .pur .not [.tmp 30]⟩, ⟨some 32, none, .pur .pick [.tmp 24, .tmp 31, .const (.bool false)]⟩, ⟨some 19, none, .pur .mov [.tmp 32]⟩]) [19])
  (.cond (.tmp 19) (.seq (.reg (straight [⟨some 6, none, .pur .mov [.const (.int .i64 1)]⟩]) [6])
  (.ret)) (.skip))))))
  (.seq (.reg (straight [⟨some 33, none, .pur .mov [.tmp 1]⟩, ⟨some 34, none, .pur .nilc [.tmp 33]⟩, ⟨some 35, none, .pur (.fla 2) [.tmp 34]⟩, ⟨none, none, .eff (.st 1) [.tmp 35, .const (.bool true)]⟩]) [])
  (.seq (.reg (straight [⟨some 6, none, .pur .mov [.const (.int .i64 0)]⟩]) [6])
  (.ret))))⟩
theorem K_trace_loop_begin : compF Try.prog 84 = some S_trace_loop_begin := by kernel_rfl

-- 85
def S_trace_iter_goOn : Fun := ⟨41, [4, 1, 0, 3, 23], [.tmp 4],
  .seq (.reg (straight [⟨some 3, none, .eff (.box 28) [.tmp 1]⟩, ⟨some 4, none, .pur .mov [.const (.int .i64 0)]⟩]) [3, 4])
  (.seq (.seq (.reg (straight [⟨some 5, none, .pur .mov [.tmp 0]⟩, ⟨some 6, none, .pur .nilc [.tmp 5]⟩, ⟨some 7, none, .pur (.fla 2) [.tmp 6]⟩, ⟨some 8, none, .ld none (.tmp 7)⟩, ⟨some 9, none, .pur .not [.tmp 8]⟩, ⟨some 10, none, .pur .mov [.tmp 9]⟩, ⟨some 11, some (10, false), .pur (.fla 3) [.tmp 3]⟩, ⟨some 12, some (10, false), .ld none (.tmp 11)⟩, ⟨some 13, some (10, false), .pur .mov [.tmp 0]⟩, ⟨some 14, some (10, false), .pur .nilc [.tmp 13]⟩, ⟨some 15, some (10, false), .pur (.fla 0) [.tmp 14]⟩, ⟨some 16, some (10, false), .ld none (.tmp 15)⟩, ⟨some 17, some (10, false), .pur (.bin .leq) [.tmp 12, .tmp 16]⟩, ⟨some 18, none, .pur .pick [.tmp 10, .const (.bool true), .tmp 17]⟩, ⟨some 19, none, .pur .mov [.tmp 18]⟩, ⟨some 20, some (19, false), .pur (.fla 3) [.tmp 3]⟩, ⟨some 21, some (19, false), .ld none (.tmp 20)⟩, ⟨some 22, some (19, false), .pur (.bin .gtr) [.tmp 21, .const (.int .i64 1048575)]⟩, ⟨some 23, none, .pur .pick [.tmp 19, .const (.bool true), .tmp 22]⟩]) [23])
  (.cond (.tmp 23) (.seq (.reg (straight [⟨some 4, none, .pur .mov [.const (.int .i64 4)]⟩]) [4])
  (.ret)) (.skip)))
  (.seq (.reg (.run ⟨some 24, none, .pur .mov [.tmp 0]⟩ (.run ⟨some 25, none, .pur .mov [.tmp 0]⟩ (.run ⟨some 26, none, .pur .mov [.tmp 0]⟩ (.run ⟨some 27, none, .pur .mov [.tmp 0]⟩ (.run ⟨some 28, none, .pur (.fla 3) [.tmp 3]⟩ (.run ⟨some 29, none, .ld none (.tmp 28)⟩ (.run ⟨some 30, none, .pur (.fla 0) [.tmp 3]⟩ (.run ⟨some 31, none, .ld none (.tmp 30)⟩ (.run ⟨some 32, none, .pur (.bin .eql) [.tmp 31, .const (.int .i64 3)]⟩ (.run ⟨some 33, none, .pur .nilc [.tmp 24]⟩ (.run ⟨some 34, none, .pur (.fla 0) [.tmp 33]⟩ (.eff ⟨none, none, .eff (.st 1) [.tmp 34, .tmp 29]⟩ [⟨some 31, none, .ld none (.tmp 30)⟩] (.run ⟨some 35, none, .pur .nilc [.tmp 25]⟩ (.run ⟨some 36, none, .pur (.fla 1) [.tmp 35]⟩ (.eff ⟨none, none, .eff (.st 1) [.tmp 36, .tmp 32]⟩ [] (.run ⟨some 37, none, .pur .nilc [.tmp 26]⟩ (.run ⟨some 38, none, .pur (.fla 2) [.tmp 37]⟩ (.eff ⟨none, none, .eff (.st 1) [.tmp 38, .const (.bool false)]⟩ [] (.run ⟨some 39, none, .pur .nilc [.tmp 27]⟩ (.run ⟨some 40, none, .pur (.fla 3) [.tmp 39]⟩ (.eff ⟨none, none, .eff (.st 1) [.tmp 40, .const (.bool true)]⟩ [] .done))))))))))))))))))))) [])
  (.seq (.reg (straight [⟨some 4, none, .pur .mov [.const (.int .i64 0)]⟩]) [4])
  (.ret))))⟩
theorem K_trace_iter_goOn : compF Try.prog 85 = some S_trace_iter_goOn := by kernel_rfl

-- 86
def S_forebayref34_started_L1 : SCode :=
  .seq (.seq (.reg (straight [⟨some 9, none, .pur .mov [.tmp 8]⟩, ⟨some 10, none, .pur .mov [.tmp 0]⟩, ⟨some 11, none, .pur (.len false) [.tmp 10]⟩, ⟨some 12, none, .pur (.bin .lss) [.tmp 9, .tmp 11]⟩]) [12])
  (.cond (.tmp 12) (.skip) (.exit 0)))
  (.seq (.block 1 (.seq (.seq (.reg (straight [⟨some 15, none, .pur .mov [.tmp 0]⟩, ⟨some 16, none, .pur .mov [.tmp 8]⟩, ⟨some 17, none, .pur (.ixa 4) [.tmp 15, .tmp 16]⟩, ⟨some 18, none, .pur (.fla 1) [.tmp 17]⟩, ⟨some 19, none, .ld none (.tmp 18)⟩, ⟨some 20, none, .pur .mov [.tmp 1]⟩, ⟨some 21, none, .pur (.bin .eql) [.tmp 19, .tmp 20]⟩, ⟨some 22, none, .pur .mov [.tmp 21]⟩, ⟨some 23, some (22, true), .pur .mov [.tmp 0]⟩, ⟨some 24, some (22, true), .pur .mov [.tmp 8]⟩, ⟨some 25, some (22, true), .pur (.ixa 4) [.tmp 23, .tmp 24]⟩, ⟨some 26, some (22, true), .pur (.fla 0) [.tmp 25]⟩, ⟨some 27, some (22, true), .ld none (.tmp 26)⟩, ⟨some 28, some (22, true), .pur (.bin .eql) [.tmp 27, .const (.int .i64 1)]⟩, ⟨some 29, none, .pur .pick [.tmp 22, .tmp 28, .const (.bool false)]⟩]) [29])
  (.cond (.tmp 29) (.reg (straight [⟨some 30, none, .pur .mov [.tmp 6]⟩, ⟨some 31, none, .pur (.bin .add) [.tmp 30, .const (.int .i64 1)]⟩, ⟨some 6, none, .pur .mov [.tmp 31]⟩]) [6]) (.skip)))
  (.reg (straight [⟨some 32, none, .pur .mov [.tmp 7]⟩, ⟨some 33, none, .pur .mov [.tmp 32]⟩, ⟨some 34, some (33, false), .pur .mov [.tmp 0]⟩, ⟨some 35, some (33, false), .pur .mov [.tmp 8]⟩, ⟨some 36, some (33, false), .pur (.ixa 4) [.tmp 34, .tmp 35]⟩, ⟨some 37, some (33, false), .pur (.fla 1) [.tmp 36]⟩, ⟨some 38, some (33, false), .ld none (.tmp 37)⟩, ⟨some 39, some (33, false), .pur .mov [.tmp 1]⟩, ⟨some 40, some (33, false), .pur (.bin .eql) [.tmp 38, .tmp 39]⟩, ⟨some 41, some (33, false), .pur .mov [.tmp 40]⟩, ⟨some 42, some (41, true), .pur .mov [.tmp 0]⟩, ⟨some 43, some (41, true), .pur .mov [.tmp 8]⟩, ⟨some 44, some (41, true), .pur (.ixa 4) [.tmp 42, .tmp 43]⟩, ⟨some 45, some (41, true), .pur (.fla 0) [.tmp 44]⟩, ⟨some 46, some (41, true), .ld none (.tmp 45)⟩, ⟨some 47, some (41, true), .pur (.bin .eql) [.tmp 46, .const (.int .i64 5)]⟩, ⟨some 48, some (33, false), .pur .pick [.tmp 41, .tmp 47, .const (.bool false)]⟩, ⟨some 49, none, .pur .pick [.tmp 33, .const (.bool true), .tmp 48]⟩, ⟨some 7, none, .pur .mov [.tmp 49]⟩]) [7])))
  (.reg (straight [⟨some 13, none, .pur .mov [.tmp 8]⟩, ⟨some 14, none, .pur (.bin .add) [.tmp 13, .const (.int .i64 1)]⟩, ⟨some 8, none, .pur .mov [.tmp 14]⟩]) [8]))
def S_forebayref34_started : Fun := ⟨52, [4, 5, 8, 0, 12, 1, 29, 6, 7], [.tmp 4, .tmp 5],
  .seq (.reg (straight [⟨some 4, none, .pur .mov [.const (.int .i64 0)]⟩, ⟨some 5, none, .pur .mov [.const (.bool false)]⟩]) [4, 5])
  (.seq (.reg (straight [⟨some 6, none, .pur .mov [.const (.int .i64 0)]⟩, ⟨some 7, none, .pur .mov [.const (.bool false)]⟩]) [6, 7])
  (.seq (.seq (.reg (straight [⟨some 8, none, .pur .mov [.const (.int .i64 0)]⟩]) [8])
  (.block 0 (.loop S_forebayref34_started_L1)))
  (.seq (.reg (straight [⟨some 50, none, .pur .mov [.tmp 6]⟩, ⟨some 51, none, .pur .mov [.tmp 7]⟩, ⟨some 4, none, .pur .mov [.tmp 50]⟩, ⟨some 5, none, .pur .mov [.tmp 51]⟩]) [4, 5])
  (.ret))))⟩
theorem K_forebayref34_started : compF Try.prog 86 = some S_forebayref34_started := by kernel_rfl

-- 87
def S_forebayref34_look_L1 : SCode :=
  .seq (.seq (.reg (straight [⟨some 11, none, .pur .mov [.tmp 8]⟩, ⟨some 12, none, .pur .mov [.tmp 0]⟩, ⟨some 13, none, .pur (.len false) [.tmp 12]⟩, ⟨some 14, none, .pur (.bin .lss) [.tmp 11, .tmp 13]⟩]) [14])
  (.cond (.tmp 14) (.skip) (.exit 0)))
  (.seq (.block 1 (.seq (.reg (straight [⟨some 17, none, .pur .mov [.tmp 0]⟩, ⟨some 18, none, .pur .mov [.tmp 8]⟩, ⟨some 19, none, .pur (.ixa 4) [.tmp 17, .tmp 18]⟩, ⟨some 20, none, .ld (some 4) (.tmp 19)⟩, ⟨some 9, none, .eff (.new 28 [.int .i64 0, .int .i64 0, .int .i64 0, .int .i64 0]) []⟩, ⟨none, none, .eff (.st 4) [.tmp 9, .tmp 20]⟩]) [9])
  (.seq (.seq (.reg (straight [⟨some 21, none, .pur (.fla 1) [.tmp 9]⟩, ⟨some 22, none, .ld none (.tmp 21)⟩, ⟨some 23, none, .pur .mov [.tmp 1]⟩, ⟨some 24, none, .pur (.bin .neq) [.tmp 22, .tmp 23]⟩, ⟨some 25, none, .pur .mov [.tmp 24]⟩, ⟨some 26, some (25, false), .pur (.fla 2) [.tmp 9]⟩, ⟨some 27, some (25, false), .ld none (.tmp 26)⟩, ⟨some 28, some (25, false), .pur .mov [.tmp 2]⟩, ⟨some 29, some (25, false), .pur (.bin .neq) [.tmp 27, .tmp 28]⟩, ⟨some 30, none, .pur .pick [.tmp 25, .const (.bool true), .tmp 29]⟩]) [30])
  (.cond (.tmp 30) (.exit 1) (.skip)))
  (.seq (.reg (straight [⟨some 31, none, .pur (.fla 0) [.tmp 9]⟩, ⟨some 32, none, .ld none (.tmp 31)⟩]) [32])
  (.block 2 (.seq (.reg (straight [⟨some 34, none, .pur (.bin .eql) [.tmp 32, .const (.int .i64 1)]⟩, ⟨some 33, none, .pur .mov [.tmp 34]⟩]) [33])
  (.cond (.tmp 33) (.reg (straight [⟨some 35, none, .pur (.fla 0) [.tmp 7]⟩, ⟨none, none, .eff (.st 1) [.tmp 35, .const (.bool true)]⟩]) []) (.seq (.reg (straight [⟨some 37, none, .pur (.bin .eql) [.tmp 32, .const (.int .i64 2)]⟩, ⟨some 36, none, .pur .mov [.tmp 37]⟩]) [36])
  (.cond (.tmp 36) (.reg (straight [⟨some 38, none, .pur (.fla 3) [.tmp 7]⟩, ⟨none, none, .eff (.st 1) [.tmp 38, .const (.bool true)]⟩]) []) (.seq (.seq (.reg (straight [⟨some 40, none, .pur (.bin .eql) [.tmp 32, .const (.int .i64 3)]⟩, ⟨some 39, none, .pur .mov [.tmp 40]⟩]) [39])
  (.cond (.tmp 39) (.skip) (.reg (straight [⟨some 41, none, .pur (.bin .eql) [.tmp 32, .const (.int .i64 6)]⟩, ⟨some 39, none, .pur .mov [.tmp 41]⟩]) [39])))
  (.cond (.tmp 39) (.seq (.reg (straight [⟨some 42, none, .pur (.fla 3) [.tmp 9]⟩, ⟨some 43, none, .ld none (.tmp 42)⟩, ⟨some 44, none, .pur (.fla 1) [.tmp 7]⟩, ⟨none, none, .eff (.st 1) [.tmp 44, .tmp 43]⟩]) [])
  (.seq (.reg (straight [⟨some 45, none, .pur (.fla 0) [.tmp 9]⟩, ⟨some 46, none, .ld none (.tmp 45)⟩, ⟨some 47, none, .pur (.bin .eql) [.tmp 46, .const (.int .i64 3)]⟩, ⟨some 48, none, .pur (.fla 2) [.tmp 7]⟩, ⟨none, none, .eff (.st 1) [.tmp 48, .tmp 47]⟩]) [])
  (.seq (.reg (straight [⟨some 49, none, .pur (.fla 3) [.tmp 7]⟩, ⟨none, none, .eff (.st 1) [.tmp 49, .const (.bool false)]⟩]) [])
  (.reg (straight [⟨some 50, none, .pur (.fla 4) [.tmp 7]⟩, ⟨none, none, .eff (.st 1) [.tmp 50, .const (.bool true)]⟩]) [])))) (.seq (.reg (straight [⟨some 52, none, .pur (.bin .eql) [.tmp 32, .const (.int .i64 4)]⟩, ⟨some 51, none, .pur .mov [.tmp 52]⟩]) [51])
  (.cond (.tmp 51) (.seq (.reg (straight [⟨some 53, none, .pur (.fla 5) [.tmp 7]⟩, ⟨none, none, .eff (.st 1) [.tmp 53, .const (.bool true)]⟩]) [])
  (.reg (straight [⟨some 54, none, .pur (.fla 4) [.tmp 7]⟩, ⟨none, none, .eff (.st 1) [.tmp 54, .const (.bool true)]⟩]) [])) (.skip))))))))))))))
  (.reg (straight [⟨some 15, none, .pur .mov [.tmp 8]⟩, ⟨some 16, none, .pur (.bin .add) [.tmp 15, .const (.int .i64 1)]⟩, ⟨some 8, none, .pur .mov [.tmp 16]⟩]) [8]))
def S_forebayref34_look : Fun := ⟨56, [6, 8, 0, 14, 9, 1, 2, 30, 32, 33, 7, 36, 39, 51], [.cell 6 (some 6)],
  .seq (.reg (straight [⟨some 6, none, .eff (.new 157 [.bool false, .int .i64 0, .bool false, .bool false, .bool false, .bool false]) []⟩]) [6])
  (.seq (.reg (straight [⟨some 10, none, .pur (.bld [.bool false, .int .i64 0, .bool false, .bool false, .bool false, .bool false] []) []⟩, ⟨some 7, none, .eff (.new 157 [.bool false, .int .i64 0, .bool false, .bool false, .bool false, .bool false]) []⟩, ⟨none, none, .eff (.st 6) [.tmp 7, .tmp 10]⟩]) [7])
  (.seq (.seq (.reg (straight [⟨some 8, none, .pur .mov [.const (.int .i64 0)]⟩]) [8])
  (.block 0 (.loop S_forebayref34_look_L1)))
  (.seq (.reg (straight [⟨some 55, none, .ld (some 6) (.tmp 7)⟩, ⟨none, none, .eff (.st 6) [.tmp 6, .tmp 55]⟩]) [])
  (.ret))))⟩
theorem K_forebayref34_look : compF Try.prog 87 = some S_forebayref34_look := by kernel_rfl

-- 112
def S_trace_loop_past : Fun := ⟨30, [6, 1, 9, 0, 7, 2], [.tmp 6],
  .seq (.reg (straight [⟨some 6, none, .pur .mov [.const (.bool false)]⟩]) [6])
  (.seq (.seq (.reg (straight [⟨some 8, none, .pur .mov [.tmp 1]⟩, ⟨some 9, none, .pur (.bin .eql) [.tmp 8, .const (.int .i64 0)]⟩]) [9])
  (.cond (.tmp 9) (.seq (.reg (straight [⟨some 6, none, .pur .mov [.const (.bool true)]⟩]) [6])
  (.ret)) (.skip)))
  (.seq (.reg (straight [⟨some 10, none, .pur .mov [.tmp 0]⟩, ⟨some 11, none, .pur .nilc [.tmp 10]⟩, ⟨some 12, none, .pur (.fla 0) [.tmp 11]⟩, ⟨some 13, none, .ld none (.tmp 12)⟩, ⟨some 14, none, .pur .mov [.tmp 1]⟩, ⟨some 15, none, .pur (.bin .sub) [.tmp 14, .const (.int .i64 1)]⟩, ⟨some 16, none, .pur (.ixa 1) [.tmp 13, .tmp 15]⟩, ⟨some 17, none, .ld none (.tmp 16)⟩, ⟨some 7, none, .pur .mov [.tmp 17]⟩]) [7])
  (.seq (.reg (straight [⟨some 18, none, .pur .mov [.tmp 7]⟩, ⟨some 19, none, .pur .nilc [.tmp 18]⟩, ⟨some 20, none, .pur (.fla 4) [.tmp 19]⟩, ⟨some 21, none, .ld none (.tmp 20)⟩, ⟨some 22, none, .pur .mov [.tmp 21]⟩, ⟨some 23, some (22, false), .pur .mov [.tmp 7]⟩, ⟨some 24, some (22, false), .pur .nilc [.tmp 23]⟩, ⟨some 25, some (22, false), .pur (.fla 0) [.tmp 24]⟩, ⟨some 26, some (22, false), .ld none (.tmp 25)⟩, ⟨some 27, some (22, false), .pur .mov [.tmp 2]⟩, ⟨some 28, some (22, false), .pur (.bin .gtr) [.tmp 26, .tmp 27]⟩, ⟨some 29, none, .pur .pick [.tmp 22, .const (.bool true), .tmp 28]⟩, ⟨some 6, none, .pur .mov [.tmp 29]⟩]) [6])
  (.ret))))⟩
theorem K_trace_loop_past : compF Try.prog 112 = some S_trace_loop_past := by kernel_rfl

end Go.Proofs.Ythgmfjkbgacfaaa
