import Derived.Test.YtilofhocodbknaaKj
import Derived.Test.YtilofhocodbknaaProg
import Derived.KernelRfl
namespace Go.Proofs.Ytilofhocodbknaa
open Go Go.Kx Go.Proofs
set_option linter.unusedVariables false
set_option maxRecDepth 100000

-- 9
def S_forebaylaw31_ReachTells_L1 : SCode :=
  .seq (.seq (.reg (straight [⟨some 88, none, .pur .mov [.tmp 17]⟩, ⟨some 89, none, .pur .mov [.tmp 15]⟩, ⟨some 90, none, .pur (.len false) [.tmp 89]⟩, ⟨some 91, none, .pur (.bin .lss) [.tmp 88, .tmp 90]⟩]) [91])
  (.cond (.tmp 91) (.skip) (.exit 0)))
  (.seq (.block 1 (.seq (.seq (.reg (.run ⟨some 94, none, .pur .mov [.tmp 7]⟩ (.run ⟨some 95, none, .pur .mov [.tmp 17]⟩ (.run ⟨some 96, none, .pur .mov [.tmp 2]⟩ (.run ⟨some 98, none, .pur .mov [.tmp 15]⟩ (.run ⟨some 99, none, .pur .mov [.tmp 17]⟩ (.run ⟨some 100, none, .pur (.ixa 1) [.tmp 98, .tmp 99]⟩ (.run ⟨some 101, none, .ld none (.tmp 100)⟩ (.eff ⟨some 97, none, .eff (.call 51) [.tmp 94, .tmp 95, .tmp 96]⟩ [⟨some 101, none, .ld none (.tmp 100)⟩] (.run ⟨some 102, none, .pur (.eqb true) [.tmp 97, .tmp 101]⟩ .done))))))))) [102])
  (.cond (.tmp 102) (.seq (.reg (straight [⟨some 6, none, .pur .mov [.const (.bool false)]⟩]) [6])
  (.ret)) (.skip)))
  (.seq (.reg (straight [⟨some 103, none, .pur .mov [.tmp 15]⟩, ⟨some 104, none, .pur .mov [.tmp 17]⟩, ⟨some 105, none, .pur (.ixa 1) [.tmp 103, .tmp 104]⟩, ⟨some 106, none, .ld none (.tmp 105)⟩]) [106])
  (.cond (.tmp 106) (.reg (straight [⟨some 107, none, .pur .mov [.tmp 16]⟩, ⟨some 108, none, .pur (.bin .add) [.tmp 107, .const (.int .i64 1)]⟩, ⟨some 16, none, .pur .mov [.tmp 108]⟩]) [16]) (.skip)))))
  (.reg (straight [⟨some 92, none, .pur .mov [.tmp 17]⟩, ⟨some 93, none, .pur (.bin .add) [.tmp 92, .const (.int .i64 1)]⟩, ⟨some 17, none, .pur .mov [.tmp 93]⟩]) [17]))
def S_forebaylaw31_ReachTells : Fun := ⟨180, [6, 20, 0, 22, 8, 9, 10, 12, 11, 13, 7, 61, 63, 1, 2, 17, 15, 91, 102, 106, 16, 18, 14], [.tmp 6],
  .seq (.reg (straight [⟨some 6, none, .pur .mov [.const (.bool false)]⟩]) [6])
  (.seq (.seq (.reg (straight [⟨some 19, none, .eff (.call 43) []⟩, ⟨some 20, none, .pur .not [.tmp 19]⟩]) [20])
  (.cond (.tmp 20) (.seq (.reg (straight [⟨some 6, none, .pur .mov [.const (.bool false)]⟩]) [6])
  (.ret)) (.skip)))
  (.seq (.seq (.reg (straight [⟨some 21, none, .pur .mov [.tmp 0]⟩, ⟨some 22, none, .eff (.call 44) [.tmp 21]⟩]) [22])
  (.cond (.tmp 22) (.seq (.reg (straight [⟨some 6, none, .pur .mov [.const (.bool true)]⟩]) [6])
  (.ret)) (.skip)))
  (.seq (.reg (straight [⟨some 24, none, .pur .mov [.tmp 0]⟩, ⟨some 25, none, .eff (.call 46) [.tmp 24]⟩, ⟨some 26, none, .eff (.call 45) [.tmp 25]⟩, ⟨some 23, none, .pur .mov [.tmp 26]⟩, ⟨some 27, none, .pur (.ext 0) [.tmp 23]⟩, ⟨some 28, none, .pur (.ext 1) [.tmp 23]⟩, ⟨some 7, none, .pur .mov [.tmp 27]⟩, ⟨some 8, none, .pur .mov [.tmp 28]⟩]) [7, 8])
  (.seq (.reg (straight [⟨some 29, none, .pur .mov [.tmp 0]⟩, ⟨some 30, none, .eff (.call 47) [.tmp 29]⟩, ⟨some 9, none, .pur .mov [.tmp 30]⟩]) [9])
  (.seq (.reg (straight [⟨some 32, none, .pur .mov [.tmp 0]⟩, ⟨some 33, none, .eff (.call 46) [.tmp 32]⟩, ⟨some 34, none, .eff (.call 48) [.tmp 33]⟩, ⟨some 31, none, .pur .mov [.tmp 34]⟩, ⟨some 35, none, .pur (.ext 0) [.tmp 31]⟩, ⟨some 36, none, .pur (.ext 1) [.tmp 31]⟩, ⟨some 10, none, .pur .mov [.tmp 35]⟩, ⟨some 11, none, .pur .mov [.tmp 36]⟩]) [10, 11])
  (.seq (.reg (straight [⟨some 38, none, .pur .mov [.tmp 0]⟩, ⟨some 39, none, .eff (.call 49) [.tmp 38]⟩, ⟨some 37, none, .pur .mov [.tmp 39]⟩, ⟨some 40, none, .pur (.ext 0) [.tmp 37]⟩, ⟨some 41, none, .pur (.ext 1) [.tmp 37]⟩, ⟨some 12, none, .pur .mov [.tmp 40]⟩, ⟨some 13, none, .pur .mov [.tmp 41]⟩]) [12, 13])
  (.seq (.seq (.reg (straight [⟨some 42, none, .pur .mov [.tmp 8]⟩, ⟨some 43, none, .pur .mov [.tmp 9]⟩, ⟨some 44, none, .pur (.bin .neq) [.tmp 42, .tmp 43]⟩, ⟨some 45, none, .pur .mov [.tmp 44]⟩, ⟨some 46, some (45, false), .pur .mov [.tmp 10]⟩, ⟨some 47, some (45, false), .pur .mov [.tmp 12]⟩, ⟨some 48, some (45, false), .pur (.bin .neq) [.tmp 46, .tmp 47]⟩, ⟨some 49, none, .pur .pick [.tmp 45, .const (.bool true), .tmp 48]⟩, ⟨some 50, none, .pur .mov [.tmp 49]⟩, ⟨some 51, some (50, false), .pur .mov [.tmp 11]⟩, ⟨some 52, some (50, false), .pur .mov [.tmp 13]⟩, ⟨some 53, some (50, false), .pur (.bin .neq) [.tmp 51, .tmp 52]⟩, ⟨some 54, none, .pur .pick [.tmp 50, .const (.bool true), .tmp 53]⟩, ⟨some 55, none, .pur .mov [.tmp 54]⟩, ⟨some 56, some (55, false), .pur .mov [.tmp 7]⟩, ⟨some 57, some (55, false), .pur (.eqn true 0) [.tmp 56]⟩, ⟨some 58, some (55, false), .pur .mov [.tmp 9]⟩, ⟨some 59, some (55, false), .pur (.bin .eql) [.tmp 58, .const (.int .i64 0)]⟩, ⟨some 60, some (55, false), .pur (.eqb true) [.tmp 57, .tmp 59]⟩, ⟨some 61, none, .pur .pick [.tmp 55, .const (.bool true), .tmp 60]⟩]) [61])
  (.cond (.tmp 61) (.seq (.reg (straight [⟨some 6, none, .pur .mov [.const (.bool false)]⟩]) [6])
  (.ret)) (.skip)))
  (.seq (.seq (.reg (straight [⟨some 62, none, .pur .mov [.tmp 9]⟩, ⟨some 63, none, .pur (.bin .neq) [.tmp 62, .const (.int .i64 0)]⟩]) [63])
  (.cond (.tmp 63) (.seq (.reg (straight [⟨some 64, none, .pur .mov [.tmp 7]⟩, ⟨some 65, none, .eff (.call 50) [.tmp 64]⟩, ⟨some 66, none, .pur (.bin .eql) [.tmp 65, .const (.int .i64 0)]⟩, ⟨some 67, none, .pur .mov [.tmp 66]⟩, ⟨some 68, some (67, true), .pur .mov [.tmp 7]⟩, ⟨some 69, some (67, true), .eff (.call 51) [.tmp 68, .const (.int .i64 0), .const (.int .i64 1)]⟩, ⟨some 70, some (67, true), .pur .not [.tmp 69]⟩, ⟨some 71, none, .pur .pick [.tmp 67, .tmp 70, .const (.bool false)]⟩, ⟨some 72, none, .pur .mov [.tmp 71]⟩, ⟨some 73, some (72, true), .pur .mov [.tmp 7]⟩, ⟨some 74, some (72, true), .eff (.call 52) [.tmp 73, .const (.int .i64 0), .const (.int .i64 1)]⟩, ⟨some 75, some (72, true), .pur .not [.tmp 74]⟩, ⟨some 76, none, .pur .pick [.tmp 72, .tmp 75, .const (.bool false)]⟩, ⟨some 77, none, .pur .mov [.tmp 76]⟩, ⟨some 78, some (77, true), .pur .mov [.tmp 7]⟩, ⟨some 79, some (77, true), .eff (.call 53) [.tmp 78, .const (.int .i64 1)]⟩, ⟨some 80, some (77, true), .pur (.bin .eql) [.tmp 79, .const (.int .i64 0)]⟩, ⟨some 81, none, .pur .pick [.tmp 77, .tmp 80, .const (.bool false)]⟩, ⟨some 6, none, .pur .mov [.tmp 81]⟩]) [6])
  (.ret)) (.skip)))
  (.seq (.reg (straight [⟨some 82, none, .pur .mov [.tmp 0]⟩, ⟨some 83, none, .pur .mov [.tmp 1]⟩, ⟨some 84, none, .eff (.call 54) [.tmp 82, .tmp 83]⟩, ⟨some 85, none, .pur .mov [.tmp 0]⟩, ⟨some 86, none, .pur .mov [.tmp 2]⟩, ⟨some 87, none, .eff (.call 54) [.tmp 85, .tmp 86]⟩, ⟨some 14, none, .pur .mov [.tmp 84]⟩, ⟨some 15, none, .pur .mov [.tmp 87]⟩]) [14, 15])
  (.seq (.reg (straight [⟨some 16, none, .pur .mov [.const (.int .i64 0)]⟩]) [16])
  (.seq (.seq (.reg (straight [⟨some 17, none, .pur .mov [.const (.int .i64 0)]⟩]) [17])
  (.block 0 (.loop S_forebaylaw31_ReachTells_L1)))
  (.seq (.reg (straight [⟨some 109, none, .pur .mov [.tmp 1]⟩, ⟨some 110, none, .pur (.bin .geq) [.tmp 109, .const (.int .i64 0)]⟩, ⟨some 111, none, .pur .mov [.tmp 110]⟩, ⟨some 112, some (111, true), .pur .mov [.tmp 2]⟩, ⟨some 113, some (111, true), .pur (.bin .geq) [.tmp 112, .const (.int .i64 0)]⟩, ⟨some 114, none, .pur .pick [.tmp 111, .tmp 113, .const (.bool false)]⟩, ⟨some 115, none, .pur .mov [.tmp 114]⟩, ⟨some 116, some (115, true), .pur .mov [.tmp 1]⟩, ⟨some 117, some (115, true), .pur .mov [.tmp 0]⟩, ⟨some 118, some (115, true), .pur (.len false) [.tmp 117]⟩, ⟨some 119, some (115, true), .pur (.bin .lss) [.tmp 116, .tmp 118]⟩, ⟨some 120, none, .pur .pick [.tmp 115, .tmp 119, .const (.bool false)]⟩, ⟨some 121, none, .pur .mov [.tmp 120]⟩, ⟨some 122, some (121, true), .pur .mov [.tmp 2]⟩, ⟨some 123, some (121, true), .pur .mov [.tmp 0]⟩, ⟨some 124, some (121, true), .pur (.len false) [.tmp 123]⟩, ⟨some 125, some (121, true), .pur (.bin .lss) [.tmp 122, .tmp 124]⟩, ⟨some 126, none, .pur .pick [.tmp 121, .tmp 125, .const (.bool false)]⟩, ⟨some 18, none, .pur .mov [.tmp 126]⟩]) [18])
  (.seq (.reg (straight [⟨some 127, none, .pur .mov [.tmp 7]⟩, ⟨some 128, none, .eff (.call 50) [.tmp 127]⟩, ⟨some 129, none, .pur .mov [.tmp 0]⟩, ⟨some 130, none, .pur (.len false) [.tmp 129]⟩, ⟨some 131, none, .pur (.bin .eql) [.tmp 128, .tmp 130]⟩, ⟨some 132, none, .pur .mov [.tmp 131]⟩, ⟨some 133, some (132, true), .pur .mov [.tmp 7]⟩, ⟨some 134, some (132, true), .pur .mov [.tmp 2]⟩, ⟨some 135, some (132, true), .eff (.call 53) [.tmp 133, .tmp 134]⟩, ⟨some 136, some (132, true), .pur .mov [.tmp 16]⟩, ⟨some 137, some (132, true), .pur (.bin .eql) [.tmp 135, .tmp 136]⟩, ⟨some 138, none, .pur .pick [.tmp 132, .tmp 137, .const (.bool false)]⟩, ⟨some 139, none, .pur .mov [.tmp 138]⟩, ⟨some 140, some (139, true), .pur .mov [.tmp 7]⟩, ⟨some 141, some (139, true), .pur .mov [.tmp 1]⟩, ⟨some 142, some (139, true), .pur .mov [.tmp 2]⟩, ⟨some 143, some (139, true), .eff (.call 51) [.tmp 140, .tmp 141, .tmp 142]⟩, ⟨some 144, some (139, true), .pur .mov [.tmp 18]⟩, ⟨some 145, some (139, true), .pur .mov [.tmp 144]⟩, ⟨some 146, some (145, true), .pur .mov [.tmp 15]⟩, ⟨some 147, some (145, true), .pur .mov [.tmp 1]⟩, ⟨some 148, some (145, true), .pur (.ixa 1) [.tmp 146, .tmp 147]⟩, ⟨some 149, some (145, true), .ld none (.tmp 148)⟩, ⟨some 150, some (139, true), .pur .pick [.tmp 145, .tmp 149, .const (.bool false)]⟩, ⟨some 151, some (139, true), .pur (.eqb false) [.tmp 143, .tmp 150]⟩, ⟨some 152, none, .pur .pick [.tmp 139, .tmp 151, .const (.bool false)]⟩, ⟨some 153, none, .pur .mov [.tmp 152]⟩, ⟨some 154, some (153, true), .pur .mov [.tmp 7]⟩, ⟨some 155, some (153, true), .pur .mov [.tmp 1]⟩, ⟨some 156, some (153, true), .pur .mov [.tmp 2]⟩, ⟨some 157, some (153, true), .eff (.call 52) [.tmp 154, .tmp 155, .tmp 156]⟩, ⟨some 158, some (153, true), .pur .mov [.tmp 18]⟩, ⟨some 159, some (153, true), .pur .mov [.tmp 158]⟩, ⟨some 160, some (159, true), .pur .mov [.tmp 1]⟩, ⟨some 161, some (159, true), .pur .mov [.tmp 2]⟩, ⟨some 162, some (159, true), .pur (.bin .neq) [.tmp 160, .tmp 161]⟩, ⟨some 163, some (153, true), .pur .pick [.tmp 159, .tmp 162, .const (.bool false)]⟩, ⟨some 164, some (153, true), .pur .mov [.tmp 163]⟩, ⟨some 165, some (164, true), .pur .mov [.tmp 15]⟩, ⟨some 166, some (164, true), .pur .mov [.tmp 1]⟩, ⟨some 167, some (164, true), .pur (.ixa 1) [.tmp 165, .tmp 166]⟩, ⟨some 168, some (164, true), .ld none (.tmp 167)⟩, ⟨some 169, some (164, true), .pur .not [.tmp 168]⟩, ⟨some 170, some (153, true), .pur .pick [.tmp 164, .tmp 169, .const (.bool false)]⟩, ⟨some 171, some (153, true), .pur .mov [.tmp 170]⟩, ⟨some 172, some (171, true), .pur .mov [.tmp 14]⟩, ⟨some 173, some (171, true), .pur .mov [.tmp 2]⟩, ⟨some 174, some (171, true), .pur (.ixa 1) [.tmp 172, .tmp 173]⟩, ⟨some 175, some (171, true), .ld none (.tmp 174)⟩, ⟨some 176, some (171, true), .pur .not [.tmp 175]⟩, ⟨some 177, some (153, true), .pur .pick [.tmp 171, .tmp 176, .const (.bool false)]⟩, ⟨some 178, some (153, true), .pur (.eqb false) [.tmp 157, .tmp 177]⟩, ⟨some 179, none, .pur .pick [.tmp 153, .tmp 178, .const (.bool false)]⟩, ⟨some 6, none, .pur .mov [.tmp 179]⟩]) [6])
  (.ret))))))))))))))⟩
theorem K_forebaylaw31_ReachTells : compF Try.prog 9 = some S_forebaylaw31_ReachTells := by kernel_rfl

-- 10
def S_forebaylaw31_ReachThrough : Fun := ⟨108, [8, 16, 0, 28, 10, 9, 40, 1, 11, 2, 3, 12, 13, 14, 87], [.tmp 8],
  .seq (.reg (straight [⟨some 8, none, .pur .mov [.const (.bool false)]⟩]) [8])
  (.seq (.seq (.reg (straight [⟨some 15, none, .eff (.call 43) []⟩, ⟨some 16, none, .pur .not [.tmp 15]⟩]) [16])
  (.cond (.tmp 16) (.seq (.reg (straight [⟨some 8, none, .pur .mov [.const (.bool false)]⟩]) [8])
  (.ret)) (.skip)))
  (.seq (.seq (.reg (straight [⟨some 17, none, .pur .mov [.tmp 0]⟩, ⟨some 18, none, .eff (.call 44) [.tmp 17]⟩, ⟨some 19, none, .pur .mov [.tmp 18]⟩, ⟨some 20, some (19, false), .pur .mov [.tmp 0]⟩, ⟨some 21, some (19, false), .eff (.call 47) [.tmp 20]⟩, ⟨some 22, some (19, false), .pur (.bin .neq) [.tmp 21, .const (.int .i64 0)]⟩, ⟨some 23, none, .pur .pick [.tmp 19, .const (.bool true), .tmp 22]⟩, ⟨some 24, none, .pur .mov [.tmp 23]⟩, ⟨some 25, some (24, false), .pur .mov [.tmp 0]⟩, ⟨some 26, some (24, false), .pur (.len false) [.tmp 25]⟩, ⟨some 27, some (24, false), .pur (.bin .eql) [.tmp 26, .const (.int .i64 0)]⟩, ⟨some 28, none, .pur .pick [.tmp 24, .const (.bool true), .tmp 27]⟩]) [28])
  (.cond (.tmp 28) (.seq (.reg (straight [⟨some 8, none, .pur .mov [.const (.bool true)]⟩]) [8])
  (.ret)) (.skip)))
  (.seq (.reg (straight [⟨some 30, none, .pur .mov [.tmp 0]⟩, ⟨some 31, none, .eff (.call 46) [.tmp 30]⟩, ⟨some 32, none, .eff (.call 45) [.tmp 31]⟩, ⟨some 29, none, .pur .mov [.tmp 32]⟩, ⟨some 33, none, .pur (.ext 0) [.tmp 29]⟩, ⟨some 34, none, .pur (.ext 1) [.tmp 29]⟩, ⟨some 9, none, .pur .mov [.tmp 33]⟩, ⟨some 10, none, .pur .mov [.tmp 34]⟩]) [9, 10])
  (.seq (.seq (.reg (straight [⟨some 35, none, .pur .mov [.tmp 10]⟩, ⟨some 36, none, .pur (.bin .neq) [.tmp 35, .const (.int .i64 0)]⟩, ⟨some 37, none, .pur .mov [.tmp 36]⟩, ⟨some 38, some (37, false), .pur .mov [.tmp 9]⟩, ⟨some 39, some (37, false), .pur (.eqn false 0) [.tmp 38]⟩, ⟨some 40, none, .pur .pick [.tmp 37, .const (.bool true), .tmp 39]⟩]) [40])
  (.cond (.tmp 40) (.seq (.reg (straight [⟨some 8, none, .pur .mov [.const (.bool false)]⟩]) [8])
  (.ret)) (.skip)))
  (.seq (.reg (straight [⟨some 41, none, .pur .mov [.tmp 0]⟩, ⟨some 42, none, .pur (.len false) [.tmp 41]⟩, ⟨some 43, none, .pur (.toInt .u64) [.tmp 42]⟩, ⟨some 11, none, .pur .mov [.tmp 43]⟩]) [11])
  (.seq (.reg (straight [⟨some 44, none, .pur .mov [.tmp 1]⟩, ⟨some 45, none, .pur (.toInt .u64) [.tmp 44]⟩, ⟨some 46, none, .pur .mov [.tmp 11]⟩, ⟨some 47, none, .pur (.bin .rem) [.tmp 45, .tmp 46]⟩, ⟨some 48, none, .pur (.toInt .i64) [.tmp 47]⟩, ⟨some 49, none, .pur .mov [.tmp 2]⟩, ⟨some 50, none, .pur (.toInt .u64) [.tmp 49]⟩, ⟨some 51, none, .pur .mov [.tmp 11]⟩, ⟨some 52, none, .pur (.bin .rem) [.tmp 50, .tmp 51]⟩, ⟨some 53, none, .pur (.toInt .i64) [.tmp 52]⟩, ⟨some 54, none, .pur .mov [.tmp 3]⟩, ⟨some 55, none, .pur (.toInt .u64) [.tmp 54]⟩, ⟨some 56, none, .pur .mov [.tmp 11]⟩, ⟨some 57, none, .pur (.bin .rem) [.tmp 55, .tmp 56]⟩, ⟨some 58, none, .pur (.toInt .i64) [.tmp 57]⟩, ⟨some 12, none, .pur .mov [.tmp 48]⟩, ⟨some 13, none, .pur .mov [.tmp 53]⟩, ⟨some 14, none, .pur .mov [.tmp 58]⟩]) [12, 13, 14])
  (.seq (.seq (.reg (straight [⟨some 59, none, .pur .mov [.tmp 9]⟩, ⟨some 60, none, .pur .mov [.tmp 12]⟩, ⟨some 61, none, .pur .mov [.tmp 12]⟩, ⟨some 62, none, .eff (.call 51) [.tmp 59, .tmp 60, .tmp 61]⟩, ⟨some 63, none, .pur .mov [.tmp 62]⟩, ⟨some 64, some (63, false), .pur .mov [.tmp 9]⟩, ⟨some 65, some (63, false), .pur .mov [.tmp 12]⟩, ⟨some 66, some (63, false), .pur .mov [.tmp 12]⟩, ⟨some 67, some (63, false), .eff (.call 52) [.tmp 64, .tmp 65, .tmp 66]⟩, ⟨some 68, none, .pur .pick [.tmp 63, .const (.bool true), .tmp 67]⟩, ⟨some 69, none, .pur .mov [.tmp 68]⟩, ⟨some 70, some (69, false), .pur .mov [.tmp 9]⟩, ⟨some 71, some (69, false), .pur .mov [.tmp 12]⟩, ⟨some 72, some (69, false), .pur .mov [.tmp 13]⟩, ⟨some 73, some (69, false), .eff (.call 51) [.tmp 70, .tmp 71, .tmp 72]⟩, ⟨some 74, some (69, false), .pur .mov [.tmp 73]⟩, ⟨some 75, some (74, true), .pur .mov [.tmp 9]⟩, ⟨some 76, some (74, true), .pur .mov [.tmp 13]⟩, ⟨some 77, some (74, true), .pur .mov [.tmp 14]⟩, ⟨some 78, some (74, true), .eff (.call 51) [.tmp 75, .tmp 76, .tmp 77]⟩, ⟨some 79, some (69, false), .pur .pick [.tmp 74, .tmp 78, .const (.bool false)]⟩, ⟨some 80, some (69, false), .pur .mov [.tmp 79]⟩, ⟨some 81, some (80, true), .pur .mov [.tmp 9]⟩, ⟨some 82, some (80, true), .pur .mov [.tmp 12]⟩, ⟨some 83, some (80, true), .pur .mov [.tmp 14]⟩, ⟨some 84, some (80, true), .eff (.call 51) [.tmp 81, .tmp 82, .tmp 83]⟩, ⟨some 85, some (80, true), .pur .not [.tmp 84]⟩, ⟨some 86, some (69, false), .pur .pick [.tmp 80, .tmp 85, .const (.bool false)]⟩, ⟨some 87, none, .pur .pick [.tmp 69, .const (.bool true), .tmp 86]⟩]) [87])
  (.cond (.tmp 87) (.seq (.reg (straight [⟨some 8, none, .pur .mov [.const (.bool false)]⟩]) [8])
  (.ret)) (.skip)))
  (.seq (.reg (straight [⟨some 88, none, .pur .mov [.tmp 12]⟩, ⟨some 89, none, .pur .mov [.tmp 13]⟩, ⟨some 90, none, .pur (.bin .eql) [.tmp 88, .tmp 89]⟩, ⟨some 91, none, .pur .mov [.tmp 90]⟩, ⟨some 92, some (91, false), .pur .mov [.tmp 9]⟩, ⟨some 93, some (91, false), .pur .mov [.tmp 12]⟩, ⟨some 94, some (91, false), .pur .mov [.tmp 13]⟩, ⟨some 95, some (91, false), .eff (.call 51) [.tmp 92, .tmp 93, .tmp 94]⟩, ⟨some 96, some (91, false), .pur .mov [.tmp 95]⟩, ⟨some 97, some (96, false), .pur .mov [.tmp 9]⟩, ⟨some 98, some (96, false), .pur .mov [.tmp 13]⟩, ⟨some 99, some (96, false), .pur .mov [.tmp 12]⟩, ⟨some 100, some (96, false), .eff (.call 51) [.tmp 97, .tmp 98, .tmp 99]⟩, ⟨some 101, some (91, false), .pur .pick [.tmp 96, .const (.bool true), .tmp 100]⟩, ⟨some 102, some (91, false), .pur .mov [.tmp 9]⟩, ⟨some 103, some (91, false), .pur .mov [.tmp 12]⟩, ⟨some 104, some (91, false), .pur .mov [.tmp 13]⟩, ⟨some 105, some (91, false), .eff (.call 52) [.tmp 102, .tmp 103, .tmp 104]⟩, ⟨some 106, some (91, false), .pur (.eqb true) [.tmp 101, .tmp 105]⟩, ⟨some 107, none, .pur .pick [.tmp 91, .const (.bool true), .tmp 106]⟩, ⟨some 8, none, .pur .mov [.tmp 107]⟩]) [8])
  (.ret)))))))))⟩
theorem K_forebaylaw31_ReachThrough : compF Try.prog 10 = some S_forebaylaw31_ReachThrough := by kernel_rfl

-- 11
def S_forebaylaw31_ReachOrders_L1 : SCode :=
  .seq (.seq (.reg (straight [⟨some 29, none, .pur .mov [.tmp 6]⟩, ⟨some 30, none, .pur .mov [.tmp 0]⟩, ⟨some 31, none, .pur (.len false) [.tmp 30]⟩, ⟨some 32, none, .pur (.bin .lss) [.tmp 29, .tmp 31]⟩]) [32])
  (.cond (.tmp 32) (.skip) (.exit 0)))
  (.seq (.block 1 (.reg (straight [⟨some 35, none, .pur .mov [.tmp 5]⟩, ⟨some 36, none, .pur .mov [.tmp 6]⟩, ⟨some 37, none, .eff (.bsl 3 1) [.tmp 36]⟩, ⟨some 38, none, .eff (.app 3 1 8 [.int .i64 0]) [.tmp 35, .tmp 37]⟩, ⟨some 5, none, .pur .mov [.tmp 38]⟩]) [5]))
  (.reg (straight [⟨some 33, none, .pur .mov [.tmp 6]⟩, ⟨some 34, none, .pur (.bin .add) [.tmp 33, .const (.int .i64 1)]⟩, ⟨some 6, none, .pur .mov [.tmp 34]⟩]) [6]))
def S_forebaylaw31_ReachOrders : Fun := ⟨43, [4, 8, 0, 1, 15, 25, 28, 6, 32, 5], [.tmp 4],
  .seq (.reg (straight [⟨some 4, none, .pur .mov [.const (.bool false)]⟩]) [4])
  (.seq (.seq (.reg (straight [⟨some 7, none, .eff (.call 43) []⟩, ⟨some 8, none, .pur .not [.tmp 7]⟩]) [8])
  (.cond (.tmp 8) (.seq (.reg (straight [⟨some 4, none, .pur .mov [.const (.bool false)]⟩]) [4])
  (.ret)) (.skip)))
  (.seq (.seq (.reg (straight [⟨some 9, none, .pur .mov [.tmp 0]⟩, ⟨some 10, none, .eff (.call 44) [.tmp 9]⟩, ⟨some 11, none, .pur .mov [.tmp 10]⟩, ⟨some 12, some (11, false), .pur .mov [.tmp 1]⟩, ⟨some 13, some (11, false), .pur (.len false) [.tmp 12]⟩, ⟨some 14, some (11, false), .pur (.bin .gtr) [.tmp 13, .const (.int .i64 200)]⟩, ⟨some 15, none, .pur .pick [.tmp 11, .const (.bool true), .tmp 14]⟩]) [15])
  (.cond (.tmp 15) (.seq (.reg (straight [⟨some 4, none, .pur .mov [.const (.bool true)]⟩]) [4])
  (.ret)) (.skip)))
  (.seq (.seq (.reg (straight [⟨some 16, none, .pur .mov [.tmp 0]⟩, ⟨some 17, none, .eff (.call 46) [.tmp 16]⟩, ⟨some 18, none, .eff (.bsl 3 1) []⟩, ⟨some 19, none, .pur .mov [.tmp 1]⟩, ⟨some 20, none, .eff (.app 3 1 8 [.int .i64 0]) [.tmp 18, .tmp 19]⟩, ⟨some 21, none, .eff (.call 55) [.tmp 17, .tmp 20]⟩, ⟨some 22, none, .pur .mov [.tmp 0]⟩, ⟨some 23, none, .pur .mov [.tmp 1]⟩, ⟨some 24, none, .eff (.call 56) [.tmp 22, .tmp 23]⟩, ⟨some 25, none, .pur (.eqb true) [.tmp 21, .tmp 24]⟩]) [25])
  (.cond (.tmp 25) (.seq (.reg (straight [⟨some 4, none, .pur .mov [.const (.bool false)]⟩]) [4])
  (.ret)) (.skip)))
  (.seq (.seq (.reg (straight [⟨some 26, none, .pur .mov [.tmp 0]⟩, ⟨some 27, none, .eff (.call 47) [.tmp 26]⟩, ⟨some 28, none, .pur (.bin .neq) [.tmp 27, .const (.int .i64 0)]⟩]) [28])
  (.cond (.tmp 28) (.seq (.reg (straight [⟨some 4, none, .pur .mov [.const (.bool true)]⟩]) [4])
  (.ret)) (.skip)))
  (.seq (.reg (straight [⟨some 5, none, .pur .mov [.const (.slice none 0 0)]⟩]) [5])
  (.seq (.seq (.reg (straight [⟨some 6, none, .pur .mov [.const (.int .i64 0)]⟩]) [6])
  (.block 0 (.loop S_forebaylaw31_ReachOrders_L1)))
  (.seq (.reg (straight [⟨some 39, none, .pur .mov [.tmp 0]⟩, ⟨some 40, none, .eff (.call 46) [.tmp 39]⟩, ⟨some 41, none, .pur .mov [.tmp 5]⟩, ⟨some 42, none, .eff (.call 55) [.tmp 40, .tmp 41]⟩, ⟨some 4, none, .pur .mov [.tmp 42]⟩]) [4])
  (.ret))))))))⟩
theorem K_forebaylaw31_ReachOrders : compF Try.prog 11 = some S_forebaylaw31_ReachOrders := by kernel_rfl

-- 12
def S_forebaylaw31_ReachLongest_L1 : SCode :=
  .seq (.seq (.reg (straight [⟨some 53, none, .pur .mov [.tmp 9]⟩, ⟨some 54, none, .pur .mov [.tmp 0]⟩, ⟨some 55, none, .pur (.len false) [.tmp 54]⟩, ⟨some 56, none, .pur (.bin .lss) [.tmp 53, .tmp 55]⟩]) [56])
  (.cond (.tmp 56) (.skip) (.exit 0)))
  (.seq (.block 1 (.seq (.reg (straight [⟨some 59, none, .pur .mov [.tmp 7]⟩, ⟨some 60, none, .pur .mov [.tmp 59]⟩, ⟨some 61, some (60, true), .pur .mov [.tmp 9]⟩, ⟨some 62, some (60, true), .pur (.bin .eql) [.tmp 61, .const (.int .i64 0)]⟩, ⟨some 63, some (60, true), .pur .mov [.tmp 62]⟩, ⟨some 64, some (63, false), .pur .mov [.tmp 5]⟩, ⟨some 65, some (63, false), .pur .mov [.tmp 9]⟩, ⟨some 66, some (63, false), .pur (.bin .sub) [.tmp 65, .const (.int .i64 1)]⟩, ⟨some 67, some (63, false), .pur .mov [.tmp 9]⟩, ⟨some 68, some (63, false), .eff (.call 51) [.tmp 64, .tmp 66, .tmp 67]⟩, ⟨some 69, some (60, true), .pur .pick [.tmp 63, .const (.bool true), .tmp 68]⟩, ⟨some 70, none, .pur .pick [.tmp 60, .tmp 69, .const (.bool false)]⟩, ⟨some 7, none, .pur .mov [.tmp 70]⟩]) [7])
  (.seq (.reg (straight [⟨some 71, none, .pur .mov [.tmp 8]⟩, ⟨some 72, none, .pur .mov [.tmp 5]⟩, ⟨some 73, none, .pur .mov [.tmp 9]⟩, ⟨some 74, none, .eff (.call 53) [.tmp 72, .tmp 73]⟩, ⟨some 75, none, .pur (.minmax true) [.tmp 71, .tmp 74]⟩, ⟨some 8, none, .pur .mov [.tmp 75]⟩]) [8])
  (.seq (.reg (straight [⟨some 77, none, .pur .mov [.tmp 0]⟩, ⟨some 78, none, .pur .mov [.tmp 9]⟩, ⟨some 79, none, .pur (.bin .add) [.tmp 78, .const (.int .i64 1)]⟩, ⟨some 80, none, .pur (.slc 1 false true) [.tmp 77, .tmp 79]⟩, ⟨some 81, none, .eff (.call 46) [.tmp 80]⟩, ⟨some 82, none, .eff (.call 48) [.tmp 81]⟩, ⟨some 76, none, .pur .mov [.tmp 82]⟩, ⟨some 83, none, .pur (.ext 0) [.tmp 76]⟩, ⟨some 84, none, .pur (.ext 1) [.tmp 76]⟩, ⟨some 10, none, .pur .mov [.tmp 83]⟩, ⟨some 11, none, .pur .mov [.tmp 84]⟩]) [10, 11])
  (.seq (.seq (.reg (straight [⟨some 85, none, .pur .mov [.tmp 11]⟩, ⟨some 86, none, .pur (.bin .neq) [.tmp 85, .const (.int .i64 0)]⟩, ⟨some 87, none, .pur .mov [.tmp 86]⟩, ⟨some 88, some (87, false), .pur .mov [.tmp 10]⟩, ⟨some 89, some (87, false), .pur .mov [.tmp 3]⟩, ⟨some 90, some (87, false), .pur (.bin .gtr) [.tmp 88, .tmp 89]⟩, ⟨some 91, none, .pur .pick [.tmp 87, .const (.bool true), .tmp 90]⟩]) [91])
  (.cond (.tmp 91) (.seq (.reg (straight [⟨some 2, none, .pur .mov [.const (.bool false)]⟩]) [2])
  (.ret)) (.skip)))
  (.seq (.reg (straight [⟨some 92, none, .pur .mov [.tmp 9]⟩, ⟨some 93, none, .pur (.bin .gtr) [.tmp 92, .const (.int .i64 40)]⟩]) [93])
  (.cond (.tmp 93) (.seq (.reg (straight [⟨some 94, none, .pur .mov [.tmp 3]⟩, ⟨some 95, none, .pur (.bin .sub) [.tmp 94, .const (.int .i64 1)]⟩, ⟨some 96, none, .pur .mov [.tmp 0]⟩, ⟨some 97, none, .pur (.len false) [.tmp 96]⟩, ⟨some 98, none, .pur (.bin .leq) [.tmp 95, .tmp 97]⟩, ⟨some 2, none, .pur .mov [.tmp 98]⟩]) [2])
  (.ret)) (.skip))))))))
  (.reg (straight [⟨some 57, none, .pur .mov [.tmp 9]⟩, ⟨some 58, none, .pur (.bin .add) [.tmp 57, .const (.int .i64 1)]⟩, ⟨some 9, none, .pur .mov [.tmp 58]⟩]) [9]))
def S_forebaylaw31_ReachLongest : Fun := ⟨111, [2, 13, 0, 20, 4, 6, 3, 52, 9, 56, 7, 5, 8, 11, 10, 91, 93], [.tmp 2],
  .seq (.reg (straight [⟨some 2, none, .pur .mov [.const (.bool false)]⟩]) [2])
  (.seq (.seq (.reg (straight [⟨some 12, none, .eff (.call 43) []⟩, ⟨some 13, none, .pur .not [.tmp 12]⟩]) [13])
  (.cond (.tmp 13) (.seq (.reg (straight [⟨some 2, none, .pur .mov [.const (.bool false)]⟩]) [2])
  (.ret)) (.skip)))
  (.seq (.seq (.reg (straight [⟨some 14, none, .pur .mov [.tmp 0]⟩, ⟨some 15, none, .eff (.call 44) [.tmp 14]⟩, ⟨some 16, none, .pur .mov [.tmp 15]⟩, ⟨some 17, some (16, false), .pur .mov [.tmp 0]⟩, ⟨some 18, some (16, false), .eff (.call 47) [.tmp 17]⟩, ⟨some 19, some (16, false), .pur (.bin .neq) [.tmp 18, .const (.int .i64 0)]⟩, ⟨some 20, none, .pur .pick [.tmp 16, .const (.bool true), .tmp 19]⟩]) [20])
  (.cond (.tmp 20) (.seq (.reg (straight [⟨some 2, none, .pur .mov [.const (.bool true)]⟩]) [2])
  (.ret)) (.skip)))
  (.seq (.reg (straight [⟨some 22, none, .pur .mov [.tmp 0]⟩, ⟨some 23, none, .eff (.call 46) [.tmp 22]⟩, ⟨some 24, none, .eff (.call 48) [.tmp 23]⟩, ⟨some 21, none, .pur .mov [.tmp 24]⟩, ⟨some 25, none, .pur (.ext 0) [.tmp 21]⟩, ⟨some 26, none, .pur (.ext 1) [.tmp 21]⟩, ⟨some 3, none, .pur .mov [.tmp 25]⟩, ⟨some 4, none, .pur .mov [.tmp 26]⟩]) [3, 4])
  (.seq (.reg (straight [⟨some 28, none, .pur .mov [.tmp 0]⟩, ⟨some 29, none, .eff (.call 46) [.tmp 28]⟩, ⟨some 30, none, .eff (.call 45) [.tmp 29]⟩, ⟨some 27, none, .pur .mov [.tmp 30]⟩, ⟨some 31, none, .pur (.ext 0) [.tmp 27]⟩, ⟨some 32, none, .pur (.ext 1) [.tmp 27]⟩, ⟨some 5, none, .pur .mov [.tmp 31]⟩, ⟨some 6, none, .pur .mov [.tmp 32]⟩]) [5, 6])
  (.seq (.seq (.reg (straight [⟨some 33, none, .pur .mov [.tmp 4]⟩, ⟨some 34, none, .pur (.bin .neq) [.tmp 33, .const (.int .i64 0)]⟩, ⟨some 35, none, .pur .mov [.tmp 34]⟩, ⟨some 36, some (35, false), .pur .mov [.tmp 6]⟩, ⟨some 37, some (35, false), .pur (.bin .neq) [.tmp 36, .const (.int .i64 0)]⟩, ⟨some 38, none, .pur .pick [.tmp 35, .const (.bool true), .tmp 37]⟩, ⟨some 39, none, .pur .mov [.tmp 38]⟩, ⟨some 40, some (39, false), .pur .mov [.tmp 3]⟩, ⟨some 41, some (39, false), .pur .mov [.tmp 0]⟩, ⟨some 42, some (39, false), .pur (.len false) [.tmp 41]⟩, ⟨some 43, some (39, false), .pur (.bin .gtr) [.tmp 40, .tmp 42]⟩, ⟨some 44, none, .pur .pick [.tmp 39, .const (.bool true), .tmp 43]⟩, ⟨some 45, none, .pur .mov [.tmp 44]⟩, ⟨some 46, some (45, false), .pur .mov [.tmp 3]⟩, ⟨some 47, some (45, false), .pur (.bin .eql) [.tmp 46, .const (.int .i64 0)]⟩, ⟨some 48, some (45, false), .pur .mov [.tmp 0]⟩, ⟨some 49, some (45, false), .pur (.len false) [.tmp 48]⟩, ⟨some 50, some (45, false), .pur (.bin .eql) [.tmp 49, .const (.int .i64 0)]⟩, ⟨some 51, some (45, false), .pur (.eqb true) [.tmp 47, .tmp 50]⟩, ⟨some 52, none, .pur .pick [.tmp 45, .const (.bool true), .tmp 51]⟩]) [52])
  (.cond (.tmp 52) (.seq (.reg (straight [⟨some 2, none, .pur .mov [.const (.bool false)]⟩]) [2])
  (.ret)) (.skip)))
  (.seq (.reg (straight [⟨some 7, none, .pur .mov [.const (.bool true)]⟩]) [7])
  (.seq (.reg (straight [⟨some 8, none, .pur .mov [.const (.int .i64 0)]⟩]) [8])
  (.seq (.seq (.reg (straight [⟨some 9, none, .pur .mov [.const (.int .i64 0)]⟩]) [9])
  (.block 0 (.loop S_forebaylaw31_ReachLongest_L1)))
  (.seq (.reg (straight [⟨some 99, none, .pur .mov [.tmp 3]⟩, ⟨some 100, none, .pur .mov [.tmp 0]⟩, ⟨some 101, none, .pur (.len false) [.tmp 100]⟩, ⟨some 102, none, .pur (.bin .eql) [.tmp 99, .tmp 101]⟩, ⟨some 103, none, .pur .mov [.tmp 7]⟩, ⟨some 104, none, .pur (.eqb false) [.tmp 102, .tmp 103]⟩, ⟨some 105, none, .pur .mov [.tmp 104]⟩, ⟨some 106, some (105, true), .pur .mov [.tmp 8]⟩, ⟨some 107, some (105, true), .pur .mov [.tmp 3]⟩, ⟨some 108, some (105, true), .pur (.bin .sub) [.tmp 107, .const (.int .i64 1)]⟩, ⟨some 109, some (105, true), .pur (.bin .geq) [.tmp 106, .tmp 108]⟩, ⟨some 110, none, .pur .pick [.tmp 105, .tmp 109, .const (.bool false)]⟩, ⟨some 2, none, .pur .mov [.tmp 110]⟩]) [2])
  (.ret))))))))))⟩
theorem K_forebaylaw31_ReachLongest : compF Try.prog 12 = some S_forebaylaw31_ReachLongest := by kernel_rfl

-- 43
def S_forebaylaw31_works : Fun := ⟨64, [0, 2, 1, 3, 4], [.tmp 0],
  .seq (.reg (straight [⟨some 0, none, .pur .mov [.const (.bool false)]⟩]) [0])
  (.seq (.reg (straight [⟨some 6, none, .eff (.bsl 3 1) [.const (.int .i64 0)]⟩, ⟨some 7, none, .eff (.bsl 3 1) [.const (.int .i64 0)]⟩, ⟨some 8, none, .eff (.bsl 3 1) [.const (.int .i64 1), .const (.int .i64 2)]⟩, ⟨some 9, none, .eff (.bsl 29 1) [.const (.slice none 0 0), .tmp 6, .tmp 7, .tmp 8]⟩, ⟨some 10, none, .eff (.call 45) [.tmp 9]⟩, ⟨some 5, none, .pur .mov [.tmp 10]⟩, ⟨some 11, none, .pur (.ext 0) [.tmp 5]⟩, ⟨some 12, none, .pur (.ext 1) [.tmp 5]⟩, ⟨some 1, none, .pur .mov [.tmp 11]⟩, ⟨some 2, none, .pur .mov [.tmp 12]⟩]) [1, 2])
  (.seq (.reg (straight [⟨some 14, none, .eff (.bsl 3 1) [.const (.int .i64 0)]⟩, ⟨some 15, none, .eff (.bsl 3 1) [.const (.int .i64 0)]⟩, ⟨some 16, none, .eff (.bsl 3 1) [.const (.int .i64 1), .const (.int .i64 2)]⟩, ⟨some 17, none, .eff (.bsl 29 1) [.const (.slice none 0 0), .tmp 14, .tmp 15, .tmp 16]⟩, ⟨some 18, none, .eff (.call 48) [.tmp 17]⟩, ⟨some 13, none, .pur .mov [.tmp 18]⟩, ⟨some 19, none, .pur (.ext 0) [.tmp 13]⟩, ⟨some 20, none, .pur (.ext 1) [.tmp 13]⟩, ⟨some 3, none, .pur .mov [.tmp 19]⟩, ⟨some 4, none, .pur .mov [.tmp 20]⟩]) [3, 4])
  (.seq (.reg (straight [⟨some 21, none, .pur .mov [.tmp 2]⟩, ⟨some 22, none, .pur (.bin .eql) [.tmp 21, .const (.int .i64 0)]⟩, ⟨some 23, none, .pur .mov [.tmp 22]⟩, ⟨some 24, some (23, true), .pur .mov [.tmp 1]⟩, ⟨some 25, some (23, true), .pur (.eqn true 0) [.tmp 24]⟩, ⟨some 26, none, .pur .pick [.tmp 23, .tmp 25, .const (.bool false)]⟩, ⟨some 27, none, .pur .mov [.tmp 26]⟩, ⟨some 28, some (27, true), .pur .mov [.tmp 1]⟩, ⟨some 29, some (27, true), .eff (.call 51) [.tmp 28, .const (.int .i64 0), .const (.int .i64 3)]⟩, ⟨some 30, none, .pur .pick [.tmp 27, .tmp 29, .const (.bool false)]⟩, ⟨some 31, none, .pur .mov [.tmp 30]⟩, ⟨some 32, some (31, true), .pur .mov [.tmp 1]⟩, ⟨some 33, some (31, true), .eff (.call 52) [.tmp 32, .const (.int .i64 1), .const (.int .i64 2)]⟩, ⟨some 34, none, .pur .pick [.tmp 31, .tmp 33, .const (.bool false)]⟩, ⟨some 35, none, .pur .mov [.tmp 34]⟩, ⟨some 36, some (35, true), .pur .mov [.tmp 1]⟩, ⟨some 37, some (35, true), .eff (.call 51) [.tmp 36, .const (.int .i64 1), .const (.int .i64 2)]⟩, ⟨some 38, some (35, true), .pur .not [.tmp 37]⟩, ⟨some 39, none, .pur .pick [.tmp 35, .tmp 38, .const (.bool false)]⟩, ⟨some 40, none, .pur .mov [.tmp 39]⟩, ⟨some 41, some (40, true), .pur .mov [.tmp 1]⟩, ⟨some 42, some (40, true), .eff (.call 53) [.tmp 41, .const (.int .i64 3)]⟩, ⟨some 43, some (40, true), .pur (.bin .eql) [.tmp 42, .const (.int .i64 3)]⟩, ⟨some 44, none, .pur .pick [.tmp 40, .tmp 43, .const (.bool false)]⟩, ⟨some 45, none, .pur .mov [.tmp 44]⟩, ⟨some 46, some (45, true), .pur .mov [.tmp 3]⟩, ⟨some 47, some (45, true), .pur (.bin .eql) [.tmp 46, .const (.int .i64 3)]⟩, ⟨some 48, none, .pur .pick [.tmp 45, .tmp 47, .const (.bool false)]⟩, ⟨some 49, none, .pur .mov [.tmp 48]⟩, ⟨some 50, some (49, true), .pur .mov [.tmp 4]⟩, ⟨some 51, some (49, true), .pur (.bin .eql) [.tmp 50, .const (.int .i64 0)]⟩, ⟨some 52, none, .pur .pick [.tmp 49, .tmp 51, .const (.bool false)]⟩, ⟨some 53, none, .pur .mov [.tmp 52]⟩, ⟨some 54, some (53, true), .eff (.bsl 3 1) [.const (.int .i64 0)]⟩, ⟨some 55, some (53, true), .eff (.bsl 29 1) [.const (.slice none 0 0), .tmp 54]⟩, ⟨some 56, some (53, true), .eff (.bsl 3 1) [.const (.int .i64 0), .const (.int .i64 1)]⟩, ⟨some 57, some (53, true), .eff (.call 55) [.tmp 55, .tmp 56]⟩, ⟨some 58, none, .pur .pick [.tmp 53, .tmp 57, .const (.bool false)]⟩, ⟨some 59, none, .pur .mov [.tmp 58]⟩, ⟨some 60, some (59, true), .pur .mov [.tmp 1]⟩, ⟨some 61, some (59, true), .eff (.call 50) [.tmp 60]⟩, ⟨some 62, some (59, true), .pur (.bin .eql) [.tmp 61, .const (.int .i64 4)]⟩, ⟨some 63, none, .pur .pick [.tmp 59, .tmp 62, .const (.bool false)]⟩, ⟨some 0, none, .pur .mov [.tmp 63]⟩]) [0])
  (.ret))))⟩
theorem K_forebaylaw31_works : compF Try.prog 43 = some S_forebaylaw31_works := by kernel_rfl

-- 44
def S_forebaylaw31_great_L1 : SCode :=
  .seq (.seq (.reg (straight [⟨some 4, none, .pur .mov [.tmp 3]⟩, ⟨some 5, none, .pur .mov [.tmp 0]⟩, ⟨some 6, none, .pur (.len false) [.tmp 5]⟩, ⟨some 7, none, .pur (.bin .lss) [.tmp 4, .tmp 6]⟩]) [7])
  (.cond (.tmp 7) (.skip) (.exit 0)))
  (.seq (.block 1 (.seq (.reg (straight [⟨some 10, none, .pur .mov [.tmp 3]⟩, ⟨some 11, none, .pur (.bin .geq) [.tmp 10, .const (.int .i64 1002)]⟩, ⟨some 12, none, .pur .mov [.tmp 11]⟩, ⟨some 13, some (12, false), .pur .mov [.tmp 0]⟩, ⟨some 14, some (12, false), .pur .mov [.tmp 3]⟩, ⟨some 15, some (12, false), .pur (.ixa 1) [.tmp 13, .tmp 14]⟩, ⟨some 16, some (12, false), .ld none (.tmp 15)⟩, ⟨some 17, some (12, false), .pur (.len false) [.tmp 16]⟩, ⟨some 18, some (12, false), .pur (.bin .gtr) [.tmp 17, .const (.int .i64 60)]⟩, ⟨some 19, none, .pur .pick [.tmp 12, .const (.bool true), .tmp 18]⟩]) [19])
  (.cond (.tmp 19) (.seq (.reg (straight [⟨some 2, none, .pur .mov [.const (.bool true)]⟩]) [2])
  (.ret)) (.skip))))
  (.reg (straight [⟨some 8, none, .pur .mov [.tmp 3]⟩, ⟨some 9, none, .pur (.bin .add) [.tmp 8, .const (.int .i64 1)]⟩, ⟨some 3, none, .pur .mov [.tmp 9]⟩]) [3]))
def S_forebaylaw31_great : Fun := ⟨20, [2, 3, 0, 7, 19], [.tmp 2],
  .seq (.reg (straight [⟨some 2, none, .pur .mov [.const (.bool false)]⟩]) [2])
  (.seq (.seq (.reg (straight [⟨some 3, none, .pur .mov [.const (.int .i64 0)]⟩]) [3])
  (.block 0 (.loop S_forebaylaw31_great_L1)))
  (.seq (.reg (straight [⟨some 2, none, .pur .mov [.const (.bool false)]⟩]) [2])
  (.ret)))⟩
theorem K_forebaylaw31_great : compF Try.prog 44 = some S_forebaylaw31_great := by kernel_rfl

-- 45
def S_reach_New_L3 : SCode :=
  .seq (.reg (straight [⟨some 56, none, .pur (.bin .lss) [.tmp 55, .tmp 54]⟩]) [56])
  (.seq (.cond (.tmp 56) (.skip) (.exit 4))
  (.seq (.block 5 (.seq (.reg (straight [⟨some 57, none, .pur .mov [.tmp 55]⟩, ⟨some 58, none, .pur (.ixa 1) [.tmp 53, .tmp 55]⟩, ⟨some 59, none, .ld none (.tmp 58)⟩, ⟨some 11, none, .pur .mov [.tmp 57]⟩, ⟨some 12, none, .pur .mov [.tmp 59]⟩]) [11, 12])
  (.reg (straight [⟨some 60, none, .pur .mov [.tmp 8]⟩, ⟨some 61, none, .pur .mov [.tmp 11]⟩, ⟨some 62, none, .pur (.ixa 1) [.tmp 60, .tmp 61]⟩, ⟨some 63, none, .ld none (.tmp 62)⟩, ⟨some 64, none, .pur .mov [.tmp 12]⟩, ⟨some 65, none, .pur (.bin .or) [.tmp 63, .tmp 64]⟩, ⟨some 66, none, .pur (.ixa 1) [.tmp 60, .tmp 61]⟩, ⟨none, none, .eff (.st 1) [.tmp 66, .tmp 65]⟩]) [])))
  (.reg (straight [⟨some 67, none, .pur (.bin .add) [.tmp 55, .const (.int .i64 1)]⟩, ⟨some 55, none, .pur .mov [.tmp 67]⟩]) [55])))
def S_reach_New_L2 : SCode :=
  .seq (.reg (straight [⟨some 34, none, .pur (.bin .lss) [.tmp 33, .tmp 32]⟩]) [34])
  (.seq (.cond (.tmp 34) (.skip) (.exit 2))
  (.seq (.block 3 (.seq (.reg (straight [⟨some 35, none, .pur (.ixa 1) [.tmp 31, .tmp 33]⟩, ⟨some 36, none, .ld none (.tmp 35)⟩, ⟨some 10, none, .pur .mov [.tmp 36]⟩]) [10])
  (.seq (.reg (.run ⟨some 37, none, .pur .mov [.tmp 8]⟩ (.run ⟨some 38, none, .pur .mov [.tmp 10]⟩ (.run ⟨some 39, none, .pur (.bin .quo) [.tmp 38, .const (.int .i64 64)]⟩ (.run ⟨some 40, none, .pur (.ixa 1) [.tmp 37, .tmp 39]⟩ (.run ⟨some 41, none, .ld none (.tmp 40)⟩ (.run ⟨some 42, none, .pur .mov [.tmp 10]⟩ (.run ⟨some 43, none, .pur (.bin .rem) [.tmp 42, .const (.int .i64 64)]⟩ (.run ⟨some 44, none, .pur (.bin .shl) [.const (.int .u64 1), .tmp 43]⟩ (.run ⟨some 45, none, .pur (.bin .or) [.tmp 41, .tmp 44]⟩ (.run ⟨some 46, none, .pur (.ixa 1) [.tmp 37, .tmp 39]⟩ (.eff ⟨none, none, .eff (.st 1) [.tmp 46, .tmp 45]⟩ [] .done))))))))))) [])
  (.seq (.reg (straight [⟨some 47, none, .pur .mov [.tmp 5]⟩, ⟨some 48, none, .pur .nilc [.tmp 47]⟩, ⟨some 49, none, .pur (.fla 0) [.tmp 48]⟩, ⟨some 50, none, .ld none (.tmp 49)⟩, ⟨some 51, none, .pur .mov [.tmp 10]⟩, ⟨some 52, none, .pur (.ixa 1) [.tmp 50, .tmp 51]⟩, ⟨some 53, none, .ld none (.tmp 52)⟩, ⟨some 54, none, .pur (.len false) [.tmp 53]⟩, ⟨some 55, none, .pur .mov [.const (.int .i64 0)]⟩]) [53, 54, 55])
  (.block 4 (.loop S_reach_New_L3))))))
  (.reg (straight [⟨some 68, none, .pur (.bin .add) [.tmp 33, .const (.int .i64 1)]⟩, ⟨some 33, none, .pur .mov [.tmp 68]⟩]) [33])))
def S_reach_New_L1 : SCode :=
  .seq (.reg (straight [⟨some 23, none, .pur (.bin .lss) [.tmp 22, .tmp 21]⟩]) [23])
  (.seq (.cond (.tmp 23) (.skip) (.exit 0))
  (.seq (.block 1 (.seq (.reg (straight [⟨some 24, none, .pur .mov [.tmp 22]⟩, ⟨some 25, none, .pur (.ixa 1) [.tmp 20, .tmp 22]⟩, ⟨some 26, none, .ld none (.tmp 25)⟩, ⟨some 6, none, .pur .mov [.tmp 24]⟩, ⟨some 7, none, .pur .mov [.tmp 26]⟩]) [6, 7])
  (.seq (.reg (straight [⟨some 27, none, .pur .mov [.tmp 6]⟩, ⟨some 28, none, .pur (.bin .quo) [.tmp 27, .const (.int .i64 64)]⟩, ⟨some 29, none, .pur (.bin .add) [.tmp 28, .const (.int .i64 1)]⟩, ⟨some 30, none, .eff (.mks 36 1 8 [.int .u64 0]) [.tmp 29, .tmp 29]⟩, ⟨some 8, none, .pur .mov [.tmp 30]⟩]) [8])
  (.seq (.seq (.reg (straight [⟨some 31, none, .pur .mov [.tmp 7]⟩, ⟨some 32, none, .pur (.len false) [.tmp 31]⟩, ⟨some 33, none, .pur .mov [.const (.int .i64 0)]⟩]) [31, 32, 33])
  (.block 2 (.loop S_reach_New_L2)))
  (.reg (straight [⟨some 69, none, .pur .mov [.tmp 5]⟩, ⟨some 70, none, .pur .mov [.tmp 5]⟩, ⟨some 71, none, .pur .nilc [.tmp 70]⟩, ⟨some 72, none, .pur (.fla 0) [.tmp 71]⟩, ⟨some 73, none, .ld none (.tmp 72)⟩, ⟨some 74, none, .pur .mov [.tmp 8]⟩, ⟨some 75, none, .eff (.bsl 149 1) [.tmp 74]⟩, ⟨some 76, none, .eff (.app 149 1 24 [.slice none 0 0]) [.tmp 73, .tmp 75]⟩, ⟨some 77, none, .pur .nilc [.tmp 69]⟩, ⟨some 78, none, .pur (.fla 0) [.tmp 77]⟩, ⟨none, none, .eff (.st 1) [.tmp 78, .tmp 76]⟩]) [])))))
  (.reg (straight [⟨some 79, none, .pur (.bin .add) [.tmp 22, .const (.int .i64 1)]⟩, ⟨some 22, none, .pur .mov [.tmp 79]⟩]) [22])))
def S_reach_New : Fun := ⟨81, [2, 3, 0, 4, 16, 22, 21, 23, 20, 6, 7, 33, 32, 34, 31, 8, 10, 5, 55, 54, 56, 53, 11, 12], [.tmp 2, .tmp 3],
  .seq (.reg (straight [⟨some 2, none, .pur .mov [.const (.pointer none)]⟩, ⟨some 3, none, .pur .mov [.const (.int .i64 0)]⟩]) [2, 3])
  (.seq (.seq (.reg (straight [⟨some 13, none, .pur .mov [.tmp 0]⟩, ⟨some 14, none, .eff (.call 94) [.tmp 13]⟩, ⟨some 4, none, .pur .mov [.tmp 14]⟩]) [4])
  (.seq (.reg (straight [⟨some 15, none, .pur .mov [.tmp 4]⟩, ⟨some 16, none, .pur (.bin .neq) [.tmp 15, .const (.int .i64 0)]⟩]) [16])
  (.cond (.tmp 16) (.seq (.reg (straight [⟨some 17, none, .pur .mov [.tmp 4]⟩, ⟨some 2, none, .pur .mov [.const (.pointer none)]⟩, ⟨some 3, none, .pur .mov [.tmp 17]⟩]) [2, 3])
  (.ret)) (.skip))))
  (.seq (.reg (straight [⟨some 18, none, .pur (.bld [.slice none 0 0] []) []⟩, ⟨some 19, none, .eff (.box 147) [.tmp 18]⟩, ⟨some 5, none, .pur .mov [.tmp 19]⟩]) [5])
  (.seq (.seq (.reg (straight [⟨some 20, none, .pur .mov [.tmp 0]⟩, ⟨some 21, none, .pur (.len false) [.tmp 20]⟩, ⟨some 22, none, .pur .mov [.const (.int .i64 0)]⟩]) [20, 21, 22])
  (.block 0 (.loop S_reach_New_L1)))
  (.seq (.reg (straight [⟨some 80, none, .pur .mov [.tmp 5]⟩, ⟨some 2, none, .pur .mov [.tmp 80]⟩, ⟨some 3, none, .pur .mov [.const (.int .i64 0)]⟩]) [2, 3])
  (.ret)))))⟩
theorem K_reach_New : compF Try.prog 45 = some S_reach_New := by kernel_rfl

-- 46
def S_forebaylaw31_own_L1 : SCode :=
  .seq (.seq (.reg (straight [⟨some 5, none, .pur .mov [.tmp 4]⟩, ⟨some 6, none, .pur .mov [.tmp 0]⟩, ⟨some 7, none, .pur (.len false) [.tmp 6]⟩, ⟨some 8, none, .pur (.bin .lss) [.tmp 5, .tmp 7]⟩]) [8])
  (.cond (.tmp 8) (.skip) (.exit 0)))
  (.seq (.block 1 (.reg (straight [⟨some 11, none, .pur .mov [.tmp 3]⟩, ⟨some 12, none, .eff (.bsl 3 1) []⟩, ⟨some 13, none, .pur .mov [.tmp 0]⟩, ⟨some 14, none, .pur .mov [.tmp 4]⟩, ⟨some 15, none, .pur (.ixa 1) [.tmp 13, .tmp 14]⟩, ⟨some 16, none, .ld none (.tmp 15)⟩, ⟨some 17, none, .eff (.app 3 1 8 [.int .i64 0]) [.tmp 12, .tmp 16]⟩, ⟨some 18, none, .eff (.bsl 29 1) [.tmp 17]⟩, ⟨some 19, none, .eff (.app 29 1 24 [.slice none 0 0]) [.tmp 11, .tmp 18]⟩, ⟨some 3, none, .pur .mov [.tmp 19]⟩]) [3]))
  (.reg (straight [⟨some 9, none, .pur .mov [.tmp 4]⟩, ⟨some 10, none, .pur (.bin .add) [.tmp 9, .const (.int .i64 1)]⟩, ⟨some 4, none, .pur .mov [.tmp 10]⟩]) [4]))
def S_forebaylaw31_own : Fun := ⟨21, [2, 4, 0, 8, 3], [.tmp 2],
  .seq (.reg (straight [⟨some 2, none, .pur .mov [.const (.slice none 0 0)]⟩]) [2])
  (.seq (.reg (straight [⟨some 3, none, .pur .mov [.const (.slice none 0 0)]⟩]) [3])
  (.seq (.seq (.reg (straight [⟨some 4, none, .pur .mov [.const (.int .i64 0)]⟩]) [4])
  (.block 0 (.loop S_forebaylaw31_own_L1)))
  (.seq (.reg (straight [⟨some 20, none, .pur .mov [.tmp 3]⟩, ⟨some 2, none, .pur .mov [.tmp 20]⟩]) [2])
  (.ret))))⟩
theorem K_forebaylaw31_own : compF Try.prog 46 = some S_forebaylaw31_own := by kernel_rfl

-- 47
def S_forebayref31_Check_L2 : SCode :=
  .seq (.seq (.reg (straight [⟨some 14, none, .pur .mov [.tmp 4]⟩, ⟨some 15, none, .pur .mov [.tmp 0]⟩, ⟨some 16, none, .pur .mov [.tmp 3]⟩, ⟨some 17, none, .pur (.ixa 1) [.tmp 15, .tmp 16]⟩, ⟨some 18, none, .ld none (.tmp 17)⟩, ⟨some 19, none, .pur (.len false) [.tmp 18]⟩, ⟨some 20, none, .pur (.bin .lss) [.tmp 14, .tmp 19]⟩]) [20])
  (.cond (.tmp 20) (.skip) (.exit 2)))
  (.seq (.block 3 (.seq (.reg (straight [⟨some 23, none, .pur .mov [.tmp 0]⟩, ⟨some 24, none, .pur .mov [.tmp 3]⟩, ⟨some 25, none, .pur (.ixa 1) [.tmp 23, .tmp 24]⟩, ⟨some 26, none, .ld none (.tmp 25)⟩, ⟨some 27, none, .pur .mov [.tmp 4]⟩, ⟨some 28, none, .pur (.ixa 1) [.tmp 26, .tmp 27]⟩, ⟨some 29, none, .ld none (.tmp 28)⟩, ⟨some 30, none, .pur (.bin .lss) [.tmp 29, .const (.int .i64 0)]⟩, ⟨some 31, none, .pur .mov [.tmp 30]⟩, ⟨some 32, some (31, false), .pur .mov [.tmp 0]⟩, ⟨some 33, some (31, false), .pur .mov [.tmp 3]⟩, ⟨some 34, some (31, false), .pur (.ixa 1) [.tmp 32, .tmp 33]⟩, ⟨some 35, some (31, false), .ld none (.tmp 34)⟩, ⟨some 36, some (31, false), .pur .mov [.tmp 4]⟩, ⟨some 37, some (31, false), .pur (.ixa 1) [.tmp 35, .tmp 36]⟩, ⟨some 38, some (31, false), .ld none (.tmp 37)⟩, ⟨some 39, some (31, false), .pur .mov [.tmp 3]⟩, ⟨some 40, some (31, false), .pur (.bin .geq) [.tmp 38, .tmp 39]⟩, ⟨some 41, none, .pur .pick [.tmp 31, .const (.bool true), .tmp 40]⟩]) [41])
  (.cond (.tmp 41) (.seq (.reg (straight [⟨some 2, none, .pur .mov [.const (.int .i64 3)]⟩]) [2])
  (.ret)) (.skip))))
  (.reg (straight [⟨some 21, none, .pur .mov [.tmp 4]⟩, ⟨some 22, none, .pur (.bin .add) [.tmp 21, .const (.int .i64 1)]⟩, ⟨some 4, none, .pur .mov [.tmp 22]⟩]) [4]))
def S_forebayref31_Check_L1 : SCode :=
  .seq (.seq (.reg (straight [⟨some 8, none, .pur .mov [.tmp 3]⟩, ⟨some 9, none, .pur .mov [.tmp 0]⟩, ⟨some 10, none, .pur (.len false) [.tmp 9]⟩, ⟨some 11, none, .pur (.bin .lss) [.tmp 8, .tmp 10]⟩]) [11])
  (.cond (.tmp 11) (.skip) (.exit 0)))
  (.seq (.block 1 (.seq (.reg (straight [⟨some 4, none, .pur .mov [.const (.int .i64 0)]⟩]) [4])
  (.block 2 (.loop S_forebayref31_Check_L2))))
  (.reg (straight [⟨some 12, none, .pur .mov [.tmp 3]⟩, ⟨some 13, none, .pur (.bin .add) [.tmp 12, .const (.int .i64 1)]⟩, ⟨some 3, none, .pur .mov [.tmp 13]⟩]) [3]))
def S_forebayref31_Check : Fun := ⟨42, [2, 0, 7, 3, 11, 4, 20, 41], [.tmp 2],
  .seq (.reg (straight [⟨some 2, none, .pur .mov [.const (.int .i64 0)]⟩]) [2])
  (.seq (.seq (.reg (straight [⟨some 5, none, .pur .mov [.tmp 0]⟩, ⟨some 6, none, .pur (.len false) [.tmp 5]⟩, ⟨some 7, none, .pur (.bin .gtr) [.tmp 6, .const (.int .i64 1000)]⟩]) [7])
  (.cond (.tmp 7) (.seq (.reg (straight [⟨some 2, none, .pur .mov [.const (.int .i64 9)]⟩]) [2])
  (.ret)) (.skip)))
  (.seq (.seq (.reg (straight [⟨some 3, none, .pur .mov [.const (.int .i64 0)]⟩]) [3])
  (.block 0 (.loop S_forebayref31_Check_L1)))
  (.seq (.reg (straight [⟨some 2, none, .pur .mov [.const (.int .i64 0)]⟩]) [2])
  (.ret))))⟩
theorem K_forebayref31_Check : compF Try.prog 47 = some S_forebayref31_Check := by kernel_rfl

-- 48
def S_reach_Longest_L2 : SCode :=
  .seq (.reg (straight [⟨some 29, none, .pur (.bin .lss) [.tmp 28, .tmp 27]⟩]) [29])
  (.seq (.cond (.tmp 29) (.skip) (.exit 2))
  (.seq (.block 3 (.seq (.reg (straight [⟨some 30, none, .pur (.ixa 1) [.tmp 26, .tmp 28]⟩, ⟨some 31, none, .ld none (.tmp 30)⟩, ⟨some 10, none, .pur .mov [.tmp 31]⟩]) [10])
  (.reg (.run ⟨some 32, none, .pur .mov [.tmp 6]⟩ (.run ⟨some 33, none, .pur .mov [.tmp 7]⟩ (.run ⟨some 34, none, .pur .mov [.tmp 6]⟩ (.run ⟨some 35, none, .pur .mov [.tmp 7]⟩ (.run ⟨some 36, none, .pur (.ixa 1) [.tmp 34, .tmp 35]⟩ (.run ⟨some 37, none, .ld none (.tmp 36)⟩ (.run ⟨some 38, none, .pur .mov [.tmp 6]⟩ (.run ⟨some 39, none, .pur .mov [.tmp 10]⟩ (.run ⟨some 40, none, .pur (.ixa 1) [.tmp 38, .tmp 39]⟩ (.run ⟨some 41, none, .ld none (.tmp 40)⟩ (.run ⟨some 42, none, .pur (.minmax true) [.tmp 37, .tmp 41]⟩ (.run ⟨some 43, none, .pur (.ixa 1) [.tmp 32, .tmp 33]⟩ (.eff ⟨none, none, .eff (.st 1) [.tmp 43, .tmp 42]⟩ [] .done))))))))))))) [])))
  (.reg (straight [⟨some 44, none, .pur (.bin .add) [.tmp 28, .const (.int .i64 1)]⟩, ⟨some 28, none, .pur .mov [.tmp 44]⟩]) [28])))
def S_reach_Longest_L1 : SCode :=
  .seq (.reg (straight [⟨some 22, none, .pur (.bin .lss) [.tmp 21, .tmp 20]⟩]) [22])
  (.seq (.cond (.tmp 22) (.skip) (.exit 0))
  (.seq (.block 1 (.seq (.reg (straight [⟨some 23, none, .pur .mov [.tmp 21]⟩, ⟨some 24, none, .pur (.ixa 1) [.tmp 19, .tmp 21]⟩, ⟨some 25, none, .ld none (.tmp 24)⟩, ⟨some 7, none, .pur .mov [.tmp 23]⟩, ⟨some 8, none, .pur .mov [.tmp 25]⟩]) [7, 8])
  (.seq (.seq (.reg (straight [⟨some 26, none, .pur .mov [.tmp 8]⟩, ⟨some 27, none, .pur (.len false) [.tmp 26]⟩, ⟨some 28, none, .pur .mov [.const (.int .i64 0)]⟩]) [26, 27, 28])
  (.block 2 (.loop S_reach_Longest_L2)))
  (.seq (.reg (straight [⟨some 45, none, .pur .mov [.tmp 6]⟩, ⟨some 46, none, .pur .mov [.tmp 7]⟩, ⟨some 47, none, .pur (.ixa 1) [.tmp 45, .tmp 46]⟩, ⟨some 48, none, .ld none (.tmp 47)⟩, ⟨some 49, none, .pur (.bin .add) [.tmp 48, .const (.int .i64 1)]⟩, ⟨some 50, none, .pur (.ixa 1) [.tmp 45, .tmp 46]⟩, ⟨none, none, .eff (.st 1) [.tmp 50, .tmp 49]⟩]) [])
  (.reg (straight [⟨some 51, none, .pur .mov [.tmp 5]⟩, ⟨some 52, none, .pur .mov [.tmp 6]⟩, ⟨some 53, none, .pur .mov [.tmp 7]⟩, ⟨some 54, none, .pur (.ixa 1) [.tmp 52, .tmp 53]⟩, ⟨some 55, none, .ld none (.tmp 54)⟩, ⟨some 56, none, .pur (.minmax true) [.tmp 51, .tmp 55]⟩, ⟨some 5, none, .pur .mov [.tmp 56]⟩]) [5])))))
  (.reg (straight [⟨some 57, none, .pur (.bin .add) [.tmp 21, .const (.int .i64 1)]⟩, ⟨some 21, none, .pur .mov [.tmp 57]⟩]) [21])))
def S_reach_Longest : Fun := ⟨59, [2, 3, 0, 4, 14, 21, 20, 22, 19, 8, 28, 27, 29, 26, 6, 7, 10, 5], [.tmp 2, .tmp 3],
  .seq (.reg (straight [⟨some 2, none, .pur .mov [.const (.int .i64 0)]⟩, ⟨some 3, none, .pur .mov [.const (.int .i64 0)]⟩]) [2, 3])
  (.seq (.seq (.reg (straight [⟨some 11, none, .pur .mov [.tmp 0]⟩, ⟨some 12, none, .eff (.call 94) [.tmp 11]⟩, ⟨some 4, none, .pur .mov [.tmp 12]⟩]) [4])
  (.seq (.reg (straight [⟨some 13, none, .pur .mov [.tmp 4]⟩, ⟨some 14, none, .pur (.bin .neq) [.tmp 13, .const (.int .i64 0)]⟩]) [14])
  (.cond (.tmp 14) (.seq (.reg (straight [⟨some 15, none, .pur .mov [.tmp 4]⟩, ⟨some 2, none, .pur .mov [.const (.int .i64 0)]⟩, ⟨some 3, none, .pur .mov [.tmp 15]⟩]) [2, 3])
  (.ret)) (.skip))))
  (.seq (.reg (straight [⟨some 5, none, .pur .mov [.const (.int .i64 0)]⟩]) [5])
  (.seq (.reg (straight [⟨some 16, none, .pur .mov [.tmp 0]⟩, ⟨some 17, none, .pur (.len false) [.tmp 16]⟩, ⟨some 18, none, .eff (.mks 3 1 8 [.int .i64 0]) [.tmp 17, .tmp 17]⟩, ⟨some 6, none, .pur .mov [.tmp 18]⟩]) [6])
  (.seq (.seq (.reg (straight [⟨some 19, none, .pur .mov [.tmp 0]⟩, ⟨some 20, none, .pur (.len false) [.tmp 19]⟩, ⟨some 21, none, .pur .mov [.const (.int .i64 0)]⟩]) [19, 20, 21])
  (.block 0 (.loop S_reach_Longest_L1)))
  (.seq (.reg (straight [⟨some 58, none, .pur .mov [.tmp 5]⟩, ⟨some 2, none, .pur .mov [.tmp 58]⟩, ⟨some 3, none, .pur .mov [.const (.int .i64 0)]⟩]) [2, 3])
  (.ret))))))⟩
theorem K_reach_Longest : compF Try.prog 48 = some S_reach_Longest := by kernel_rfl

-- 49
def S_forebayref31_Longest_L1 : SCode :=
  .seq (.seq (.reg (straight [⟨some 16, none, .pur .mov [.tmp 7]⟩, ⟨some 17, none, .pur .mov [.tmp 0]⟩, ⟨some 18, none, .pur (.len false) [.tmp 17]⟩, ⟨some 19, none, .pur (.bin .lss) [.tmp 16, .tmp 18]⟩]) [19])
  (.cond (.tmp 19) (.skip) (.exit 0)))
  (.seq (.block 1 (.reg (straight [⟨some 22, none, .pur .mov [.tmp 6]⟩, ⟨some 23, none, .pur .mov [.tmp 0]⟩, ⟨some 24, none, .pur .mov [.tmp 7]⟩, ⟨some 25, none, .pur .mov [.tmp 5]⟩, ⟨some 26, none, .eff (.call 95) [.tmp 23, .tmp 24, .tmp 25]⟩, ⟨some 27, none, .pur (.minmax true) [.tmp 22, .tmp 26]⟩, ⟨some 6, none, .pur .mov [.tmp 27]⟩]) [6]))
  (.reg (straight [⟨some 20, none, .pur .mov [.tmp 7]⟩, ⟨some 21, none, .pur (.bin .add) [.tmp 20, .const (.int .i64 1)]⟩, ⟨some 7, none, .pur .mov [.tmp 21]⟩]) [7]))
def S_forebayref31_Longest : Fun := ⟨29, [2, 3, 0, 4, 11, 7, 19, 6, 5], [.tmp 2, .tmp 3],
  .seq (.reg (straight [⟨some 2, none, .pur .mov [.const (.int .i64 0)]⟩, ⟨some 3, none, .pur .mov [.const (.int .i64 0)]⟩]) [2, 3])
  (.seq (.reg (straight [⟨some 8, none, .pur .mov [.tmp 0]⟩, ⟨some 9, none, .eff (.call 47) [.tmp 8]⟩, ⟨some 4, none, .pur .mov [.tmp 9]⟩]) [4])
  (.seq (.seq (.reg (straight [⟨some 10, none, .pur .mov [.tmp 4]⟩, ⟨some 11, none, .pur (.bin .neq) [.tmp 10, .const (.int .i64 0)]⟩]) [11])
  (.cond (.tmp 11) (.seq (.reg (straight [⟨some 12, none, .pur .mov [.tmp 4]⟩, ⟨some 2, none, .pur .mov [.const (.int .i64 0)]⟩, ⟨some 3, none, .pur .mov [.tmp 12]⟩]) [2, 3])
  (.ret)) (.skip)))
  (.seq (.reg (straight [⟨some 13, none, .pur .mov [.tmp 0]⟩, ⟨some 14, none, .pur (.len false) [.tmp 13]⟩, ⟨some 15, none, .eff (.mks 3 1 8 [.int .i64 0]) [.tmp 14, .tmp 14]⟩, ⟨some 5, none, .pur .mov [.tmp 15]⟩]) [5])
  (.seq (.reg (straight [⟨some 6, none, .pur .mov [.const (.int .i64 0)]⟩]) [6])
  (.seq (.seq (.reg (straight [⟨some 7, none, .pur .mov [.const (.int .i64 0)]⟩]) [7])
  (.block 0 (.loop S_forebayref31_Longest_L1)))
  (.seq (.reg (straight [⟨some 28, none, .pur .mov [.tmp 6]⟩, ⟨some 2, none, .pur .mov [.tmp 28]⟩, ⟨some 3, none, .pur .mov [.const (.int .i64 0)]⟩]) [2, 3])
  (.ret)))))))⟩
theorem K_forebayref31_Longest : compF Try.prog 49 = some S_forebayref31_Longest := by kernel_rfl

-- 50
def S_reach_Reach_Len : Fun := ⟨10, [2, 0, 4], [.tmp 2],
  .seq (.reg (straight [⟨some 2, none, .pur .mov [.const (.int .i64 0)]⟩]) [2])
  (.seq (.seq (.reg (straight [⟨some 3, none, .pur .mov [.tmp 0]⟩, ⟨some 4, none, .pur (.eqn false 0) [.tmp 3]⟩]) [4])
  (.cond (.tmp 4) (.seq (.reg (straight [⟨some 2, none, .pur .mov [.const (.int .i64 0)]⟩]) [2])
  (.ret)) (.skip)))
  (.seq (.reg (straight [⟨some 5, none, .pur .mov [.tmp 0]⟩, ⟨some 6, none, .pur .nilc [.tmp 5]⟩, ⟨some 7, none, .pur (.fla 0) [.tmp 6]⟩, ⟨some 8, none, .ld none (.tmp 7)⟩, ⟨some 9, none, .pur (.len false) [.tmp 8]⟩, ⟨some 2, none, .pur .mov [.tmp 9]⟩]) [2])
  (.ret)))⟩
theorem K_reach_Reach_Len : compF Try.prog 50 = some S_reach_Reach_Len := by kernel_rfl

-- 51
def S_reach_Reach_Before : Fun := ⟨38, [6, 0, 1, 2], [.tmp 6],
  .seq (.reg (straight [⟨some 6, none, .pur .mov [.const (.bool false)]⟩]) [6])
  (.seq (.reg (straight [⟨some 7, none, .pur .mov [.tmp 0]⟩, ⟨some 8, none, .pur .mov [.tmp 1]⟩, ⟨some 9, none, .eff (.call 96) [.tmp 7, .tmp 8]⟩, ⟨some 10, none, .pur .mov [.tmp 9]⟩, ⟨some 11, some (10, true), .pur .mov [.tmp 0]⟩, ⟨some 12, some (10, true), .pur .mov [.tmp 2]⟩, ⟨some 13, some (10, true), .eff (.call 96) [.tmp 11, .tmp 12]⟩, ⟨some 14, none, .pur .pick [.tmp 10, .tmp 13, .const (.bool false)]⟩, ⟨some 15, none, .pur .mov [.tmp 14]⟩, ⟨some 16, some (15, true), .pur .mov [.tmp 1]⟩, ⟨some 17, some (15, true), .pur .mov [.tmp 2]⟩, ⟨some 18, some (15, true), .pur (.bin .lss) [.tmp 16, .tmp 17]⟩, ⟨some 19, none, .pur .pick [.tmp 15, .tmp 18, .const (.bool false)]⟩, ⟨some 20, none, .pur .mov [.tmp 19]⟩, ⟨some 21, some (20, true), .pur .mov [.tmp 0]⟩, ⟨some 22, some (20, true), .pur .nilc [.tmp 21]⟩, ⟨some 23, some (20, true), .pur (.fla 0) [.tmp 22]⟩, ⟨some 24, some (20, true), .ld none (.tmp 23)⟩, ⟨some 25, some (20, true), .pur .mov [.tmp 2]⟩, ⟨some 26, some (20, true), .pur (.ixa 1) [.tmp 24, .tmp 25]⟩, ⟨some 27, some (20, true), .ld none (.tmp 26)⟩, ⟨some 28, some (20, true), .pur .mov [.tmp 1]⟩, ⟨some 29, some (20, true), .pur (.bin .quo) [.tmp 28, .const (.int .i64 64)]⟩, ⟨some 30, some (20, true), .pur (.ixa 1) [.tmp 27, .tmp 29]⟩, ⟨some 31, some (20, true), .ld none (.tmp 30)⟩, ⟨some 32, some (20, true), .pur .mov [.tmp 1]⟩, ⟨some 33, some (20, true), .pur (.bin .rem) [.tmp 32, .const (.int .i64 64)]⟩, ⟨some 34, some (20, true), .pur (.bin .shr) [.tmp 31, .tmp 33]⟩, ⟨some 35, some (20, true), .pur (.bin .and) [.tmp 34, .const (.int .u64 1)]⟩, ⟨some 36, some (20, true), .pur (.bin .eql) [.tmp 35, .const (.int .u64 1)]⟩, ⟨some 37, none, .pur .pick [.tmp 20, .tmp 36, .const (.bool false)]⟩, ⟨some 6, none, .pur .mov [.tmp 37]⟩]) [6])
  (.ret))⟩
theorem K_reach_Reach_Before : compF Try.prog 51 = some S_reach_Reach_Before := by kernel_rfl

-- 52
def S_reach_Reach_Apart : Fun := ⟨34, [6, 0, 1, 2], [.tmp 6],
  .seq (.reg (straight [⟨some 6, none, .pur .mov [.const (.bool false)]⟩]) [6])
  (.seq (.reg (straight [⟨some 7, none, .pur .mov [.tmp 0]⟩, ⟨some 8, none, .pur .mov [.tmp 1]⟩, ⟨some 9, none, .eff (.call 96) [.tmp 7, .tmp 8]⟩, ⟨some 10, none, .pur .mov [.tmp 9]⟩, ⟨some 11, some (10, true), .pur .mov [.tmp 0]⟩, ⟨some 12, some (10, true), .pur .mov [.tmp 2]⟩, ⟨some 13, some (10, true), .eff (.call 96) [.tmp 11, .tmp 12]⟩, ⟨some 14, none, .pur .pick [.tmp 10, .tmp 13, .const (.bool false)]⟩, ⟨some 15, none, .pur .mov [.tmp 14]⟩, ⟨some 16, some (15, true), .pur .mov [.tmp 1]⟩, ⟨some 17, some (15, true), .pur .mov [.tmp 2]⟩, ⟨some 18, some (15, true), .pur (.bin .neq) [.tmp 16, .tmp 17]⟩, ⟨some 19, none, .pur .pick [.tmp 15, .tmp 18, .const (.bool false)]⟩, ⟨some 20, none, .pur .mov [.tmp 19]⟩, ⟨some 21, some (20, true), .pur .mov [.tmp 0]⟩, ⟨some 22, some (20, true), .pur .mov [.tmp 1]⟩, ⟨some 23, some (20, true), .pur .mov [.tmp 2]⟩, ⟨some 24, some (20, true), .eff (.call 51) [.tmp 21, .tmp 22, .tmp 23]⟩, ⟨some 25, some (20, true), .pur .not [.tmp 24]⟩, ⟨some 26, none, .pur .pick [.tmp 20, .tmp 25, .const (.bool false)]⟩, ⟨some 27, none, .pur .mov [.tmp 26]⟩, ⟨some 28, some (27, true), .pur .mov [.tmp 0]⟩, ⟨some 29, some (27, true), .pur .mov [.tmp 2]⟩, ⟨some 30, some (27, true), .pur .mov [.tmp 1]⟩, ⟨some 31, some (27, true), .eff (.call 51) [.tmp 28, .tmp 29, .tmp 30]⟩, ⟨some 32, some (27, true), .pur .not [.tmp 31]⟩, ⟨some 33, none, .pur .pick [.tmp 27, .tmp 32, .const (.bool false)]⟩, ⟨some 6, none, .pur .mov [.tmp 33]⟩]) [6])
  (.ret))⟩
theorem K_reach_Reach_Apart : compF Try.prog 52 = some S_reach_Reach_Apart := by kernel_rfl

-- 53
def S_reach_Reach_Ahead_L1 : SCode :=
  .seq (.reg (straight [⟨some 21, none, .pur (.bin .lss) [.tmp 20, .tmp 19]⟩]) [21])
  (.seq (.cond (.tmp 21) (.skip) (.exit 0))
  (.seq (.block 1 (.seq (.reg (straight [⟨some 22, none, .pur (.ixa 1) [.tmp 18, .tmp 20]⟩, ⟨some 23, none, .ld none (.tmp 22)⟩, ⟨some 7, none, .pur .mov [.tmp 23]⟩]) [7])
  (.reg (straight [⟨some 24, none, .pur .mov [.tmp 5]⟩, ⟨some 25, none, .pur .mov [.tmp 7]⟩, ⟨some 26, none, .eff (.call 97) [.tmp 25]⟩, ⟨some 27, none, .pur (.bin .add) [.tmp 24, .tmp 26]⟩, ⟨some 5, none, .pur .mov [.tmp 27]⟩]) [5])))
  (.reg (straight [⟨some 28, none, .pur (.bin .add) [.tmp 20, .const (.int .i64 1)]⟩, ⟨some 20, none, .pur .mov [.tmp 28]⟩]) [20])))
def S_reach_Reach_Ahead : Fun := ⟨30, [4, 0, 1, 11, 20, 19, 21, 18, 5, 7], [.tmp 4],
  .seq (.reg (straight [⟨some 4, none, .pur .mov [.const (.int .i64 0)]⟩]) [4])
  (.seq (.seq (.reg (straight [⟨some 8, none, .pur .mov [.tmp 0]⟩, ⟨some 9, none, .pur .mov [.tmp 1]⟩, ⟨some 10, none, .eff (.call 96) [.tmp 8, .tmp 9]⟩, ⟨some 11, none, .pur .not [.tmp 10]⟩]) [11])
  (.cond (.tmp 11) (.seq (.reg (straight [⟨some 4, none, .pur .mov [.const (.int .i64 0)]⟩]) [4])
  (.ret)) (.skip)))
  (.seq (.reg (straight [⟨some 5, none, .pur .mov [.const (.int .i64 0)]⟩]) [5])
  (.seq (.seq (.reg (straight [⟨some 12, none, .pur .mov [.tmp 0]⟩, ⟨some 13, none, .pur .nilc [.tmp 12]⟩, ⟨some 14, none, .pur (.fla 0) [.tmp 13]⟩, ⟨some 15, none, .ld none (.tmp 14)⟩, ⟨some 16, none, .pur .mov [.tmp 1]⟩, ⟨some 17, none, .pur (.ixa 1) [.tmp 15, .tmp 16]⟩, ⟨some 18, none, .ld none (.tmp 17)⟩, ⟨some 19, none, .pur (.len false) [.tmp 18]⟩, ⟨some 20, none, .pur .mov [.const (.int .i64 0)]⟩]) [18, 19, 20])
  (.block 0 (.loop S_reach_Reach_Ahead_L1)))
  (.seq (.reg (straight [⟨some 29, none, .pur .mov [.tmp 5]⟩, ⟨some 4, none, .pur .mov [.tmp 29]⟩]) [4])
  (.ret)))))⟩
theorem K_reach_Reach_Ahead : compF Try.prog 53 = some S_reach_Reach_Ahead := by kernel_rfl

-- 54
def S_forebayref31_Ahead_L1 : SCode :=
  .seq (.seq (.reg (straight [⟨some 21, none, .pur .mov [.tmp 6]⟩, ⟨some 22, none, .pur .mov [.tmp 0]⟩, ⟨some 23, none, .pur .mov [.tmp 1]⟩, ⟨some 24, none, .pur (.ixa 1) [.tmp 22, .tmp 23]⟩, ⟨some 25, none, .ld none (.tmp 24)⟩, ⟨some 26, none, .pur (.len false) [.tmp 25]⟩, ⟨some 27, none, .pur (.bin .lss) [.tmp 21, .tmp 26]⟩]) [27])
  (.cond (.tmp 27) (.skip) (.exit 0)))
  (.seq (.block 1 (.reg (straight [⟨some 30, none, .pur .mov [.tmp 5]⟩, ⟨some 31, none, .pur .mov [.tmp 0]⟩, ⟨some 32, none, .pur .mov [.tmp 1]⟩, ⟨some 33, none, .pur (.ixa 1) [.tmp 31, .tmp 32]⟩, ⟨some 34, none, .ld none (.tmp 33)⟩, ⟨some 35, none, .pur .mov [.tmp 6]⟩, ⟨some 36, none, .pur (.ixa 1) [.tmp 34, .tmp 35]⟩, ⟨some 37, none, .ld none (.tmp 36)⟩, ⟨some 38, none, .pur (.ixa 1) [.tmp 30, .tmp 37]⟩, ⟨none, none, .eff (.st 1) [.tmp 38, .const (.bool true)]⟩]) []))
  (.reg (straight [⟨some 28, none, .pur .mov [.tmp 6]⟩, ⟨some 29, none, .pur (.bin .add) [.tmp 28, .const (.int .i64 1)]⟩, ⟨some 6, none, .pur .mov [.tmp 29]⟩]) [6]))
def S_forebayref31_Ahead_L3 : SCode :=
  .seq (.seq (.reg (straight [⟨some 49, none, .pur .mov [.tmp 8]⟩, ⟨some 50, none, .pur .mov [.tmp 0]⟩, ⟨some 51, none, .pur .mov [.tmp 7]⟩, ⟨some 52, none, .pur (.ixa 1) [.tmp 50, .tmp 51]⟩, ⟨some 53, none, .ld none (.tmp 52)⟩, ⟨some 54, none, .pur (.len false) [.tmp 53]⟩, ⟨some 55, none, .pur (.bin .lss) [.tmp 49, .tmp 54]⟩]) [55])
  (.cond (.tmp 55) (.skip) (.exit 4)))
  (.seq (.block 5 (.reg (straight [⟨some 58, none, .pur .mov [.tmp 5]⟩, ⟨some 59, none, .pur .mov [.tmp 0]⟩, ⟨some 60, none, .pur .mov [.tmp 7]⟩, ⟨some 61, none, .pur (.ixa 1) [.tmp 59, .tmp 60]⟩, ⟨some 62, none, .ld none (.tmp 61)⟩, ⟨some 63, none, .pur .mov [.tmp 8]⟩, ⟨some 64, none, .pur (.ixa 1) [.tmp 62, .tmp 63]⟩, ⟨some 65, none, .ld none (.tmp 64)⟩, ⟨some 66, none, .pur (.ixa 1) [.tmp 58, .tmp 65]⟩, ⟨none, none, .eff (.st 1) [.tmp 66, .const (.bool true)]⟩]) []))
  (.reg (straight [⟨some 56, none, .pur .mov [.tmp 8]⟩, ⟨some 57, none, .pur (.bin .add) [.tmp 56, .const (.int .i64 1)]⟩, ⟨some 8, none, .pur .mov [.tmp 57]⟩]) [8]))
def S_forebayref31_Ahead_L2 : SCode :=
  .seq (.seq (.reg (straight [⟨some 41, none, .pur .mov [.tmp 7]⟩, ⟨some 42, none, .pur (.bin .geq) [.tmp 41, .const (.int .i64 0)]⟩]) [42])
  (.cond (.tmp 42) (.skip) (.exit 2)))
  (.seq (.block 3 (.seq (.reg (straight [⟨some 45, none, .pur .mov [.tmp 5]⟩, ⟨some 46, none, .pur .mov [.tmp 7]⟩, ⟨some 47, none, .pur (.ixa 1) [.tmp 45, .tmp 46]⟩, ⟨some 48, none, .ld none (.tmp 47)⟩]) [48])
  (.cond (.tmp 48) (.seq (.reg (straight [⟨some 8, none, .pur .mov [.const (.int .i64 0)]⟩]) [8])
  (.block 4 (.loop S_forebayref31_Ahead_L3))) (.skip))))
  (.reg (straight [⟨some 43, none, .pur .mov [.tmp 7]⟩, ⟨some 44, none, .pur (.bin .sub) [.tmp 43, .const (.int .i64 1)]⟩, ⟨some 7, none, .pur .mov [.tmp 44]⟩]) [7]))
def S_forebayref31_Ahead : Fun := ⟨68, [4, 0, 1, 19, 5, 6, 27, 7, 42, 48, 8, 55], [.tmp 4],
  .seq (.reg (straight [⟨some 4, none, .pur .mov [.const (.slice none 0 0)]⟩]) [4])
  (.seq (.reg (straight [⟨some 9, none, .pur .mov [.tmp 0]⟩, ⟨some 10, none, .pur (.len false) [.tmp 9]⟩, ⟨some 11, none, .eff (.mks 4 1 1 [.bool false]) [.tmp 10, .tmp 10]⟩, ⟨some 5, none, .pur .mov [.tmp 11]⟩]) [5])
  (.seq (.seq (.reg (straight [⟨some 12, none, .pur .mov [.tmp 1]⟩, ⟨some 13, none, .pur (.bin .lss) [.tmp 12, .const (.int .i64 0)]⟩, ⟨some 14, none, .pur .mov [.tmp 13]⟩, ⟨some 15, some (14, false), .pur .mov [.tmp 1]⟩, ⟨some 16, some (14, false), .pur .mov [.tmp 0]⟩, ⟨some 17, some (14, false), .pur (.len false) [.tmp 16]⟩, ⟨some 18, some (14, false), .pur (.bin .geq) [.tmp 15, .tmp 17]⟩, ⟨some 19, none, .pur .pick [.tmp 14, .const (.bool true), .tmp 18]⟩]) [19])
  (.cond (.tmp 19) (.seq (.reg (straight [⟨some 20, none, .pur .mov [.tmp 5]⟩, ⟨some 4, none, .pur .mov [.tmp 20]⟩]) [4])
  (.ret)) (.skip)))
  (.seq (.seq (.reg (straight [⟨some 6, none, .pur .mov [.const (.int .i64 0)]⟩]) [6])
  (.block 0 (.loop S_forebayref31_Ahead_L1)))
  (.seq (.seq (.reg (straight [⟨some 39, none, .pur .mov [.tmp 1]⟩, ⟨some 40, none, .pur (.bin .sub) [.tmp 39, .const (.int .i64 1)]⟩, ⟨some 7, none, .pur .mov [.tmp 40]⟩]) [7])
  (.block 2 (.loop S_forebayref31_Ahead_L2)))
  (.seq (.reg (straight [⟨some 67, none, .pur .mov [.tmp 5]⟩, ⟨some 4, none, .pur .mov [.tmp 67]⟩]) [4])
  (.ret))))))⟩
theorem K_forebayref31_Ahead : compF Try.prog 54 = some S_forebayref31_Ahead := by kernel_rfl

-- 55
def S_reach_Order_L2 : SCode :=
  .seq (.reg (straight [⟨some 39, none, .pur (.bin .lss) [.tmp 38, .tmp 37]⟩]) [39])
  (.seq (.cond (.tmp 39) (.skip) (.exit 2))
  (.seq (.block 3 (.seq (.reg (straight [⟨some 40, none, .pur (.ixa 1) [.tmp 36, .tmp 38]⟩, ⟨some 41, none, .ld none (.tmp 40)⟩, ⟨some 9, none, .pur .mov [.tmp 41]⟩]) [9])
  (.seq (.reg (straight [⟨some 42, none, .pur .mov [.tmp 9]⟩, ⟨some 43, none, .pur (.bin .lss) [.tmp 42, .const (.int .i64 0)]⟩, ⟨some 44, none, .pur .mov [.tmp 43]⟩, ⟨some 45, some (44, false), .pur .mov [.tmp 9]⟩, ⟨some 46, some (44, false), .pur .mov [.tmp 0]⟩, ⟨some 47, some (44, false), .pur (.len false) [.tmp 46]⟩, ⟨some 48, some (44, false), .pur (.bin .geq) [.tmp 45, .tmp 47]⟩, ⟨some 49, none, .pur .pick [.tmp 44, .const (.bool true), .tmp 48]⟩, ⟨some 50, none, .pur .mov [.tmp 49]⟩, ⟨some 51, some (50, false), .pur .mov [.tmp 5]⟩, ⟨some 52, some (50, false), .pur .mov [.tmp 9]⟩, ⟨some 53, some (50, false), .pur (.ixa 1) [.tmp 51, .tmp 52]⟩, ⟨some 54, some (50, false), .ld none (.tmp 53)⟩, ⟨some 55, some (50, false), .pur .not [.tmp 54]⟩, ⟨some 56, none, .pur .pick [.tmp 50, .const (.bool true), .tmp 55]⟩]) [56])
  (.cond (.tmp 56) (.seq (.reg (straight [⟨some 4, none, .pur .mov [.const (.bool false)]⟩]) [4])
  (.ret)) (.skip)))))
  (.reg (straight [⟨some 57, none, .pur (.bin .add) [.tmp 38, .const (.int .i64 1)]⟩, ⟨some 38, none, .pur .mov [.tmp 57]⟩]) [38])))
def S_reach_Order_L1 : SCode :=
  .seq (.reg (straight [⟨some 16, none, .pur (.bin .lss) [.tmp 15, .tmp 14]⟩]) [16])
  (.seq (.cond (.tmp 16) (.skip) (.exit 0))
  (.seq (.block 1 (.seq (.reg (straight [⟨some 17, none, .pur (.ixa 1) [.tmp 13, .tmp 15]⟩, ⟨some 18, none, .ld none (.tmp 17)⟩, ⟨some 7, none, .pur .mov [.tmp 18]⟩]) [7])
  (.seq (.seq (.reg (straight [⟨some 19, none, .pur .mov [.tmp 7]⟩, ⟨some 20, none, .pur (.bin .lss) [.tmp 19, .const (.int .i64 0)]⟩, ⟨some 21, none, .pur .mov [.tmp 20]⟩, ⟨some 22, some (21, false), .pur .mov [.tmp 7]⟩, ⟨some 23, some (21, false), .pur .mov [.tmp 0]⟩, ⟨some 24, some (21, false), .pur (.len false) [.tmp 23]⟩, ⟨some 25, some (21, false), .pur (.bin .geq) [.tmp 22, .tmp 24]⟩, ⟨some 26, none, .pur .pick [.tmp 21, .const (.bool true), .tmp 25]⟩, ⟨some 27, none, .pur .mov [.tmp 26]⟩, ⟨some 28, some (27, false), .pur .mov [.tmp 5]⟩, ⟨some 29, some (27, false), .pur .mov [.tmp 7]⟩, ⟨some 30, some (27, false), .pur (.ixa 1) [.tmp 28, .tmp 29]⟩, ⟨some 31, some (27, false), .ld none (.tmp 30)⟩, ⟨some 32, none, .pur .pick [.tmp 27, .const (.bool true), .tmp 31]⟩]) [32])
  (.cond (.tmp 32) (.seq (.reg (straight [⟨some 4, none, .pur .mov [.const (.bool false)]⟩]) [4])
  (.ret)) (.skip)))
  (.seq (.seq (.reg (straight [⟨some 33, none, .pur .mov [.tmp 0]⟩, ⟨some 34, none, .pur .mov [.tmp 7]⟩, ⟨some 35, none, .pur (.ixa 1) [.tmp 33, .tmp 34]⟩, ⟨some 36, none, .ld none (.tmp 35)⟩, ⟨some 37, none, .pur (.len false) [.tmp 36]⟩, ⟨some 38, none, .pur .mov [.const (.int .i64 0)]⟩]) [36, 37, 38])
  (.block 2 (.loop S_reach_Order_L2)))
  (.reg (straight [⟨some 58, none, .pur .mov [.tmp 5]⟩, ⟨some 59, none, .pur .mov [.tmp 7]⟩, ⟨some 60, none, .pur (.ixa 1) [.tmp 58, .tmp 59]⟩, ⟨none, none, .eff (.st 1) [.tmp 60, .const (.bool true)]⟩]) [])))))
  (.reg (straight [⟨some 61, none, .pur (.bin .add) [.tmp 15, .const (.int .i64 1)]⟩, ⟨some 15, none, .pur .mov [.tmp 61]⟩]) [15])))
def S_reach_Order : Fun := ⟨62, [4, 0, 1, 15, 14, 16, 13, 7, 5, 32, 38, 37, 39, 36, 9, 56], [.tmp 4],
  .seq (.reg (straight [⟨some 4, none, .pur .mov [.const (.bool false)]⟩]) [4])
  (.seq (.reg (straight [⟨some 10, none, .pur .mov [.tmp 0]⟩, ⟨some 11, none, .pur (.len false) [.tmp 10]⟩, ⟨some 12, none, .eff (.mks 4 1 1 [.bool false]) [.tmp 11, .tmp 11]⟩, ⟨some 5, none, .pur .mov [.tmp 12]⟩]) [5])
  (.seq (.seq (.reg (straight [⟨some 13, none, .pur .mov [.tmp 1]⟩, ⟨some 14, none, .pur (.len false) [.tmp 13]⟩, ⟨some 15, none, .pur .mov [.const (.int .i64 0)]⟩]) [13, 14, 15])
  (.block 0 (.loop S_reach_Order_L1)))
  (.seq (.reg (straight [⟨some 4, none, .pur .mov [.const (.bool true)]⟩]) [4])
  (.ret))))⟩
theorem K_reach_Order : compF Try.prog 55 = some S_reach_Order := by kernel_rfl

-- 56
def S_forebayref31_Order_L2 : SCode :=
  .seq (.seq (.reg (straight [⟨some 30, none, .pur .mov [.tmp 6]⟩, ⟨some 31, none, .pur .mov [.tmp 5]⟩, ⟨some 32, none, .pur (.bin .lss) [.tmp 30, .tmp 31]⟩]) [32])
  (.cond (.tmp 32) (.skip) (.exit 2)))
  (.seq (.block 3 (.seq (.reg (straight [⟨some 35, none, .pur .mov [.tmp 1]⟩, ⟨some 36, none, .pur .mov [.tmp 6]⟩, ⟨some 37, none, .pur (.ixa 1) [.tmp 35, .tmp 36]⟩, ⟨some 38, none, .ld none (.tmp 37)⟩, ⟨some 39, none, .pur .mov [.tmp 1]⟩, ⟨some 40, none, .pur .mov [.tmp 5]⟩, ⟨some 41, none, .pur (.ixa 1) [.tmp 39, .tmp 40]⟩, ⟨some 42, none, .ld none (.tmp 41)⟩, ⟨some 43, none, .pur (.bin .eql) [.tmp 38, .tmp 42]⟩]) [43])
  (.cond (.tmp 43) (.seq (.reg (straight [⟨some 4, none, .pur .mov [.const (.bool false)]⟩]) [4])
  (.ret)) (.skip))))
  (.reg (straight [⟨some 33, none, .pur .mov [.tmp 6]⟩, ⟨some 34, none, .pur (.bin .add) [.tmp 33, .const (.int .i64 1)]⟩, ⟨some 6, none, .pur .mov [.tmp 34]⟩]) [6]))
def S_forebayref31_Order_L4 : SCode :=
  .seq (.seq (.reg (straight [⟨some 56, none, .pur .mov [.tmp 9]⟩, ⟨some 57, none, .pur .mov [.tmp 5]⟩, ⟨some 58, none, .pur (.bin .lss) [.tmp 56, .tmp 57]⟩]) [58])
  (.cond (.tmp 58) (.skip) (.exit 6)))
  (.seq (.block 7 (.reg (.run ⟨some 61, none, .pur .mov [.tmp 8]⟩ (.run ⟨some 62, none, .pur .mov [.tmp 61]⟩ (.run ⟨some 63, some (62, false), .pur .mov [.tmp 1]⟩ (.run ⟨some 64, some (62, false), .pur .mov [.tmp 9]⟩ (.run ⟨some 65, some (62, false), .pur (.ixa 1) [.tmp 63, .tmp 64]⟩ (.run ⟨some 66, some (62, false), .ld none (.tmp 65)⟩ (.run ⟨some 67, some (62, false), .pur .mov [.tmp 0]⟩ (.run ⟨some 68, some (62, false), .pur .mov [.tmp 1]⟩ (.run ⟨some 69, some (62, false), .pur .mov [.tmp 5]⟩ (.run ⟨some 70, some (62, false), .pur (.ixa 1) [.tmp 68, .tmp 69]⟩ (.run ⟨some 71, some (62, false), .ld none (.tmp 70)⟩ (.run ⟨some 72, some (62, false), .pur (.ixa 1) [.tmp 67, .tmp 71]⟩ (.run ⟨some 73, some (62, false), .ld none (.tmp 72)⟩ (.run ⟨some 74, some (62, false), .pur .mov [.tmp 7]⟩ (.run ⟨some 75, some (62, false), .pur (.ixa 1) [.tmp 73, .tmp 74]⟩ (.run ⟨some 76, some (62, false), .ld none (.tmp 75)⟩ (.run ⟨some 77, some (62, false), .pur (.bin .eql) [.tmp 66, .tmp 76]⟩ (.run ⟨some 78, none, .pur .pick [.tmp 62, .const (.bool true), .tmp 77]⟩ (.eff ⟨some 8, none, .pur .mov [.tmp 78]⟩ [] .done))))))))))))))))))) [8]))
  (.reg (straight [⟨some 59, none, .pur .mov [.tmp 9]⟩, ⟨some 60, none, .pur (.bin .add) [.tmp 59, .const (.int .i64 1)]⟩, ⟨some 9, none, .pur .mov [.tmp 60]⟩]) [9]))
def S_forebayref31_Order_L3 : SCode :=
  .seq (.seq (.reg (straight [⟨some 44, none, .pur .mov [.tmp 7]⟩, ⟨some 45, none, .pur .mov [.tmp 0]⟩, ⟨some 46, none, .pur .mov [.tmp 1]⟩, ⟨some 47, none, .pur .mov [.tmp 5]⟩, ⟨some 48, none, .pur (.ixa 1) [.tmp 46, .tmp 47]⟩, ⟨some 49, none, .ld none (.tmp 48)⟩, ⟨some 50, none, .pur (.ixa 1) [.tmp 45, .tmp 49]⟩, ⟨some 51, none, .ld none (.tmp 50)⟩, ⟨some 52, none, .pur (.len false) [.tmp 51]⟩, ⟨some 53, none, .pur (.bin .lss) [.tmp 44, .tmp 52]⟩]) [53])
  (.cond (.tmp 53) (.skip) (.exit 4)))
  (.seq (.block 5 (.seq (.reg (straight [⟨some 8, none, .pur .mov [.const (.bool false)]⟩]) [8])
  (.seq (.seq (.reg (straight [⟨some 9, none, .pur .mov [.const (.int .i64 0)]⟩]) [9])
  (.block 6 (.loop S_forebayref31_Order_L4)))
  (.seq (.reg (straight [⟨some 79, none, .pur .mov [.tmp 8]⟩, ⟨some 80, none, .pur .not [.tmp 79]⟩]) [80])
  (.cond (.tmp 80) (.seq (.reg (straight [⟨some 4, none, .pur .mov [.const (.bool false)]⟩]) [4])
  (.ret)) (.skip))))))
  (.reg (straight [⟨some 54, none, .pur .mov [.tmp 7]⟩, ⟨some 55, none, .pur (.bin .add) [.tmp 54, .const (.int .i64 1)]⟩, ⟨some 7, none, .pur .mov [.tmp 55]⟩]) [7]))
def S_forebayref31_Order_L1 : SCode :=
  .seq (.seq (.reg (straight [⟨some 10, none, .pur .mov [.tmp 5]⟩, ⟨some 11, none, .pur .mov [.tmp 1]⟩, ⟨some 12, none, .pur (.len false) [.tmp 11]⟩, ⟨some 13, none, .pur (.bin .lss) [.tmp 10, .tmp 12]⟩]) [13])
  (.cond (.tmp 13) (.skip) (.exit 0)))
  (.seq (.block 1 (.seq (.seq (.reg (straight [⟨some 16, none, .pur .mov [.tmp 1]⟩, ⟨some 17, none, .pur .mov [.tmp 5]⟩, ⟨some 18, none, .pur (.ixa 1) [.tmp 16, .tmp 17]⟩, ⟨some 19, none, .ld none (.tmp 18)⟩, ⟨some 20, none, .pur (.bin .lss) [.tmp 19, .const (.int .i64 0)]⟩, ⟨some 21, none, .pur .mov [.tmp 20]⟩, ⟨some 22, some (21, false), .pur .mov [.tmp 1]⟩, ⟨some 23, some (21, false), .pur .mov [.tmp 5]⟩, ⟨some 24, some (21, false), .pur (.ixa 1) [.tmp 22, .tmp 23]⟩, ⟨some 25, some (21, false), .ld none (.tmp 24)⟩, ⟨some 26, some (21, false), .pur .mov [.tmp 0]⟩, ⟨some 27, some (21, false), .pur (.len false) [.tmp 26]⟩, ⟨some 28, some (21, false), .pur (.bin .geq) [.tmp 25, .tmp 27]⟩, ⟨some 29, none, .pur .pick [.tmp 21, .const (.bool true), .tmp 28]⟩]) [29])
  (.cond (.tmp 29) (.seq (.reg (straight [⟨some 4, none, .pur .mov [.const (.bool false)]⟩]) [4])
  (.ret)) (.skip)))
  (.seq (.seq (.reg (straight [⟨some 6, none, .pur .mov [.const (.int .i64 0)]⟩]) [6])
  (.block 2 (.loop S_forebayref31_Order_L2)))
  (.seq (.reg (straight [⟨some 7, none, .pur .mov [.const (.int .i64 0)]⟩]) [7])
  (.block 4 (.loop S_forebayref31_Order_L3))))))
  (.reg (straight [⟨some 14, none, .pur .mov [.tmp 5]⟩, ⟨some 15, none, .pur (.bin .add) [.tmp 14, .const (.int .i64 1)]⟩, ⟨some 5, none, .pur .mov [.tmp 15]⟩]) [5]))
def S_forebayref31_Order : Fun := ⟨81, [4, 5, 1, 13, 0, 29, 6, 32, 43, 7, 53, 9, 58, 8, 80], [.tmp 4],
  .seq (.reg (straight [⟨some 4, none, .pur .mov [.const (.bool false)]⟩]) [4])
  (.seq (.seq (.reg (straight [⟨some 5, none, .pur .mov [.const (.int .i64 0)]⟩]) [5])
  (.block 0 (.loop S_forebayref31_Order_L1)))
  (.seq (.reg (straight [⟨some 4, none, .pur .mov [.const (.bool true)]⟩]) [4])
  (.ret)))⟩
theorem K_forebayref31_Order : compF Try.prog 56 = some S_forebayref31_Order := by kernel_rfl

-- 94
def S_reach_check_L2 : SCode :=
  .seq (.reg (straight [⟨some 20, none, .pur (.bin .lss) [.tmp 19, .tmp 18]⟩]) [20])
  (.seq (.cond (.tmp 20) (.skip) (.exit 2))
  (.seq (.block 3 (.seq (.reg (straight [⟨some 21, none, .pur (.ixa 1) [.tmp 17, .tmp 19]⟩, ⟨some 22, none, .ld none (.tmp 21)⟩, ⟨some 6, none, .pur .mov [.tmp 22]⟩]) [6])
  (.seq (.reg (straight [⟨some 23, none, .pur .mov [.tmp 6]⟩, ⟨some 24, none, .pur (.bin .lss) [.tmp 23, .const (.int .i64 0)]⟩, ⟨some 25, none, .pur .mov [.tmp 24]⟩, ⟨some 26, some (25, false), .pur .mov [.tmp 6]⟩, ⟨some 27, some (25, false), .pur .mov [.tmp 3]⟩, ⟨some 28, some (25, false), .pur (.bin .geq) [.tmp 26, .tmp 27]⟩, ⟨some 29, none, .pur .pick [.tmp 25, .const (.bool true), .tmp 28]⟩]) [29])
  (.cond (.tmp 29) (.seq (.reg (straight [⟨some 2, none, .pur .mov [.const (.int .i64 3)]⟩]) [2])
  (.ret)) (.skip)))))
  (.reg (straight [⟨some 30, none, .pur (.bin .add) [.tmp 19, .const (.int .i64 1)]⟩, ⟨some 19, none, .pur .mov [.tmp 30]⟩]) [19])))
def S_reach_check_L1 : SCode :=
  .seq (.reg (straight [⟨some 13, none, .pur (.bin .lss) [.tmp 12, .tmp 11]⟩]) [13])
  (.seq (.cond (.tmp 13) (.skip) (.exit 0))
  (.seq (.block 1 (.seq (.reg (straight [⟨some 14, none, .pur .mov [.tmp 12]⟩, ⟨some 15, none, .pur (.ixa 1) [.tmp 10, .tmp 12]⟩, ⟨some 16, none, .ld none (.tmp 15)⟩, ⟨some 3, none, .pur .mov [.tmp 14]⟩, ⟨some 4, none, .pur .mov [.tmp 16]⟩]) [3, 4])
  (.seq (.reg (straight [⟨some 17, none, .pur .mov [.tmp 4]⟩, ⟨some 18, none, .pur (.len false) [.tmp 17]⟩, ⟨some 19, none, .pur .mov [.const (.int .i64 0)]⟩]) [17, 18, 19])
  (.block 2 (.loop S_reach_check_L2)))))
  (.reg (straight [⟨some 31, none, .pur (.bin .add) [.tmp 12, .const (.int .i64 1)]⟩, ⟨some 12, none, .pur .mov [.tmp 31]⟩]) [12])))
def S_reach_check : Fun := ⟨32, [2, 0, 9, 12, 11, 13, 10, 4, 19, 18, 20, 17, 6, 3, 29], [.tmp 2],
  .seq (.reg (straight [⟨some 2, none, .pur .mov [.const (.int .i64 0)]⟩]) [2])
  (.seq (.seq (.reg (straight [⟨some 7, none, .pur .mov [.tmp 0]⟩, ⟨some 8, none, .pur (.len false) [.tmp 7]⟩, ⟨some 9, none, .pur (.bin .gtr) [.tmp 8, .const (.int .i64 1000)]⟩]) [9])
  (.cond (.tmp 9) (.seq (.reg (straight [⟨some 2, none, .pur .mov [.const (.int .i64 9)]⟩]) [2])
  (.ret)) (.skip)))
  (.seq (.seq (.reg (straight [⟨some 10, none, .pur .mov [.tmp 0]⟩, ⟨some 11, none, .pur (.len false) [.tmp 10]⟩, ⟨some 12, none, .pur .mov [.const (.int .i64 0)]⟩]) [10, 11, 12])
  (.block 0 (.loop S_reach_check_L1)))
  (.seq (.reg (straight [⟨some 2, none, .pur .mov [.const (.int .i64 0)]⟩]) [2])
  (.ret))))⟩
theorem K_reach_check : compF Try.prog 94 = some S_reach_check := by kernel_rfl

-- 95
def S_forebayref31_row_L1 : SCode :=
  .seq (.seq (.reg (straight [⟨some 18, none, .pur .mov [.tmp 8]⟩, ⟨some 19, none, .pur .mov [.tmp 0]⟩, ⟨some 20, none, .pur .mov [.tmp 1]⟩, ⟨some 21, none, .pur (.ixa 1) [.tmp 19, .tmp 20]⟩, ⟨some 22, none, .ld none (.tmp 21)⟩, ⟨some 23, none, .pur (.len false) [.tmp 22]⟩, ⟨some 24, none, .pur (.bin .lss) [.tmp 18, .tmp 23]⟩]) [24])
  (.cond (.tmp 24) (.skip) (.exit 0)))
  (.seq (.block 1 (.reg (straight [⟨some 27, none, .pur .mov [.tmp 7]⟩, ⟨some 28, none, .pur .mov [.tmp 0]⟩, ⟨some 29, none, .pur .mov [.tmp 0]⟩, ⟨some 30, none, .pur .mov [.tmp 1]⟩, ⟨some 31, none, .pur (.ixa 1) [.tmp 29, .tmp 30]⟩, ⟨some 32, none, .ld none (.tmp 31)⟩, ⟨some 33, none, .pur .mov [.tmp 8]⟩, ⟨some 34, none, .pur (.ixa 1) [.tmp 32, .tmp 33]⟩, ⟨some 35, none, .ld none (.tmp 34)⟩, ⟨some 36, none, .pur .mov [.tmp 2]⟩, ⟨some 37, none, .eff (.call 95) [.tmp 28, .tmp 35, .tmp 36]⟩, ⟨some 38, none, .pur (.minmax true) [.tmp 27, .tmp 37]⟩, ⟨some 7, none, .pur .mov [.tmp 38]⟩]) [7]))
  (.reg (straight [⟨some 25, none, .pur .mov [.tmp 8]⟩, ⟨some 26, none, .pur (.bin .add) [.tmp 25, .const (.int .i64 1)]⟩, ⟨some 8, none, .pur .mov [.tmp 26]⟩]) [8]))
def S_forebayref31_row : Fun := ⟨46, [6, 2, 1, 13, 8, 0, 24, 7], [.tmp 6],
  .seq (.reg (straight [⟨some 6, none, .pur .mov [.const (.int .i64 0)]⟩]) [6])
  (.seq (.seq (.reg (straight [⟨some 9, none, .pur .mov [.tmp 2]⟩, ⟨some 10, none, .pur .mov [.tmp 1]⟩, ⟨some 11, none, .pur (.ixa 1) [.tmp 9, .tmp 10]⟩, ⟨some 12, none, .ld none (.tmp 11)⟩, ⟨some 13, none, .pur (.bin .gtr) [.tmp 12, .const (.int .i64 0)]⟩]) [13])
  (.cond (.tmp 13) (.seq (.reg (straight [⟨some 14, none, .pur .mov [.tmp 2]⟩, ⟨some 15, none, .pur .mov [.tmp 1]⟩, ⟨some 16, none, .pur (.ixa 1) [.tmp 14, .tmp 15]⟩, ⟨some 17, none, .ld none (.tmp 16)⟩, ⟨some 6, none, .pur .mov [.tmp 17]⟩]) [6])
  (.ret)) (.skip)))
  (.seq (.reg (straight [⟨some 7, none, .pur .mov [.const (.int .i64 0)]⟩]) [7])
  (.seq (.seq (.reg (straight [⟨some 8, none, .pur .mov [.const (.int .i64 0)]⟩]) [8])
  (.block 0 (.loop S_forebayref31_row_L1)))
  (.seq (.reg (straight [⟨some 39, none, .pur .mov [.tmp 2]⟩, ⟨some 40, none, .pur .mov [.tmp 1]⟩, ⟨some 41, none, .pur .mov [.tmp 7]⟩, ⟨some 42, none, .pur (.bin .add) [.tmp 41, .const (.int .i64 1)]⟩, ⟨some 43, none, .pur (.ixa 1) [.tmp 39, .tmp 40]⟩, ⟨none, none, .eff (.st 1) [.tmp 43, .tmp 42]⟩]) [])
  (.seq (.reg (straight [⟨some 44, none, .pur .mov [.tmp 7]⟩, ⟨some 45, none, .pur (.bin .add) [.tmp 44, .const (.int .i64 1)]⟩, ⟨some 6, none, .pur .mov [.tmp 45]⟩]) [6])
  (.ret))))))⟩
theorem K_forebayref31_row : compF Try.prog 95 = some S_forebayref31_row := by kernel_rfl

-- 96
def S_reach_Reach_is : Fun := ⟨13, [4, 1, 0], [.tmp 4],
  .seq (.reg (straight [⟨some 4, none, .pur .mov [.const (.bool false)]⟩]) [4])
  (.seq (.reg (straight [⟨some 5, none, .pur .mov [.tmp 1]⟩, ⟨some 6, none, .pur (.bin .geq) [.tmp 5, .const (.int .i64 0)]⟩, ⟨some 7, none, .pur .mov [.tmp 6]⟩, ⟨some 8, some (7, true), .pur .mov [.tmp 1]⟩, ⟨some 9, some (7, true), .pur .mov [.tmp 0]⟩, ⟨some 10, some (7, true), .eff (.call 50) [.tmp 9]⟩, ⟨some 11, some (7, true), .pur (.bin .lss) [.tmp 8, .tmp 10]⟩, ⟨some 12, none, .pur .pick [.tmp 7, .tmp 11, .const (.bool false)]⟩, ⟨some 4, none, .pur .mov [.tmp 12]⟩]) [4])
  (.ret))⟩
theorem K_reach_Reach_is : compF Try.prog 96 = some S_reach_Reach_is := by kernel_rfl

-- 97
def S_math_bits_OnesCount64 : Fun := ⟨35, [2, 0], [.tmp 2],
  .seq (.reg (straight [⟨some 2, none, .pur .mov [.const (.int .i64 0)]⟩]) [2])
  (.seq (.reg (straight [⟨some 3, none, .pur .mov [.tmp 0]⟩, ⟨some 4, none, .pur (.bin .shr) [.tmp 3, .const (.int .u64 1)]⟩, ⟨some 5, none, .pur (.bin .and) [.tmp 4, .const (.int .u64 6148914691236517205)]⟩, ⟨some 6, none, .pur .mov [.tmp 0]⟩, ⟨some 7, none, .pur (.bin .and) [.tmp 6, .const (.int .u64 6148914691236517205)]⟩, ⟨some 8, none, .pur (.bin .add) [.tmp 5, .tmp 7]⟩, ⟨some 0, none, .pur .mov [.tmp 8]⟩]) [0])
  (.seq (.reg (straight [⟨some 9, none, .pur .mov [.tmp 0]⟩, ⟨some 10, none, .pur (.bin .shr) [.tmp 9, .const (.int .u64 2)]⟩, ⟨some 11, none, .pur (.bin .and) [.tmp 10, .const (.int .u64 3689348814741910323)]⟩, ⟨some 12, none, .pur .mov [.tmp 0]⟩, ⟨some 13, none, .pur (.bin .and) [.tmp 12, .const (.int .u64 3689348814741910323)]⟩, ⟨some 14, none, .pur (.bin .add) [.tmp 11, .tmp 13]⟩, ⟨some 0, none, .pur .mov [.tmp 14]⟩]) [0])
  (.seq (.reg (straight [⟨some 15, none, .pur .mov [.tmp 0]⟩, ⟨some 16, none, .pur (.bin .shr) [.tmp 15, .const (.int .u64 4)]⟩, ⟨some 17, none, .pur .mov [.tmp 0]⟩, ⟨some 18, none, .pur (.bin .add) [.tmp 16, .tmp 17]⟩, ⟨some 19, none, .pur (.bin .and) [.tmp 18, .const (.int .u64 1085102592571150095)]⟩, ⟨some 0, none, .pur .mov [.tmp 19]⟩]) [0])
  (.seq (.reg (straight [⟨some 20, none, .pur .mov [.tmp 0]⟩, ⟨some 21, none, .pur .mov [.tmp 0]⟩, ⟨some 22, none, .pur (.bin .shr) [.tmp 21, .const (.int .u64 8)]⟩, ⟨some 23, none, .pur (.bin .add) [.tmp 20, .tmp 22]⟩, ⟨some 0, none, .pur .mov [.tmp 23]⟩]) [0])
  (.seq (.reg (straight [⟨some 24, none, .pur .mov [.tmp 0]⟩, ⟨some 25, none, .pur .mov [.tmp 0]⟩, ⟨some 26, none, .pur (.bin .shr) [.tmp 25, .const (.int .u64 16)]⟩, ⟨some 27, none, .pur (.bin .add) [.tmp 24, .tmp 26]⟩, ⟨some 0, none, .pur .mov [.tmp 27]⟩]) [0])
  (.seq (.reg (straight [⟨some 28, none, .pur .mov [.tmp 0]⟩, ⟨some 29, none, .pur .mov [.tmp 0]⟩, ⟨some 30, none, .pur (.bin .shr) [.tmp 29, .const (.int .u64 32)]⟩, ⟨some 31, none, .pur (.bin .add) [.tmp 28, .tmp 30]⟩, ⟨some 0, none, .pur .mov [.tmp 31]⟩]) [0])
  (.seq (.reg (straight [⟨some 32, none, .pur .mov [.tmp 0]⟩, ⟨some 33, none, .pur (.toInt .i64) [.tmp 32]⟩, ⟨some 34, none, .pur (.bin .and) [.tmp 33, .const (.int .i64 127)]⟩, ⟨some 2, none, .pur .mov [.tmp 34]⟩]) [2])
  (.ret))))))))⟩
theorem K_math_bits_OnesCount64 : compF Try.prog 97 = some S_math_bits_OnesCount64 := by kernel_rfl

end Go.Proofs.Ytilofhocodbknaa
