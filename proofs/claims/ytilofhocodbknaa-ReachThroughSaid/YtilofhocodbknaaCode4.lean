import Derived.Test.YtilofhocodbknaaKj
import Derived.Test.YtilofhocodbknaaProg
import Derived.KernelRfl
namespace Go.Proofs.Ytilofhocodbknaa
open Go Go.Kx Go.Proofs
set_option maxRecDepth 100000

-- 9
def S_forebaylaw31_ReachTells_L1 : SCode :=
  .seq (.seq (.reg (straight [⟨some 88, none, .pur .mov [.tmp 17]⟩, ⟨some 89, none, .pur .mov [.tmp 15]⟩, ⟨some 90, none, .pur (.len false) [.tmp 89]⟩, ⟨some 91, none, .pur (.bin .lss) [.tmp 88, .tmp 90]⟩]) [91])
  (.cond (.tmp 91) (.skip) (.exit 0)))
  (.seq (.block 1 (.seq (.seq (.reg (.run ⟨some 94, none, .pur .mov [.tmp 7]⟩ (.run ⟨some 95, none, .pur .mov [.tmp 17]⟩ (.run ⟨some 96, none, .pur .mov [.tmp 2]⟩ (.run ⟨some 98, none, .pur .mov [.tmp 15]⟩ (.run ⟨some 99, none, .pur .mov [.tmp 17]⟩ (.run ⟨some 100, none, .pur (.ixa 1) [.tmp 98, .tmp 99]⟩ (.run ⟨some 101, none, .ld none (.tmp 100)⟩ (.eff ⟨some 97, none, .eff (.call 51) [.tmp 94, .tmp 95, .tmp 96]⟩ [⟨some 101, none, .ld none (.tmp 100)⟩] (.run ⟨some 102, none, .pur (.eqb true) [.tmp 97, .tmp 101]⟩ .done))))))))) [102])
  (.cond (.tmp 102) (.seq (.reg (straight [⟨some 6, none, .pur .mov [.const (.bool false)]⟩]) [6])
  (.ret)) (.skip)))
  (.seq (.reg (straight [⟨some 103, none, .pur .mov [.tmp 15]⟩, ⟨some 104, none, .pur .mov [.tmp 17]⟩, ⟨some 105, none, .pur (.ixa 1) [.tmp 103, .tmp 104]⟩, ⟨some 106, none, .ld none (.tmp 105)⟩]) [106])
  (.cond (.tmp 106) (.reg (straight [⟨some 107, none, .pur .mov [.tmp 16]⟩, ⟨some 108, none, .pur (.bin .add) [.tmp 107, .const (.int .i64 1)]⟩, ⟨some 16, none, .pur .mov [.tmp 108]⟩]) [16]) (.skip)))))
  (.reg (straight [⟨some 92, none, .pur .mov [.tmp 17]⟩, ⟨some 93, none, .pur (.bin .add) [.tmp 92, .const (.int .i64 1)]⟩, ⟨some 17, none, .pur .mov [.tmp 93]⟩]) [17]))
def S_forebaylaw31_ReachTells : Fun := ⟨180, [6, 20, 0, 22, 8, 9, 10, 12, 11, 13, 7, 61, 63, 1, 2, 17, 15, 91, 102, 106, 16, 18, 14], [.tmp 6],
  .seq (.reg (straight [⟨some 6, none, .pur .mov [.const (.bool false)]⟩]) [6])
  (.seq (.seq (.reg (straight [⟨some 19, none, .eff (.call 43) []⟩, ⟨some 20, none, .pur .not [.tmp 19]⟩]) [20])
  (.cond (.tmp 20) (.seq (.reg (straight [⟨some 6, none, .pur .mov [.const (.bool false)]⟩]) [6])
  (.ret)) (.skip)))
  (.seq (.seq (.reg (straight [⟨some 21, none, .pur .mov [.tmp 0]⟩, ⟨some 22, none, .eff (.call 44) [.tmp 21]⟩]) [22])
  (.cond (.tmp 22) (.seq (.reg (straight [⟨some 6, none, .pur .mov [.const (.bool true)]⟩]) [6])
  (.ret)) (.skip)))
  (.seq (.reg (straight [⟨some 24, none, .pur .mov [.tmp 0]⟩, ⟨some 25, none, .eff (.call 46) [.tmp 24]⟩, ⟨some 26, none, .eff (.call 45) [.tmp 25]⟩, ⟨some 23, none, .pur .mov [.tmp 26]⟩, ⟨some 27, none, .pur (.ext 0) [.tmp 23]⟩, ⟨some 28, none, .pur (.ext 1) [.tmp 23]⟩, ⟨some 7, none, .pur .mov [.tmp 27]⟩, ⟨some 8, none, .pur .mov [.tmp 28]⟩]) [7, 8])
  (.seq (.reg (straight [⟨some 29, none, .pur .mov [.tmp 0]⟩, ⟨some 30, none, .eff (.call 47) [.tmp 29]⟩, ⟨some 9, none, .pur .mov [.tmp 30]⟩]) [9])
  (.seq (.reg (straight [⟨some 32, none, .pur .mov [.tmp 0]⟩, ⟨some 33, none, .eff (.call 46) [.tmp 32]⟩, ⟨some 34, none, .eff (.call 48) [.tmp 33]⟩, ⟨some 31, none, .pur .mov [.tmp 34]⟩, ⟨some 35, none, .pur (.ext 0) [.tmp 31]⟩, ⟨some 36, none, .pur (.ext 1) [.tmp 31]⟩, ⟨some 10, none, .pur .mov [.tmp 35]⟩, ⟨some 11, none, .pur .mov [.tmp 36]⟩]) [10, 11])
  (.seq (.reg (straight [⟨some 38, none, .pur .mov [.tmp 0]⟩, ⟨some 39, none, .eff (.call 49) [.tmp 38]⟩, ⟨some 37, none, .pur .mov [.tmp 39]⟩, ⟨some 40, none, .pur (.ext 0) [.tmp 37]⟩, ⟨some 41, none, .pur (.ext 1) [.tmp 37]⟩, ⟨some 12, none, .pur .mov [.tmp 40]⟩, ⟨some 13, none, .pur .mov [.tmp 41]⟩]) [12, 13])
  (.seq (.seq (.reg (straight [⟨some 42, none, .pur .mov [.tmp 8]⟩, ⟨some 43, none, .pur .mov [.tmp 9]⟩, ⟨some 44, none, .pur (.bin .neq) [.tmp 42, .tmp 43]⟩, ⟨some 45, none, .pur .mov [.tmp 44]⟩, ⟨some 46, some (45, false), .pur .mov [.tmp 10]⟩, ⟨some 47, some (45, false), .pur .mov [.tmp 12]⟩, ⟨some 48, some (45, false), .pur (.bin .neq) [.tmp 46, .tmp 47]⟩, ⟨some 49, none, .pur .pick [.tmp 45, .const (.bool true), .tmp 48]⟩, ⟨some 50, none, .pur .mov [.tmp 49]⟩, ⟨some 51, some (50, false), .pur .mov [.tmp 11]⟩, ⟨some 52, some (50, false), .pur .mov [.tmp 13]⟩, ⟨some 53, some (50, false), .pur (.bin .neq) [.tmp 51, .tmp 52]⟩, ⟨some 54, none, .pur .pick [.tmp 50, .const (.bool true), .tmp 53]⟩, ⟨some 55, none, .pur .mov [.tmp 54]⟩, ⟨some 56, some (55, false), .pur .mov [.tmp 7]⟩, ⟨some 57, some (55, false), .pur (.eqn true 0) [.tmp 56]⟩, ⟨some 58, some (55, false), .pur .mov [.tmp 9]⟩, ⟨some 59, some (55, false), .pur (.bin .eql) [.tmp 58, .const (.int .i64 0)]⟩, ⟨some 60, some (55, false), .pur (.eqb true) [.tmp 57, .tmp 59]⟩, ⟨some 61, none, .pur .pick [.tmp 55, .const (.bool true), .tmp 60]⟩]) [61])
  (.cond (.tmp 61) (.seq (.reg (straight [⟨some 6, none, .pur .mov [.const (.bool false)]⟩]) [6])
  (.ret)) (.skip)))
  (.seq (.seq (.reg (straight [⟨some 62, none, .pur .mov [.tmp 9]⟩, ⟨some 63, none, .pur (.bin .neq) [.tmp 62, .const (.int .i64 0)]⟩]) [63])
  (.cond (.tmp 63) (.seq (.reg (straight [⟨some 64, none, .pur .mov [.tmp 7]⟩, ⟨some 65, none, .eff (.call 50) [.tmp 64]⟩, ⟨some 66, none, .pur (.bin .eql) [.tmp 65, .const (.int .i64 0)]⟩, ⟨some 67, none, .pur .mov [.tmp 66]⟩, ⟨some 68, some (67, true), .pur .mov [.tmp 7]⟩, ⟨some 69, some (67, true), .eff (.call 51) [.tmp 68, .const (.int .i64 0), .const (.int .i64 1)]⟩, ⟨some 70, some (67, true), .pur .not [.tmp 69]⟩, ⟨some 71, none, .pur .pick [.tmp 67, .tmp 70, .const (.bool false)]⟩, ⟨some 72, none, .pur .mov [.tmp 71]⟩, ⟨some 73, some (72, true), .pur .mov [.tmp 7]⟩, ⟨some 74, some (72, true), .eff (.call 52) [.tmp 73, .const (.int .i64 0), .const (.int .i64 1)]⟩, ⟨some 75, some (72, true), .pur .not [.tmp 74]⟩, ⟨some 76, none, .pur .pick [.tmp 72, .tmp 75, .const (.bool false)]⟩, ⟨some 77, none, .pur .mov [.tmp 76]⟩, ⟨some 78, some (77, true), .pur .mov [.tmp 7]⟩, ⟨some 79, some (77, true), .eff (.call 53) [.tmp 78, .const (.int .i64 1)]⟩, ⟨some 80, some (77, true), .pur (.bin .eql) [.tmp 79, .const (.int .i64 0)]⟩, ⟨some 81, none, .pur .pick [.tmp 77, .tmp 80, .const (.bool false)]⟩, ⟨some 6, none, .pur .mov [.tmp 81]⟩]) [6])
  (.ret)) (.skip)))
  (.seq (.reg (straight [⟨some 82, none, .pur .mov [.tmp 0]⟩, ⟨some 83, none, .pur .mov [.tmp 1]⟩, ⟨some 84, none, .eff (.call 54) [.tmp 82, .tmp 83]⟩, ⟨some 85, none, .pur .mov [.tmp 0]⟩, ⟨some 86, none, .pur .mov [.tmp 2]⟩, ⟨some 87, none, .eff (.call 54) [.tmp 85, .tmp 86]⟩, ⟨some 14, none, .pur .mov [.tmp 84]⟩, ⟨some 15, none, .pur .mov [.tmp 87]⟩]) [14, 15])
  (.seq (.reg (straight [⟨some 16, none, .pur .mov [.const (.int .i64 0)]⟩]) [16])
  (.seq (.seq (.reg (straight [⟨some 17, none, .pur .mov [.const (.int .i64 0)]⟩]) [17])
  (.block 0 (.loop S_forebaylaw31_ReachTells_L1)))
  (.seq (.reg (straight [⟨some 109, none, .pur .mov [.tmp 1]⟩, ⟨some 110, none, .pur (.bin .geq) [.tmp 109, .const (.int .i64 0)]⟩, ⟨some 111, none, .pur .mov [.tmp 110]⟩, ⟨some 112, some (111, true), .pur .mov [.tmp 2]⟩, ⟨some 113, some (111, true), .pur (.bin .geq) [.tmp 112, .const (.int .i64 0)]⟩, ⟨some 114, none, .pur .pick [.tmp 111, .tmp 113, .const (.bool false)]⟩, ⟨some 115, none, .pur .mov [.tmp 114]⟩, ⟨some 116, some (115, true), .pur .mov [.tmp 1]⟩, ⟨some 117, some (115, true), .pur .mov [.tmp 0]⟩, ⟨some 118, some (115, true), .pur (.len false) [.tmp 117]⟩, ⟨some 119, some (115, true), .pur (.bin .lss) [.tmp 116, .tmp 118]⟩, ⟨some 120, none, .pur .pick [.tmp 115, .tmp 119, .const (.bool false)]⟩, ⟨some 121, none, .pur .mov [.tmp 120]⟩, ⟨some 122, some (121, true), .pur .mov [.tmp 2]⟩, ⟨some 123, some (121, true), .pur .mov [.tmp 0]⟩, ⟨some 124, some (121, true), .pur (.len false) [.tmp 123]⟩, ⟨some 125, some (121, true), .pur (.bin .lss) [.tmp 122, .tmp 124]⟩, ⟨some 126, none, .pur .pick [.tmp 121, .tmp 125, .const (.bool false)]⟩, ⟨some 18, none, .pur .mov [.tmp 126]⟩]) [18])
  (.seq (.reg (straight [⟨some 127, none, .pur .mov [.tmp 7]⟩, ⟨some 128, none, .eff (.call 50) [.tmp 127]⟩, ⟨some 129, none, .pur .mov [.tmp 0]⟩, ⟨some 130, none, .pur (.len false) [.tmp 129]⟩, ⟨some 131, none, .pur (.bin .eql) [.tmp 128, .tmp 130]⟩, ⟨some 132, none, .pur .mov [.tmp 131]⟩, ⟨some 133, some (132, true), .pur .mov [.tmp 7]⟩, ⟨some 134, some (132, true), .pur .mov [.tmp 2]⟩, ⟨some 135, some (132, true), .eff (.call 53) [.tmp 133, .tmp 134]⟩, ⟨some 136, some (132, true), .pur .mov [.tmp 16]⟩, ⟨some 137, some (132, true), .pur (.bin .eql) [.tmp 135, .tmp 136]⟩, ⟨some 138, none, .pur .pick [.tmp 132, .tmp 137, .const (.bool false)]⟩, ⟨some 139, none, .pur .mov [.tmp 138]⟩, ⟨some 140, some (139, true), .pur .mov [.tmp 7]⟩, ⟨some 141, some (139, true), .pur .mov [.tmp 1]⟩, ⟨some 142, some (139, true), .pur .mov [.tmp 2]⟩, ⟨some 143, some (139, true), .eff (.call 51) [.tmp 140, .tmp 141, .tmp 142]⟩, ⟨some 144, some (139, true), .pur .mov [.tmp 18]⟩, ⟨some 145, some (139, true), .pur .mov [.tmp 144]⟩, ⟨some 146, some (145, true), .pur .mov [.tmp 15]⟩, ⟨some 147, some (145, true), .pur .mov [.tmp 1]⟩, ⟨some 148, some (145, true), .pur (.ixa 1) [.tmp 146, .tmp 147]⟩, ⟨some 149, some (145, true), .ld none (.tmp 148)⟩, ⟨some 150, some (139, true), .pur .pick [.tmp 145, .tmp 149, .const (.bool false)]⟩, ⟨some 151, some (139, true), .pur (.eqb false) [.tmp 143, .tmp 150]⟩, ⟨some 152, none, .pur .pick [.tmp 139, .tmp 151, .const (.bool false)]⟩, ⟨some 153, none, .pur .mov [.tmp 152]⟩, ⟨some 154, some (153, true), .pur .mov [.tmp 7]⟩, ⟨some 155, some (153, true), .pur .mov [.tmp 1]⟩, ⟨some 156, some (153, true), .pur .mov [.tmp 2]⟩, ⟨some 157, some (153, true), .eff (.call 52) [.tmp 154, .tmp 155, .tmp 156]⟩, ⟨some 158, some (153, true), .pur .mov [.tmp 18]⟩, ⟨some 159, some (153, true), .pur .mov [.tmp 158]⟩, ⟨some 160, some (159, true), .pur .mov [.tmp 1]⟩, ⟨some 161, some (159, true), .pur .mov [.tmp 2]⟩, ⟨some 162, some (159, true), .pur (.bin .neq) [.tmp 160, .tmp 161]⟩, ⟨some 163, some (153, true), .pur .pick [.tmp 159, .tmp 162, .const (.bool false)]⟩, ⟨some 164, some (153, true), .pur .mov [.tmp 163]⟩, ⟨some 165, some (164, true), .pur .mov [.tmp 15]⟩, ⟨some 166, some (164, true), .pur .mov [.tmp 1]⟩, ⟨some 167, some (164, true), .pur (.ixa 1) [.tmp 165, .tmp 166]⟩, ⟨some 168, some (164, true), .ld none (.tmp 167)⟩, ⟨some 169, some (164, true), .pur .not [.tmp 168]⟩, ⟨some 170, some (153, true), .pur .pick [.tmp 164, .tmp 169, .const (.bool false)]⟩, ⟨some 171, some (153, true), .pur .mov [.tmp 170]⟩, ⟨some 172, some (171, true), .pur .mov [.tmp 14]⟩, ⟨some 173, some (171, true), .pur .mov [.tmp 2]⟩, ⟨some 174, some (171, true), .pur (.ixa 1) [.tmp 172, .tmp 173]⟩, ⟨some 175, some (171, true), .ld none (.tmp 174)⟩, ⟨some 176, some (171, true), .pur .not [.tmp 175]⟩, ⟨some 177, some (153, true), .pur .pick [.tmp 171, .tmp 176, .const (.bool false)]⟩, ⟨some 178, some (153, true), .pur (.eqb false) [.tmp 157, .tmp 177]⟩, ⟨some 179, none, .pur .pick [.tmp 153, .tmp 178, .const (.bool false)]⟩, ⟨some 6, none, .pur .mov [.tmp 179]⟩]) [6])
  (.ret))))))))))))))⟩
theorem K_forebaylaw31_ReachTells : compF Try.prog 9 = some S_forebaylaw31_ReachTells := by kernel_rfl

-- 10
def S_forebaylaw31_ReachThrough : Fun := ⟨108, [8, 16, 0, 28, 10, 9, 40, 1, 11, 2, 3, 12, 13, 14, 87], [.tmp 8],
  .seq (.reg (straight [⟨some 8, none, .pur .mov [.const (.bool false)]⟩]) [8])
  (.seq (.seq (.reg (straight [⟨some 15, none, .eff (.call 43) []⟩, ⟨some 16, none, .pur .not [.tmp 15]⟩]) [16])
  (.cond (.tmp 16) (.seq (.reg (straight [⟨some 8, none, .pur .mov [.const (.bool false)]⟩]) [8])
  (.ret)) (.skip)))
  (.seq (.seq (.reg (straight [⟨some 17, none, .pur .mov [.tmp 0]⟩, ⟨some 18, none, .eff (.call 44) [.tmp 17]⟩, ⟨some 19, none, .pur .mov [.tmp 18]⟩, ⟨some 20, some (19, false), .pur .mov [.tmp 0]⟩, ⟨some 21, some (19, false), .eff (.call 47) [.tmp 20]⟩, ⟨some 22, some (19, false), .pur (.bin .neq) [.tmp 21, .const (.int .i64 0)]⟩, ⟨some 23, none, .pur .pick [.tmp 19, .const (.bool true), .tmp 22]⟩, ⟨some 24, none, .pur .mov [.tmp 23]⟩, ⟨some 25, some (24, false), .pur .mov [.tmp 0]⟩, ⟨some 26, some (24, false), .pur (.len false) [.tmp 25]⟩, ⟨some 27, some (24, false), .pur (.bin .eql) [.tmp 26, .const (.int .i64 0)]⟩, ⟨some 28, none, .pur .pick [.tmp 24, .const (.bool true), .tmp 27]⟩]) [28])
  (.cond (.tmp 28) (.seq (.reg (straight [⟨some 8, none, .pur .mov [.const (.bool true)]⟩]) [8])
  (.ret)) (.skip)))
  (.seq (.reg (straight [⟨some 30, none, .pur .mov [.tmp 0]⟩, ⟨some 31, none, .eff (.call 46) [.tmp 30]⟩, ⟨some 32, none, .eff (.call 45) [.tmp 31]⟩, ⟨some 29, none, .pur .mov [.tmp 32]⟩, ⟨some 33, none, .pur (.ext 0) [.tmp 29]⟩, ⟨some 34, none, .pur (.ext 1) [.tmp 29]⟩, ⟨some 9, none, .pur .mov [.tmp 33]⟩, ⟨some 10, none, .pur .mov [.tmp 34]⟩]) [9, 10])
  (.seq (.seq (.reg (straight [⟨some 35, none, .pur .mov [.tmp 10]⟩, ⟨some 36, none, .pur (.bin .neq) [.tmp 35, .const (.int .i64 0)]⟩, ⟨some 37, none, .pur .mov [.tmp 36]⟩, ⟨some 38, some (37, false), .pur .mov [.tmp 9]⟩, ⟨some 39, some (37, false), .pur (.eqn false 0) [.tmp 38]⟩, ⟨some 40, none, .pur .pick [.tmp 37, .const (.bool true), .tmp 39]⟩]) [40])
  (.cond (.tmp 40) (.seq (.reg (straight [⟨some 8, none, .pur .mov [.const (.bool false)]⟩]) [8])
  (.ret)) (.skip)))
  (.seq (.reg (straight [⟨some 41, none, .pur .mov [.tmp 0]⟩, ⟨some 42, none, .pur (.len false) [.tmp 41]⟩, ⟨some 43, none, .pur (.toInt .u64) [.tmp 42]⟩, ⟨some 11, none, .pur .mov [.tmp 43]⟩]) [11])
  (.seq (.reg (straight [⟨some 44, none, .pur .mov [.tmp 1]⟩, ⟨some 45, none, .pur (.toInt .u64) [.tmp 44]⟩, ⟨some 46, none, .pur .mov [.tmp 11]⟩, ⟨some 47, none, .pur (.bin .rem) [.tmp 45, .tmp 46]⟩, ⟨some 48, none, .pur (.toInt .i64) [.tmp 47]⟩, ⟨some 49, none, .pur .mov [.tmp 2]⟩, ⟨some 50, none, .pur (.toInt .u64) [.tmp 49]⟩, ⟨some 51, none, .pur .mov [.tmp 11]⟩, ⟨some 52, none, .pur (.bin .rem) [.tmp 50, .tmp 51]⟩, ⟨some 53, none, .pur (.toInt .i64) [.tmp 52]⟩, ⟨some 54, none, .pur .mov [.tmp 3]⟩, ⟨some 55, none, .pur (.toInt .u64) [.tmp 54]⟩, ⟨some 56, none, .pur .mov [.tmp 11]⟩, ⟨some 57, none, .pur (.bin .rem) [.tmp 55, .tmp 56]⟩, ⟨some 58, none, .pur (.toInt .i64) [.tmp 57]⟩, ⟨some 12, none, .pur .mov [.tmp 48]⟩, ⟨some 13, none, .pur .mov [.tmp 53]⟩, ⟨some 14, none, .pur .mov [.tmp 58]⟩]) [12, 13, 14])
  (.seq (.seq (.reg (straight [⟨some 59, none, .pur .mov [.tmp 9]⟩, ⟨some 60, none, .pur .mov [.tmp 12]⟩, ⟨some 61, none, .pur .mov [.tmp 12]⟩, ⟨some 62, none, .eff (.call 51) [.tmp 59, .tmp 60, .tmp 61]⟩, ⟨some 63, none, .pur .mov [.tmp 62]⟩, ⟨some 64, some (63, false), .pur .mov [.tmp 9]⟩, ⟨some 65, some (63, false), .pur .mov [.tmp 12]⟩, ⟨some 66, some (63, false), .pur .mov [.tmp 12]⟩, ⟨some 67, some (63, false), .eff (.call 52) [.tmp 64, .tmp 65, .tmp 66]⟩, ⟨some 68, none, .pur .pick [.tmp 63, .const (.bool true), .tmp 67]⟩, ⟨some 69, none, .pur .mov [.tmp 68]⟩, ⟨some 70, some (69, false), .pur .mov [.tmp 9]⟩, ⟨some 71, some (69, false), .pur .mov [.tmp 12]⟩, ⟨some 72, some (69, false), .pur .mov [.tmp 13]⟩, ⟨some 73, some (69, false), .eff (.call 51) [.tmp 70, .tmp 71, .tmp 72]⟩, ⟨some 74, some (69, false), .pur .mov [.tmp 73]⟩, ⟨some 75, some (74, true), .pur .mov [.tmp 9]⟩, ⟨some 76, some (74, true), .pur .mov [.tmp 13]⟩, ⟨some 77, some (74, true), .pur .mov [.tmp 14]⟩, ⟨some 78, some (74, true), .eff (.call 51) [.tmp 75, .tmp 76, .tmp 77]⟩, ⟨some 79, some (69, false), .pur .pick [.tmp 74, .tmp 78, .const (.bool false)]⟩, ⟨some 80, some (69, false), .pur .mov [.tmp 79]⟩, ⟨some 81, some (80, true), .pur .mov [.tmp 9]⟩, ⟨some 82, some (80, true), .pur .mov [.tmp 12]⟩, ⟨some 83, some (80, true), .pur .mov [.tmp 14]⟩, ⟨some 84, some (80, true), .eff (.call 51) [.tmp 81, .tmp 82, .tmp 83]⟩, ⟨some 85, some (80, true), .pur .not [.tmp 84]⟩, ⟨some 86, some (69, false), .pur .pick [.tmp 80, .tmp 85, .const (.bool false)]⟩, ⟨some 87, none, .pur .pick [.tmp 69, .const (.bool true), .tmp 86]⟩]) [87])
  (.cond (.tmp 87) (.seq (.reg (straight [⟨some 8, none, .pur .mov [.const (.bool false)]⟩]) [8])
  (.ret)) (.skip)))
  (.seq (.reg (straight [⟨some 88, none, .pur .mov [.tmp 12]⟩, ⟨some 89, none, .pur .mov [.tmp 13]⟩, ⟨some 90, none, .pur (.bin .eql) [.tmp 88, .tmp 89]⟩, ⟨some 91, none, .pur .mov [.tmp 90]⟩, ⟨some 92, some (91, false), .pur .mov [.tmp 9]⟩, ⟨some 93, some (91, false), .pur .mov [.tmp 12]⟩, ⟨some 94, some (91, false), .pur .mov [.tmp 13]⟩, ⟨some 95, some (91, false), .eff (.call 51) [.tmp 92, .tmp 93, .tmp 94]⟩, ⟨some 96, some (91, false), .pur .mov [.tmp 95]⟩, ⟨some 97, some (96, false), .pur .mov [.tmp 9]⟩, ⟨some 98, some (96, false), .pur .mov [.tmp 13]⟩, ⟨some 99, some (96, false), .pur .mov [.tmp 12]⟩, ⟨some 100, some (96, false), .eff (.call 51) [.tmp 97, .tmp 98, .tmp 99]⟩, ⟨some 101, some (91, false), .pur .pick [.tmp 96, .const (.bool true), .tmp 100]⟩, ⟨some 102, some (91, false), .pur .mov [.tmp 9]⟩, ⟨some 103, some (91, false), .pur .mov [.tmp 12]⟩, ⟨some 104, some (91, false), .pur .mov [.tmp 13]⟩, ⟨some 105, some (91, false), .eff (.call 52) [.tmp 102, .tmp 103, .tmp 104]⟩, ⟨some 106, some (91, false), .pur (.eqb true) [.tmp 101, .tmp 105]⟩, ⟨some 107, none, .pur .pick [.tmp 91, .const (.bool true), .tmp 106]⟩, ⟨some 8, none, .pur .mov [.tmp 107]⟩]) [8])
  (.ret)))))))))⟩
theorem K_forebaylaw31_ReachThrough : compF Try.prog 10 = some S_forebaylaw31_ReachThrough := by kernel_rfl

-- 11
def S_forebaylaw31_ReachOrders_L1 : SCode :=
  .seq (.seq (.reg (straight [⟨some 29, none, .pur .mov [.tmp 6]⟩, ⟨some 30, none, .pur .mov [.tmp 0]⟩, ⟨some 31, none, .pur (.len false) [.tmp 30]⟩, ⟨some 32, none, .pur (.bin .lss) [.tmp 29, .tmp 31]⟩]) [32])
  (.cond (.tmp 32) (.skip) (.exit 0)))
  (.seq (.block 1 (.reg (straight [⟨some 35, none, .pur .mov [.tmp 5]⟩, ⟨some 36, none, .pur .mov [.tmp 6]⟩, ⟨some 37, none, .eff (.bsl 3 1) [.tmp 36]⟩, ⟨some 38, none, .eff (.app 3 1 8 [.int .i64 0]) [.tmp 35, .tmp 37]⟩, ⟨some 5, none, .pur .mov [.tmp 38]⟩]) [5]))
  (.reg (straight [⟨some 33, none, .pur .mov [.tmp 6]⟩, ⟨some 34, none, .pur (.bin .add) [.tmp 33, .const (.int .i64 1)]⟩, ⟨some 6, none, .pur .mov [.tmp 34]⟩]) [6]))
def S_forebaylaw31_ReachOrders : Fun := ⟨43, [4, 8, 0, 1, 15, 25, 28, 6, 32, 5], [.tmp 4],
  .seq (.reg (straight [⟨some 4, none, .pur .mov [.const (.bool false)]⟩]) [4])
  (.seq (.seq (.reg (straight [⟨some 7, none, .eff (.call 43) []⟩, ⟨some 8, none, .pur .not [.tmp 7]⟩]) [8])
  (.cond (.tmp 8) (.seq (.reg (straight [⟨some 4, none, .pur .mov [.const (.bool false)]⟩]) [4])
  (.ret)) (.skip)))
  (.seq (.seq (.reg (straight [⟨some 9, none, .pur .mov [.tmp 0]⟩, ⟨some 10, none, .eff (.call 44) [.tmp 9]⟩, ⟨some 11, none, .pur .mov [.tmp 10]⟩, ⟨some 12, some (11, false), .pur .mov [.tmp 1]⟩, ⟨some 13, some (11, false), .pur (.len false) [.tmp 12]⟩, ⟨some 14, some (11, false), .pur (.bin .gtr) [.tmp 13, .const (.int .i64 200)]⟩, ⟨some 15, none, .pur .pick [.tmp 11, .const (.bool true), .tmp 14]⟩]) [15])
  (.cond (.tmp 15) (.seq (.reg (straight [⟨some 4, none, .pur .mov [.const (.bool true)]⟩]) [4])
  (.ret)) (.skip)))
  (.seq (.seq (.reg (straight [⟨some 16, none, .pur .mov [.tmp 0]⟩, ⟨some 17, none, .eff (.call 46) [.tmp 16]⟩, ⟨some 18, none, .eff (.bsl 3 1) []⟩, ⟨some 19, none, .pur .mov [.tmp 1]⟩, ⟨some 20, none, .eff (.app 3 1 8 [.int .i64 0]) [.tmp 18, .tmp 19]⟩, ⟨some 21, none, .eff (.call 55) [.tmp 17, .tmp 20]⟩, ⟨some 22, none, .pur .mov [.tmp 0]⟩, ⟨some 23, none, .pur .mov [.tmp 1]⟩, ⟨some 24, none, .eff (.call 56) [.tmp 22, .tmp 23]⟩, ⟨some 25, none, .pur (.eqb true) [.tmp 21, .tmp 24]⟩]) [25])
  (.cond (.tmp 25) (.seq (.reg (straight [⟨some 4, none, .pur .mov [.const (.bool false)]⟩]) [4])
  (.ret)) (.skip)))
  (.seq (.seq (.reg (straight [⟨some 26, none, .pur .mov [.tmp 0]⟩, ⟨some 27, none, .eff (.call 47) [.tmp 26]⟩, ⟨some 28, none, .pur (.bin .neq) [.tmp 27, .const (.int .i64 0)]⟩]) [28])
  (.cond (.tmp 28) (.seq (.reg (straight [⟨some 4, none, .pur .mov [.const (.bool true)]⟩]) [4])
  (.ret)) (.skip)))
  (.seq (.reg (straight [⟨some 5, none, .pur .mov [.const (.slice none 0 0)]⟩]) [5])
  (.seq (.seq (.reg (straight [⟨some 6, none, .pur .mov [.const (.int .i64 0)]⟩]) [6])
  (.block 0 (.loop S_forebaylaw31_ReachOrders_L1)))
  (.seq (.reg (straight [⟨some 39, none, .pur .mov [.tmp 0]⟩, ⟨some 40, none, .eff (.call 46) [.tmp 39]⟩, ⟨some 41, none, .pur .mov [.tmp 5]⟩, ⟨some 42, none, .eff (.call 55) [.tmp 40, .tmp 41]⟩, ⟨some 4, none, .pur .mov [.tmp 42]⟩]) [4])
  (.ret))))))))⟩
theorem K_forebaylaw31_ReachOrders : compF Try.prog 11 = some S_forebaylaw31_ReachOrders := by kernel_rfl

-- 19
def S_forebaylaw24_works : Fun := ⟨38, [0, 1, 3, 2], [.tmp 0],
  .seq (.reg (straight [⟨some 0, none, .pur .mov [.const (.bool false)]⟩]) [0])
  (.seq (.reg (straight [⟨some 4, none, .eff (.call 20) []⟩, ⟨some 1, none, .pur .mov [.tmp 4]⟩]) [1])
  (.seq (.reg (straight [⟨some 5, none, .pur .mov [.tmp 1]⟩, ⟨some 6, none, .pur (.bld [.int .i64 0, .int .i64 0, .int .i64 0, .int .i64 0] [(0, 1), (1, 1)]) [.const (.int .i64 1), .const (.int .i64 1)]⟩, ⟨some 7, none, .eff (.call 21) [.tmp 5, .tmp 6]⟩]) [])
  (.seq (.reg (straight [⟨some 8, none, .pur .mov [.tmp 1]⟩, ⟨some 9, none, .pur (.bld [.int .i64 0, .int .i64 0, .int .i64 0, .int .i64 0] [(0, 1), (1, 1)]) [.const (.int .i64 4), .const (.int .i64 1)]⟩, ⟨some 10, none, .eff (.call 21) [.tmp 8, .tmp 9]⟩]) [])
  (.seq (.reg (straight [⟨some 12, none, .pur .mov [.tmp 1]⟩, ⟨some 13, none, .eff (.call 77) [.tmp 12, .const (.int .i64 1), .const (.int .i64 0)]⟩, ⟨some 11, none, .pur .mov [.tmp 13]⟩, ⟨some 14, none, .pur (.ext 0) [.tmp 11]⟩, ⟨some 15, none, .pur (.ext 1) [.tmp 11]⟩, ⟨some 2, none, .eff (.new 28 [.int .i64 0, .int .i64 0, .int .i64 0, .int .i64 0]) []⟩, ⟨none, none, .eff (.st 4) [.tmp 2, .tmp 14]⟩, ⟨some 3, none, .pur .mov [.tmp 15]⟩]) [2, 3])
  (.seq (.reg (straight [⟨some 16, none, .pur .mov [.tmp 1]⟩, ⟨some 17, none, .eff (.call 78) [.tmp 16]⟩, ⟨some 18, none, .pur (.bin .eql) [.tmp 17, .const (.int .i64 2)]⟩, ⟨some 19, none, .pur .mov [.tmp 18]⟩, ⟨some 20, some (19, true), .pur .mov [.tmp 3]⟩, ⟨some 21, none, .pur .pick [.tmp 19, .tmp 20, .const (.bool false)]⟩, ⟨some 22, none, .pur .mov [.tmp 21]⟩, ⟨some 23, some (22, true), .pur (.fla 0) [.tmp 2]⟩, ⟨some 24, some (22, true), .ld none (.tmp 23)⟩, ⟨some 25, some (22, true), .pur (.bin .eql) [.tmp 24, .const (.int .i64 4)]⟩, ⟨some 26, none, .pur .pick [.tmp 22, .tmp 25, .const (.bool false)]⟩, ⟨some 27, none, .pur .mov [.tmp 26]⟩, ⟨some 28, some (27, true), .pur .mov [.tmp 1]⟩, ⟨some 29, some (27, true), .eff (.call 79) [.tmp 28, .const (.int .i64 1)]⟩, ⟨some 30, some (27, true), .pur (.bin .eql) [.tmp 29, .const (.int .i64 1)]⟩, ⟨some 31, none, .pur .pick [.tmp 27, .tmp 30, .const (.bool false)]⟩, ⟨some 32, none, .pur .mov [.tmp 31]⟩, ⟨some 33, some (32, true), .pur .mov [.tmp 1]⟩, ⟨some 34, some (32, true), .eff (.call 22) [.tmp 33]⟩, ⟨some 35, some (32, true), .eff (.bsl 3 1) [.const (.int .i64 1)]⟩, ⟨some 36, some (32, true), .eff (.call 66) [.tmp 34, .tmp 35]⟩, ⟨some 37, none, .pur .pick [.tmp 32, .tmp 36, .const (.bool false)]⟩, ⟨some 0, none, .pur .mov [.tmp 37]⟩]) [0])
  (.ret))))))⟩
theorem K_forebaylaw24_works : compF Try.prog 19 = some S_forebaylaw24_works := by kernel_rfl

-- 22
def S_log_Log_Loops_L1 : SCode :=
  .seq (.reg (straight [⟨some 10, none, .pur (.bin .lss) [.tmp 9, .tmp 8]⟩]) [10])
  (.seq (.cond (.tmp 10) (.skip) (.exit 0))
  (.seq (.block 1 (.seq (.reg (straight [⟨some 11, none, .pur (.ixa 4) [.tmp 7, .tmp 9]⟩, ⟨some 12, none, .ld (some 4) (.tmp 11)⟩, ⟨some 5, none, .eff (.new 28 [.int .i64 0, .int .i64 0, .int .i64 0, .int .i64 0]) []⟩, ⟨none, none, .eff (.st 4) [.tmp 5, .tmp 12]⟩]) [5])
  (.seq (.reg (straight [⟨some 13, none, .pur .mov [.tmp 3]⟩, ⟨some 14, none, .pur (.fla 1) [.tmp 5]⟩, ⟨some 15, none, .ld none (.tmp 14)⟩, ⟨some 16, none, .eff (.call 81) [.tmp 13, .tmp 15]⟩, ⟨some 17, none, .pur .not [.tmp 16]⟩]) [17])
  (.cond (.tmp 17) (.reg (straight [⟨some 18, none, .pur .mov [.tmp 3]⟩, ⟨some 19, none, .pur (.fla 1) [.tmp 5]⟩, ⟨some 20, none, .ld none (.tmp 19)⟩, ⟨some 21, none, .eff (.bsl 3 1) [.tmp 20]⟩, ⟨some 22, none, .eff (.app 3 1 8 [.int .i64 0]) [.tmp 18, .tmp 21]⟩, ⟨some 3, none, .pur .mov [.tmp 22]⟩]) [3]) (.skip)))))
  (.reg (straight [⟨some 23, none, .pur (.bin .add) [.tmp 9, .const (.int .i64 1)]⟩, ⟨some 9, none, .pur .mov [.tmp 23]⟩]) [9])))
def S_log_Log_Loops : Fun := ⟨25, [2, 0, 9, 8, 10, 7, 3, 5, 17], [.tmp 2],
  .seq (.reg (straight [⟨some 2, none, .pur .mov [.const (.slice none 0 0)]⟩]) [2])
  (.seq (.reg (straight [⟨some 3, none, .pur .mov [.const (.slice none 0 0)]⟩]) [3])
  (.seq (.seq (.reg (straight [⟨some 6, none, .pur .mov [.tmp 0]⟩, ⟨some 7, none, .eff (.call 80) [.tmp 6]⟩, ⟨some 8, none, .pur (.len false) [.tmp 7]⟩, ⟨some 9, none, .pur .mov [.const (.int .i64 0)]⟩]) [7, 8, 9])
  (.block 0 (.loop S_log_Log_Loops_L1)))
  (.seq (.reg (straight [⟨some 24, none, .pur .mov [.tmp 3]⟩, ⟨some 2, none, .pur .mov [.tmp 24]⟩]) [2])
  (.ret))))⟩
theorem K_log_Log_Loops : compF Try.prog 22 = some S_log_Log_Loops := by kernel_rfl

-- 37
def S_forebaylaw33_held : Fun := ⟨8, [2, 0, 4, 6], [.tmp 2],
  .seq (.reg (straight [⟨some 2, none, .pur .mov [.const (.int .i64 0)]⟩]) [2])
  (.seq (.seq (.reg (straight [⟨some 3, none, .pur .mov [.tmp 0]⟩, ⟨some 4, none, .pur (.bin .lss) [.tmp 3, .const (.int .i64 0)]⟩]) [4])
  (.cond (.tmp 4) (.seq (.reg (straight [⟨some 2, none, .pur .mov [.const (.int .i64 0)]⟩]) [2])
  (.ret)) (.skip)))
  (.seq (.seq (.reg (straight [⟨some 5, none, .pur .mov [.tmp 0]⟩, ⟨some 6, none, .pur (.bin .gtr) [.tmp 5, .const (.int .i64 1048576)]⟩]) [6])
  (.cond (.tmp 6) (.seq (.reg (straight [⟨some 2, none, .pur .mov [.const (.int .i64 1048576)]⟩]) [2])
  (.ret)) (.skip)))
  (.seq (.reg (straight [⟨some 7, none, .pur .mov [.tmp 0]⟩, ⟨some 2, none, .pur .mov [.tmp 7]⟩]) [2])
  (.ret))))⟩
theorem K_forebaylaw33_held : compF Try.prog 37 = some S_forebaylaw33_held := by kernel_rfl

-- 39
def S_grid_Iter : Fun := ⟨6, [2, 0], [.tmp 2],
  .seq (.reg (straight [⟨some 2, none, .pur .mov [.const (.int .i64 0)]⟩]) [2])
  (.seq (.reg (straight [⟨some 3, none, .pur .mov [.tmp 0]⟩, ⟨some 4, none, .pur .re [.tmp 3]⟩, ⟨some 5, none, .eff (.call 93) [.tmp 4]⟩, ⟨some 2, none, .pur .mov [.tmp 5]⟩]) [2])
  (.ret))⟩
theorem K_grid_Iter : compF Try.prog 39 = some S_grid_Iter := by kernel_rfl

-- 63
def S_span_Greedy : Fun := ⟨17, [4, 5, 0, 1, 6, 7], [.tmp 4, .tmp 5],
  .seq (.reg (straight [⟨some 4, none, .pur .mov [.const (.int .i64 0)]⟩, ⟨some 5, none, .pur .mov [.const (.int .i64 0)]⟩]) [4, 5])
  (.seq (.reg (straight [⟨some 9, none, .pur .mov [.tmp 0]⟩, ⟨some 10, none, .pur .mov [.tmp 1]⟩, ⟨some 11, none, .eff (.call 62) [.tmp 9, .tmp 10]⟩, ⟨some 8, none, .pur .mov [.tmp 11]⟩, ⟨some 12, none, .pur (.ext 0) [.tmp 8]⟩, ⟨some 13, none, .pur (.ext 1) [.tmp 8]⟩, ⟨some 6, none, .pur .mov [.tmp 12]⟩, ⟨some 7, none, .pur .mov [.tmp 13]⟩]) [6, 7])
  (.seq (.reg (straight [⟨some 14, none, .pur .mov [.tmp 6]⟩, ⟨some 15, none, .pur (.len false) [.tmp 14]⟩, ⟨some 16, none, .pur .mov [.tmp 7]⟩, ⟨some 4, none, .pur .mov [.tmp 15]⟩, ⟨some 5, none, .pur .mov [.tmp 16]⟩]) [4, 5])
  (.ret)))⟩
theorem K_span_Greedy : compF Try.prog 63 = some S_span_Greedy := by kernel_rfl

-- 64
def S_forebayref41_Level_L1 : SCode :=
  .seq (.seq (.reg (straight [⟨some 10, none, .pur .mov [.tmp 6]⟩, ⟨some 11, none, .pur .mov [.tmp 5]⟩, ⟨some 12, none, .pur (.len false) [.tmp 11]⟩, ⟨some 13, none, .pur (.bin .lss) [.tmp 10, .tmp 12]⟩]) [13])
  (.cond (.tmp 13) (.skip) (.exit 0)))
  (.seq (.block 1 (.reg (straight [⟨some 16, none, .pur .mov [.tmp 5]⟩, ⟨some 17, none, .pur .mov [.tmp 6]⟩, ⟨some 18, none, .pur (.ixa 1) [.tmp 16, .tmp 17]⟩, ⟨none, none, .eff (.st 1) [.tmp 18, .const (.int .i64 1)]⟩]) []))
  (.reg (straight [⟨some 14, none, .pur .mov [.tmp 6]⟩, ⟨some 15, none, .pur (.bin .add) [.tmp 14, .const (.int .i64 1)]⟩, ⟨some 6, none, .pur .mov [.tmp 15]⟩]) [6]))
def S_forebayref41_Level : Fun := ⟨27, [4, 0, 6, 5, 13, 1], [.tmp 4],
  .seq (.reg (straight [⟨some 4, none, .pur .mov [.const (.int .i64 0)]⟩]) [4])
  (.seq (.reg (straight [⟨some 7, none, .pur .mov [.tmp 0]⟩, ⟨some 8, none, .pur (.len false) [.tmp 7]⟩, ⟨some 9, none, .eff (.mks 3 1 8 [.int .i64 0]) [.tmp 8, .tmp 8]⟩, ⟨some 5, none, .pur .mov [.tmp 9]⟩]) [5])
  (.seq (.seq (.reg (straight [⟨some 6, none, .pur .mov [.const (.int .i64 0)]⟩]) [6])
  (.block 0 (.loop S_forebayref41_Level_L1)))
  (.seq (.reg (straight [⟨some 19, none, .pur .mov [.tmp 0]⟩, ⟨some 20, none, .pur .mov [.tmp 5]⟩, ⟨some 21, none, .pur .mov [.tmp 1]⟩, ⟨some 22, none, .pur .mov [.tmp 0]⟩, ⟨some 23, none, .pur (.len false) [.tmp 22]⟩, ⟨some 24, none, .eff (.mks 3 1 8 [.int .i64 0]) [.tmp 23, .tmp 23]⟩, ⟨some 25, none, .eff (.call 100) [.tmp 19, .tmp 20, .tmp 21, .tmp 24]⟩, ⟨some 26, none, .pur (.bin .sub) [.tmp 25, .const (.int .i64 1)]⟩, ⟨some 4, none, .pur .mov [.tmp 26]⟩]) [4])
  (.ret))))⟩
theorem K_forebayref41_Level : compF Try.prog 64 = some S_forebayref41_Level := by kernel_rfl

-- 71
def S_forebayref41_Span_L1 : SCode :=
  .seq (.seq (.reg (straight [⟨some 11, none, .pur .mov [.tmp 7]⟩, ⟨some 12, none, .pur .mov [.tmp 0]⟩, ⟨some 13, none, .pur (.len false) [.tmp 12]⟩, ⟨some 14, none, .pur (.bin .lss) [.tmp 11, .tmp 13]⟩]) [14])
  (.cond (.tmp 14) (.skip) (.exit 0)))
  (.seq (.block 1 (.reg (straight [⟨some 17, none, .pur .mov [.tmp 6]⟩, ⟨some 18, none, .pur .mov [.tmp 0]⟩, ⟨some 19, none, .pur .mov [.tmp 1]⟩, ⟨some 20, none, .pur .mov [.tmp 7]⟩, ⟨some 21, none, .pur .mov [.tmp 5]⟩, ⟨some 22, none, .eff (.call 100) [.tmp 18, .tmp 19, .tmp 20, .tmp 21]⟩, ⟨some 23, none, .pur (.minmax true) [.tmp 17, .tmp 22]⟩, ⟨some 6, none, .pur .mov [.tmp 23]⟩]) [6]))
  (.reg (straight [⟨some 15, none, .pur .mov [.tmp 7]⟩, ⟨some 16, none, .pur (.bin .add) [.tmp 15, .const (.int .i64 1)]⟩, ⟨some 7, none, .pur .mov [.tmp 16]⟩]) [7]))
def S_forebayref41_Span : Fun := ⟨25, [4, 0, 7, 14, 6, 1, 5], [.tmp 4],
  .seq (.reg (straight [⟨some 4, none, .pur .mov [.const (.int .i64 0)]⟩]) [4])
  (.seq (.reg (straight [⟨some 8, none, .pur .mov [.tmp 0]⟩, ⟨some 9, none, .pur (.len false) [.tmp 8]⟩, ⟨some 10, none, .eff (.mks 3 1 8 [.int .i64 0]) [.tmp 9, .tmp 9]⟩, ⟨some 5, none, .pur .mov [.tmp 10]⟩]) [5])
  (.seq (.reg (straight [⟨some 6, none, .pur .mov [.const (.int .i64 0)]⟩]) [6])
  (.seq (.seq (.reg (straight [⟨some 7, none, .pur .mov [.const (.int .i64 0)]⟩]) [7])
  (.block 0 (.loop S_forebayref41_Span_L1)))
  (.seq (.reg (straight [⟨some 24, none, .pur .mov [.tmp 6]⟩, ⟨some 4, none, .pur .mov [.tmp 24]⟩]) [4])
  (.ret)))))⟩
theorem K_forebayref41_Span : compF Try.prog 71 = some S_forebayref41_Span := by kernel_rfl

-- 74
def S_forebaylaw30_Marks_L1 : SCode :=
  .seq (.seq (.reg (straight [⟨some 5, none, .pur .mov [.tmp 4]⟩, ⟨some 6, none, .pur .mov [.tmp 0]⟩, ⟨some 7, none, .pur (.len false) [.tmp 6]⟩, ⟨some 8, none, .pur (.bin .lss) [.tmp 5, .tmp 7]⟩]) [8])
  (.cond (.tmp 8) (.skip) (.exit 0)))
  (.seq (.block 1 (.reg (.run ⟨some 11, none, .pur .mov [.tmp 3]⟩ (.run ⟨some 12, none, .pur .mov [.tmp 0]⟩ (.run ⟨some 13, none, .pur .mov [.tmp 4]⟩ (.run ⟨some 14, none, .pur (.ixa 3) [.tmp 12, .tmp 13]⟩ (.run ⟨some 15, none, .pur (.fla 0) [.tmp 14]⟩ (.run ⟨some 16, none, .ld none (.tmp 15)⟩ (.run ⟨some 17, none, .pur .mov [.tmp 0]⟩ (.run ⟨some 18, none, .pur .mov [.tmp 4]⟩ (.run ⟨some 19, none, .pur (.ixa 3) [.tmp 17, .tmp 18]⟩ (.run ⟨some 20, none, .pur (.fla 1) [.tmp 19]⟩ (.run ⟨some 21, none, .ld none (.tmp 20)⟩ (.run ⟨some 22, none, .pur .mov [.tmp 0]⟩ (.run ⟨some 23, none, .pur .mov [.tmp 4]⟩ (.run ⟨some 24, none, .pur (.ixa 3) [.tmp 22, .tmp 23]⟩ (.run ⟨some 25, none, .pur (.fla 2) [.tmp 24]⟩ (.run ⟨some 26, none, .ld none (.tmp 25)⟩ (.run ⟨some 27, none, .pur (.bld [.int .i64 0, .int .i64 0, .int .i64 0] [(0, 1), (1, 1), (2, 1)]) [.tmp 16, .tmp 21, .tmp 26]⟩ (.eff ⟨some 28, none, .eff (.bsl 158 3) [.tmp 27]⟩ [] (.eff ⟨some 29, none, .eff (.app 158 3 24 [.int .i64 0, .int .i64 0, .int .i64 0]) [.tmp 11, .tmp 28]⟩ [] (.eff ⟨some 3, none, .pur .mov [.tmp 29]⟩ [] .done)))))))))))))))))))) [3]))
  (.reg (straight [⟨some 9, none, .pur .mov [.tmp 4]⟩, ⟨some 10, none, .pur (.bin .add) [.tmp 9, .const (.int .i64 1)]⟩, ⟨some 4, none, .pur .mov [.tmp 10]⟩]) [4]))
def S_forebaylaw30_Marks : Fun := ⟨31, [2, 4, 0, 8, 3], [.tmp 2],
  .seq (.reg (straight [⟨some 2, none, .pur .mov [.const (.slice none 0 0)]⟩]) [2])
  (.seq (.reg (straight [⟨some 3, none, .pur .mov [.const (.slice none 0 0)]⟩]) [3])
  (.seq (.seq (.reg (straight [⟨some 4, none, .pur .mov [.const (.int .i64 0)]⟩]) [4])
  (.block 0 (.loop S_forebaylaw30_Marks_L1)))
  (.seq (.reg (straight [⟨some 30, none, .pur .mov [.tmp 3]⟩, ⟨some 2, none, .pur .mov [.tmp 30]⟩]) [2])
  (.ret))))⟩
theorem K_forebaylaw30_Marks : compF Try.prog 74 = some S_forebaylaw30_Marks := by kernel_rfl

-- 76
def S_forebaylaw30_Same_L1 : SCode :=
  .seq (.seq (.reg (straight [⟨some 47, none, .pur .mov [.tmp 5]⟩, ⟨some 48, none, .pur (.fla 0) [.tmp 2]⟩, ⟨some 49, none, .ld none (.tmp 48)⟩, ⟨some 50, none, .pur (.len false) [.tmp 49]⟩, ⟨some 51, none, .pur (.bin .lss) [.tmp 47, .tmp 50]⟩]) [51])
  (.cond (.tmp 51) (.skip) (.exit 0)))
  (.seq (.block 1 (.seq (.reg (.run ⟨some 54, none, .pur (.fla 0) [.tmp 2]⟩ (.run ⟨some 55, none, .ld none (.tmp 54)⟩ (.run ⟨some 56, none, .pur .mov [.tmp 5]⟩ (.run ⟨some 57, none, .pur (.ixa 1) [.tmp 55, .tmp 56]⟩ (.run ⟨some 58, none, .ld none (.tmp 57)⟩ (.run ⟨some 59, none, .pur .mov [.tmp 1]⟩ (.run ⟨some 60, none, .pur .nilc [.tmp 59]⟩ (.run ⟨some 61, none, .pur (.fla 2) [.tmp 60]⟩ (.run ⟨some 62, none, .ld none (.tmp 61)⟩ (.run ⟨some 63, none, .pur .mov [.tmp 5]⟩ (.run ⟨some 64, none, .pur (.ixa 1) [.tmp 62, .tmp 63]⟩ (.run ⟨some 65, none, .ld none (.tmp 64)⟩ (.eff ⟨some 66, none, .eff (.call 66) [.tmp 58, .tmp 65]⟩ [] (.run ⟨some 67, none, .pur .not [.tmp 66]⟩ (.run ⟨some 68, none, .pur .mov [.tmp 67]⟩ (.run ⟨some 69, some (68, false), .pur (.fla 1) [.tmp 2]⟩ (.run ⟨some 70, some (68, false), .ld none (.tmp 69)⟩ (.run ⟨some 71, some (68, false), .pur .mov [.tmp 5]⟩ (.run ⟨some 72, some (68, false), .pur (.ixa 3) [.tmp 70, .tmp 71]⟩ (.run ⟨some 73, some (68, false), .pur (.fla 0) [.tmp 72]⟩ (.run ⟨some 74, some (68, false), .ld none (.tmp 73)⟩ (.run ⟨some 75, some (68, false), .pur .mov [.tmp 1]⟩ (.run ⟨some 76, some (68, false), .pur .nilc [.tmp 75]⟩ (.run ⟨some 77, some (68, false), .pur (.fla 3) [.tmp 76]⟩ (.run ⟨some 78, some (68, false), .ld none (.tmp 77)⟩ (.run ⟨some 79, some (68, false), .pur .mov [.tmp 5]⟩ (.run ⟨some 80, some (68, false), .pur (.ixa 3) [.tmp 78, .tmp 79]⟩ (.run ⟨some 81, some (68, false), .pur (.fla 0) [.tmp 80]⟩ (.run ⟨some 82, some (68, false), .ld none (.tmp 81)⟩ (.run ⟨some 83, some (68, false), .pur (.bin .neq) [.tmp 74, .tmp 82]⟩ (.run ⟨some 84, none, .pur .pick [.tmp 68, .const (.bool true), .tmp 83]⟩ (.run ⟨some 85, none, .pur .mov [.tmp 84]⟩ (.run ⟨some 86, some (85, false), .pur (.fla 1) [.tmp 2]⟩ (.run ⟨some 87, some (85, false), .ld none (.tmp 86)⟩ (.run ⟨some 88, some (85, false), .pur .mov [.tmp 5]⟩ (.run ⟨some 89, some (85, false), .pur (.ixa 3) [.tmp 87, .tmp 88]⟩ (.run ⟨some 90, some (85, false), .pur (.fla 1) [.tmp 89]⟩ (.run ⟨some 91, some (85, false), .ld none (.tmp 90)⟩ (.run ⟨some 92, some (85, false), .pur .mov [.tmp 1]⟩ (.run ⟨some 93, some (85, false), .pur .nilc [.tmp 92]⟩ (.run ⟨some 94, some (85, false), .pur (.fla 3) [.tmp 93]⟩ (.run ⟨some 95, some (85, false), .ld none (.tmp 94)⟩ (.run ⟨some 96, some (85, false), .pur .mov [.tmp 5]⟩ (.run ⟨some 97, some (85, false), .pur (.ixa 3) [.tmp 95, .tmp 96]⟩ (.run ⟨some 98, some (85, false), .pur (.fla 1) [.tmp 97]⟩ (.run ⟨some 99, some (85, false), .ld none (.tmp 98)⟩ (.run ⟨some 100, some (85, false), .pur (.bin .neq) [.tmp 91, .tmp 99]⟩ (.run ⟨some 101, none, .pur .pick [.tmp 85, .const (.bool true), .tmp 100]⟩ (.run ⟨some 102, none, .pur .mov [.tmp 101]⟩ (.run ⟨some 103, some (102, false), .pur (.fla 1) [.tmp 2]⟩ (.run ⟨some 104, some (102, false), .ld none (.tmp 103)⟩ (.run ⟨some 105, some (102, false), .pur .mov [.tmp 5]⟩ (.run ⟨some 106, some (102, false), .pur (.ixa 3) [.tmp 104, .tmp 105]⟩ (.run ⟨some 107, some (102, false), .pur (.fla 2) [.tmp 106]⟩ (.run ⟨some 108, some (102, false), .ld none (.tmp 107)⟩ (.run ⟨some 109, some (102, false), .pur .mov [.tmp 1]⟩ (.run ⟨some 110, some (102, false), .pur .nilc [.tmp 109]⟩ (.run ⟨some 111, some (102, false), .pur (.fla 3) [.tmp 110]⟩ (.run ⟨some 112, some (102, false), .ld none (.tmp 111)⟩ (.run ⟨some 113, some (102, false), .pur .mov [.tmp 5]⟩ (.run ⟨some 114, some (102, false), .pur (.ixa 3) [.tmp 112, .tmp 113]⟩ (.run ⟨some 115, some (102, false), .pur (.fla 2) [.tmp 114]⟩ (.run ⟨some 116, some (102, false), .ld none (.tmp 115)⟩ (.run ⟨some 117, some (102, false), .pur (.bin .neq) [.tmp 108, .tmp 116]⟩ (.run ⟨some 118, none, .pur .pick [.tmp 102, .const (.bool true), .tmp 117]⟩ .done))))))))))))))))))))))))))))))))))))))))))))))))))))))))))))))))) [118])
  (.cond (.tmp 118) (.seq (.reg (straight [⟨some 4, none, .pur .mov [.const (.bool false)]⟩]) [4])
  (.ret)) (.skip))))
  (.reg (straight [⟨some 52, none, .pur .mov [.tmp 5]⟩, ⟨some 53, none, .pur (.bin .add) [.tmp 52, .const (.int .i64 1)]⟩, ⟨some 5, none, .pur .mov [.tmp 53]⟩]) [5]))
def S_forebaylaw30_Same_L2 : SCode :=
  .seq (.seq (.reg (straight [⟨some 119, none, .pur .mov [.tmp 6]⟩, ⟨some 120, none, .pur (.fla 2) [.tmp 2]⟩, ⟨some 121, none, .ld none (.tmp 120)⟩, ⟨some 122, none, .pur (.len false) [.tmp 121]⟩, ⟨some 123, none, .pur (.bin .lss) [.tmp 119, .tmp 122]⟩]) [123])
  (.cond (.tmp 123) (.skip) (.exit 2)))
  (.seq (.block 3 (.seq (.reg (straight [⟨some 126, none, .pur (.fla 2) [.tmp 2]⟩, ⟨some 127, none, .ld none (.tmp 126)⟩, ⟨some 128, none, .pur .mov [.tmp 6]⟩, ⟨some 129, none, .pur (.ixa 3) [.tmp 127, .tmp 128]⟩, ⟨some 130, none, .ld (some 3) (.tmp 129)⟩, ⟨some 131, none, .pur .mov [.tmp 1]⟩, ⟨some 132, none, .pur .nilc [.tmp 131]⟩, ⟨some 133, none, .pur (.fla 4) [.tmp 132]⟩, ⟨some 134, none, .ld none (.tmp 133)⟩, ⟨some 135, none, .pur .mov [.tmp 6]⟩, ⟨some 136, none, .pur (.ixa 3) [.tmp 134, .tmp 135]⟩, ⟨some 137, none, .ld (some 3) (.tmp 136)⟩, ⟨some 138, none, .pur (.eqs true [.int .i64, .int .i64, .bool]) [.tmp 130, .tmp 137]⟩]) [138])
  (.cond (.tmp 138) (.seq (.reg (straight [⟨some 4, none, .pur .mov [.const (.bool false)]⟩]) [4])
  (.ret)) (.skip))))
  (.reg (straight [⟨some 124, none, .pur .mov [.tmp 6]⟩, ⟨some 125, none, .pur (.bin .add) [.tmp 124, .const (.int .i64 1)]⟩, ⟨some 6, none, .pur .mov [.tmp 125]⟩]) [6]))
def S_forebaylaw30_Same : Fun := ⟨139, [4, 0, 2, 1, 46, 5, 51, 118, 6, 123, 138], [.tmp 4],
  .seq (.reg (straight [⟨some 2, none, .eff (.box 98) [.tmp 0]⟩, ⟨some 4, none, .pur .mov [.const (.bool false)]⟩]) [2, 4])
  (.seq (.seq (.reg (straight [⟨some 7, none, .pur (.fla 0) [.tmp 2]⟩, ⟨some 8, none, .ld none (.tmp 7)⟩, ⟨some 9, none, .pur (.len false) [.tmp 8]⟩, ⟨some 10, none, .pur .mov [.tmp 1]⟩, ⟨some 11, none, .pur .nilc [.tmp 10]⟩, ⟨some 12, none, .pur (.fla 2) [.tmp 11]⟩, ⟨some 13, none, .ld none (.tmp 12)⟩, ⟨some 14, none, .pur (.len false) [.tmp 13]⟩, ⟨some 15, none, .pur (.bin .neq) [.tmp 9, .tmp 14]⟩, ⟨some 16, none, .pur .mov [.tmp 15]⟩, ⟨some 17, some (16, false), .pur (.fla 1) [.tmp 2]⟩, ⟨some 18, some (16, false), .ld none (.tmp 17)⟩, ⟨some 19, some (16, false), .pur (.len false) [.tmp 18]⟩, ⟨some 20, some (16, false), .pur .mov [.tmp 1]⟩, ⟨some 21, some (16, false), .pur .nilc [.tmp 20]⟩, ⟨some 22, some (16, false), .pur (.fla 3) [.tmp 21]⟩, ⟨some 23, some (16, false), .ld none (.tmp 22)⟩, ⟨some 24, some (16, false), .pur (.len false) [.tmp 23]⟩, ⟨some 25, some (16, false), .pur (.bin .neq) [.tmp 19, .tmp 24]⟩, ⟨some 26, none, .pur .pick [.tmp 16, .const (.bool true), .tmp 25]⟩, ⟨some 27, none, .pur .mov [.tmp 26]⟩, ⟨some 28, some (27, false), .pur (.fla 2) [.tmp 2]⟩, ⟨some 29, some (27, false), .ld none (.tmp 28)⟩, ⟨some 30, some (27, false), .pur (.len false) [.tmp 29]⟩, ⟨some 31, some (27, false), .pur .mov [.tmp 1]⟩, ⟨some 32, some (27, false), .pur .nilc [.tmp 31]⟩, ⟨some 33, some (27, false), .pur (.fla 4) [.tmp 32]⟩, ⟨some 34, some (27, false), .ld none (.tmp 33)⟩, ⟨some 35, some (27, false), .pur (.len false) [.tmp 34]⟩, ⟨some 36, some (27, false), .pur (.bin .neq) [.tmp 30, .tmp 35]⟩, ⟨some 37, none, .pur .pick [.tmp 27, .const (.bool true), .tmp 36]⟩, ⟨some 38, none, .pur .mov [.tmp 37]⟩, ⟨some 39, some (38, false), .pur (.fla 1) [.tmp 2]⟩, ⟨some 40, some (38, false), .ld none (.tmp 39)⟩, ⟨some 41, some (38, false), .pur (.len false) [.tmp 40]⟩, ⟨some 42, some (38, false), .pur (.fla 0) [.tmp 2]⟩, ⟨some 43, some (38, false), .ld none (.tmp 42)⟩, ⟨some 44, some (38, false), .pur (.len false) [.tmp 43]⟩, ⟨some 45, some (38, false), .pur (.bin .neq) [.tmp 41, .tmp 44]⟩, ⟨some 46, none, .pur .pick [.tmp 38, .const (.bool true), .tmp 45]⟩]) [46])
  (.cond (.tmp 46) (.seq (.reg (straight [⟨some 4, none, .pur .mov [.const (.bool false)]⟩]) [4])
  (.ret)) (.skip)))
  (.seq (.seq (.reg (straight [⟨some 5, none, .pur .mov [.const (.int .i64 0)]⟩]) [5])
  (.block 0 (.loop S_forebaylaw30_Same_L1)))
  (.seq (.seq (.reg (straight [⟨some 6, none, .pur .mov [.const (.int .i64 0)]⟩]) [6])
  (.block 2 (.loop S_forebaylaw30_Same_L2)))
  (.seq (.reg (straight [⟨some 4, none, .pur .mov [.const (.bool true)]⟩]) [4])
  (.ret)))))⟩
theorem K_forebaylaw30_Same : compF Try.prog 76 = some S_forebaylaw30_Same := by kernel_rfl

-- 80
def S_log_Log_all : Fun := ⟨9, [2, 0, 4], [.tmp 2],
  .seq (.reg (straight [⟨some 2, none, .pur .mov [.const (.slice none 0 0)]⟩]) [2])
  (.seq (.seq (.reg (straight [⟨some 3, none, .pur .mov [.tmp 0]⟩, ⟨some 4, none, .pur (.eqn false 0) [.tmp 3]⟩]) [4])
  (.cond (.tmp 4) (.seq (.reg (straight [⟨some 2, none, .pur .mov [.const (.slice none 0 0)]⟩]) [2])
  (.ret)) (.skip)))
  (.seq (.reg (straight [⟨some 5, none, .pur .mov [.tmp 0]⟩, ⟨some 6, none, .pur .nilc [.tmp 5]⟩, ⟨some 7, none, .pur (.fla 0) [.tmp 6]⟩, ⟨some 8, none, .ld none (.tmp 7)⟩, ⟨some 2, none, .pur .mov [.tmp 8]⟩]) [2])
  (.ret)))⟩
theorem K_log_Log_all : compF Try.prog 80 = some S_log_Log_all := by kernel_rfl

-- 82
def S_log_Log_Of : Fun := ⟨8, [4, 1, 0, 3], [.tmp 4],
  .seq (.reg (straight [⟨some 3, none, .eff (.box 3) [.tmp 1]⟩, ⟨some 4, none, .pur .mov [.const .nilFunc]⟩]) [3, 4])
  (.seq (.reg (straight [⟨some 5, none, .pur .mov [.tmp 0]⟩, ⟨some 6, none, .pur (.mkf (.func 111) 0) [.tmp 3]⟩, ⟨some 7, none, .eff (.call 108) [.tmp 5, .tmp 6]⟩, ⟨some 4, none, .pur .mov [.tmp 7]⟩]) [4])
  (.ret))⟩
theorem K_log_Log_Of : compF Try.prog 82 = some S_log_Log_Of := by kernel_rfl

-- 90
def S_grid_into_L1 : SCode :=
  .seq (.reg (straight [⟨some 57, none, .pur (.bin .lss) [.tmp 56, .tmp 55]⟩]) [57])
  (.seq (.cond (.tmp 57) (.skip) (.exit 1))
  (.seq (.block 2 (.seq (.reg (straight [⟨some 58, none, .pur (.ixa 2) [.tmp 54, .tmp 56]⟩, ⟨some 59, none, .ld (some 2) (.tmp 58)⟩, ⟨some 11, none, .eff (.new 139 [.int .i64 0, .bool false]) []⟩, ⟨none, none, .eff (.st 2) [.tmp 11, .tmp 59]⟩]) [11])
  (.seq (.reg (straight [⟨some 60, none, .pur (.fla 0) [.tmp 11]⟩, ⟨some 61, none, .ld none (.tmp 60)⟩, ⟨some 62, none, .pur (.fla 0) [.tmp 8]⟩, ⟨some 63, none, .ld none (.tmp 62)⟩, ⟨some 64, none, .pur (.bin .leq) [.tmp 61, .tmp 63]⟩]) [64])
  (.cond (.tmp 64) (.reg (straight [⟨some 65, none, .pur (.fla 0) [.tmp 11]⟩, ⟨some 66, none, .ld none (.tmp 65)⟩, ⟨some 9, none, .pur .mov [.tmp 66]⟩]) [9]) (.skip)))))
  (.reg (straight [⟨some 67, none, .pur (.bin .add) [.tmp 56, .const (.int .i64 1)]⟩, ⟨some 56, none, .pur .mov [.tmp 67]⟩]) [56])))
def S_grid_into : Fun := ⟨76, [6, 0, 1, 2, 20, 7, 35, 38, 8, 47, 56, 55, 57, 54, 11, 64, 9], [.tmp 6],
  .seq (.reg (straight [⟨some 6, none, .pur .mov [.const (.slice none 0 0)]⟩]) [6])
  (.seq (.reg (straight [⟨some 7, none, .pur .mov [.const (.slice none 0 0)]⟩]) [7])
  (.seq (.reg (straight [⟨some 12, none, .pur .mov [.tmp 0]⟩, ⟨some 13, none, .pur .mov [.tmp 1]⟩, ⟨some 14, none, .pur (.ixa 1) [.tmp 12, .tmp 13]⟩, ⟨some 15, none, .ld none (.tmp 14)⟩, ⟨some 16, none, .pur .mov [.tmp 2]⟩, ⟨some 17, none, .pur (.ixa 2) [.tmp 15, .tmp 16]⟩, ⟨some 18, none, .ld (some 2) (.tmp 17)⟩, ⟨some 8, none, .eff (.new 139 [.int .i64 0, .bool false]) []⟩, ⟨none, none, .eff (.st 2) [.tmp 8, .tmp 18]⟩]) [8])
  (.seq (.seq (.reg (straight [⟨some 19, none, .pur .mov [.tmp 2]⟩, ⟨some 20, none, .pur (.bin .gtr) [.tmp 19, .const (.int .i64 0)]⟩]) [20])
  (.cond (.tmp 20) (.reg (straight [⟨some 21, none, .pur .mov [.tmp 7]⟩, ⟨some 22, none, .pur .mov [.tmp 1]⟩, ⟨some 23, none, .pur .mov [.tmp 0]⟩, ⟨some 24, none, .pur .mov [.tmp 1]⟩, ⟨some 25, none, .pur (.ixa 1) [.tmp 23, .tmp 24]⟩, ⟨some 26, none, .ld none (.tmp 25)⟩, ⟨some 27, none, .pur .mov [.tmp 2]⟩, ⟨some 28, none, .pur (.bin .sub) [.tmp 27, .const (.int .i64 1)]⟩, ⟨some 29, none, .pur (.ixa 2) [.tmp 26, .tmp 28]⟩, ⟨some 30, none, .pur (.fla 0) [.tmp 29]⟩, ⟨some 31, none, .ld none (.tmp 30)⟩, ⟨some 32, none, .eff (.call 35) [.tmp 22, .tmp 31]⟩, ⟨some 33, none, .eff (.bsl 52 1) [.tmp 32]⟩, ⟨some 34, none, .eff (.app 52 1 16 [.complex .f64 0 0]) [.tmp 21, .tmp 33]⟩, ⟨some 7, none, .pur .mov [.tmp 34]⟩]) [7]) (.skip)))
  (.seq (.block 0 (.seq (.reg (straight [⟨some 36, none, .pur .mov [.tmp 1]⟩, ⟨some 37, none, .pur (.bin .eql) [.tmp 36, .const (.int .i64 0)]⟩, ⟨some 35, none, .pur .mov [.tmp 37]⟩]) [35])
  (.cond (.tmp 35) (.skip) (.seq (.reg (straight [⟨some 39, none, .pur .mov [.tmp 2]⟩, ⟨some 40, none, .pur (.bin .eql) [.tmp 39, .const (.int .i64 0)]⟩, ⟨some 38, none, .pur .mov [.tmp 40]⟩]) [38])
  (.cond (.tmp 38) (.reg (straight [⟨some 41, none, .pur .mov [.tmp 7]⟩, ⟨some 42, none, .pur .mov [.tmp 1]⟩, ⟨some 43, none, .pur (.bin .sub) [.tmp 42, .const (.int .i64 1)]⟩, ⟨some 44, none, .eff (.call 35) [.tmp 43, .const (.int .i64 0)]⟩, ⟨some 45, none, .eff (.bsl 52 1) [.tmp 44]⟩, ⟨some 46, none, .eff (.app 52 1 16 [.complex .f64 0 0]) [.tmp 41, .tmp 45]⟩, ⟨some 7, none, .pur .mov [.tmp 46]⟩]) [7]) (.seq (.reg (straight [⟨some 48, none, .pur (.fla 1) [.tmp 8]⟩, ⟨some 49, none, .ld none (.tmp 48)⟩, ⟨some 47, none, .pur .mov [.tmp 49]⟩]) [47])
  (.cond (.tmp 47) (.seq (.reg (straight [⟨some 9, none, .pur .mov [.const (.int .i64 0)]⟩]) [9])
  (.seq (.seq (.reg (straight [⟨some 50, none, .pur .mov [.tmp 0]⟩, ⟨some 51, none, .pur .mov [.tmp 1]⟩, ⟨some 52, none, .pur (.bin .sub) [.tmp 51, .const (.int .i64 1)]⟩, ⟨some 53, none, .pur (.ixa 1) [.tmp 50, .tmp 52]⟩, ⟨some 54, none, .ld none (.tmp 53)⟩, ⟨some 55, none, .pur (.len false) [.tmp 54]⟩, ⟨some 56, none, .pur .mov [.const (.int .i64 0)]⟩]) [54, 55, 56])
  (.block 1 (.loop S_grid_into_L1)))
  (.reg (straight [⟨some 68, none, .pur .mov [.tmp 7]⟩, ⟨some 69, none, .pur .mov [.tmp 1]⟩, ⟨some 70, none, .pur (.bin .sub) [.tmp 69, .const (.int .i64 1)]⟩, ⟨some 71, none, .pur .mov [.tmp 9]⟩, ⟨some 72, none, .eff (.call 35) [.tmp 70, .tmp 71]⟩, ⟨some 73, none, .eff (.bsl 52 1) [.tmp 72]⟩, ⟨some 74, none, .eff (.app 52 1 16 [.complex .f64 0 0]) [.tmp 68, .tmp 73]⟩, ⟨some 7, none, .pur .mov [.tmp 74]⟩]) [7]))) (.skip))))))))
  (.seq (.reg (straight [⟨some 75, none, .pur .mov [.tmp 7]⟩, ⟨some 6, none, .pur .mov [.tmp 75]⟩]) [6])
  (.ret))))))⟩
theorem K_grid_into : compF Try.prog 90 = some S_grid_into := by kernel_rfl

-- 100
def S_forebayref41_path_L1 : SCode :=
  .seq (.seq (.reg (straight [⟨some 20, none, .pur .mov [.tmp 10]⟩, ⟨some 21, none, .pur .mov [.tmp 0]⟩, ⟨some 22, none, .pur .mov [.tmp 2]⟩, ⟨some 23, none, .pur (.ixa 1) [.tmp 21, .tmp 22]⟩, ⟨some 24, none, .ld none (.tmp 23)⟩, ⟨some 25, none, .pur (.len false) [.tmp 24]⟩, ⟨some 26, none, .pur (.bin .lss) [.tmp 20, .tmp 25]⟩]) [26])
  (.cond (.tmp 26) (.skip) (.exit 0)))
  (.seq (.block 1 (.reg (straight [⟨some 29, none, .pur .mov [.tmp 9]⟩, ⟨some 30, none, .pur .mov [.tmp 0]⟩, ⟨some 31, none, .pur .mov [.tmp 1]⟩, ⟨some 32, none, .pur .mov [.tmp 0]⟩, ⟨some 33, none, .pur .mov [.tmp 2]⟩, ⟨some 34, none, .pur (.ixa 1) [.tmp 32, .tmp 33]⟩, ⟨some 35, none, .ld none (.tmp 34)⟩, ⟨some 36, none, .pur .mov [.tmp 10]⟩, ⟨some 37, none, .pur (.ixa 1) [.tmp 35, .tmp 36]⟩, ⟨some 38, none, .ld none (.tmp 37)⟩, ⟨some 39, none, .pur .mov [.tmp 3]⟩, ⟨some 40, none, .eff (.call 100) [.tmp 30, .tmp 31, .tmp 38, .tmp 39]⟩, ⟨some 41, none, .pur (.minmax true) [.tmp 29, .tmp 40]⟩, ⟨some 9, none, .pur .mov [.tmp 41]⟩]) [9]))
  (.reg (straight [⟨some 27, none, .pur .mov [.tmp 10]⟩, ⟨some 28, none, .pur (.bin .add) [.tmp 27, .const (.int .i64 1)]⟩, ⟨some 10, none, .pur .mov [.tmp 28]⟩]) [10]))
def S_forebayref41_path : Fun := ⟨55, [8, 3, 2, 15, 10, 0, 26, 9, 1], [.tmp 8],
  .seq (.reg (straight [⟨some 8, none, .pur .mov [.const (.int .i64 0)]⟩]) [8])
  (.seq (.seq (.reg (straight [⟨some 11, none, .pur .mov [.tmp 3]⟩, ⟨some 12, none, .pur .mov [.tmp 2]⟩, ⟨some 13, none, .pur (.ixa 1) [.tmp 11, .tmp 12]⟩, ⟨some 14, none, .ld none (.tmp 13)⟩, ⟨some 15, none, .pur (.bin .gtr) [.tmp 14, .const (.int .i64 0)]⟩]) [15])
  (.cond (.tmp 15) (.seq (.reg (straight [⟨some 16, none, .pur .mov [.tmp 3]⟩, ⟨some 17, none, .pur .mov [.tmp 2]⟩, ⟨some 18, none, .pur (.ixa 1) [.tmp 16, .tmp 17]⟩, ⟨some 19, none, .ld none (.tmp 18)⟩, ⟨some 8, none, .pur .mov [.tmp 19]⟩]) [8])
  (.ret)) (.skip)))
  (.seq (.reg (straight [⟨some 9, none, .pur .mov [.const (.int .i64 0)]⟩]) [9])
  (.seq (.seq (.reg (straight [⟨some 10, none, .pur .mov [.const (.int .i64 0)]⟩]) [10])
  (.block 0 (.loop S_forebayref41_path_L1)))
  (.seq (.reg (straight [⟨some 42, none, .pur .mov [.tmp 3]⟩, ⟨some 43, none, .pur .mov [.tmp 2]⟩, ⟨some 44, none, .pur .mov [.tmp 9]⟩, ⟨some 45, none, .pur .mov [.tmp 1]⟩, ⟨some 46, none, .pur .mov [.tmp 2]⟩, ⟨some 47, none, .pur (.ixa 1) [.tmp 45, .tmp 46]⟩, ⟨some 48, none, .ld none (.tmp 47)⟩, ⟨some 49, none, .pur (.bin .add) [.tmp 44, .tmp 48]⟩, ⟨some 50, none, .pur (.ixa 1) [.tmp 42, .tmp 43]⟩, ⟨none, none, .eff (.st 1) [.tmp 50, .tmp 49]⟩]) [])
  (.seq (.reg (straight [⟨some 51, none, .pur .mov [.tmp 3]⟩, ⟨some 52, none, .pur .mov [.tmp 2]⟩, ⟨some 53, none, .pur (.ixa 1) [.tmp 51, .tmp 52]⟩, ⟨some 54, none, .ld none (.tmp 53)⟩, ⟨some 8, none, .pur .mov [.tmp 54]⟩]) [8])
  (.ret))))))⟩
theorem K_forebayref41_path : compF Try.prog 100 = some S_forebayref41_path := by kernel_rfl

-- 104
def S_strand_fits : Fun := ⟨92, [4, 1, 3, 6, 7, 0, 23, 46, 52, 69], [.tmp 4],
  .seq (.reg (straight [⟨some 3, none, .eff (.box 158) [.tmp 1]⟩, ⟨some 4, none, .pur .mov [.const (.bool false)]⟩]) [3, 4])
  (.seq (.seq (.reg (straight [⟨some 5, none, .pur (.fla 0) [.tmp 3]⟩, ⟨some 6, none, .ld none (.tmp 5)⟩]) [6])
  (.block 0 (.seq (.reg (straight [⟨some 8, none, .pur (.bin .eql) [.tmp 6, .const (.int .i64 9)]⟩, ⟨some 7, none, .pur .mov [.tmp 8]⟩]) [7])
  (.cond (.tmp 7) (.seq (.reg (straight [⟨some 9, none, .pur .mov [.tmp 0]⟩, ⟨some 10, none, .pur .nilc [.tmp 9]⟩, ⟨some 11, none, .pur (.fla 0) [.tmp 10]⟩, ⟨some 12, none, .ld none (.tmp 11)⟩, ⟨some 13, none, .pur (.bin .eql) [.tmp 12, .const (.int .i64 3)]⟩, ⟨some 14, none, .pur .mov [.tmp 13]⟩, ⟨some 15, some (14, true), .pur (.fla 1) [.tmp 3]⟩, ⟨some 16, some (14, true), .ld none (.tmp 15)⟩, ⟨some 17, some (14, true), .pur .mov [.tmp 0]⟩, ⟨some 18, some (14, true), .pur .nilc [.tmp 17]⟩, ⟨some 19, some (14, true), .pur (.fla 9) [.tmp 18]⟩, ⟨some 20, some (14, true), .ld none (.tmp 19)⟩, ⟨some 21, some (14, true), .pur (.bin .eql) [.tmp 16, .tmp 20]⟩, ⟨some 22, none, .pur .pick [.tmp 14, .tmp 21, .const (.bool false)]⟩, ⟨some 4, none, .pur .mov [.tmp 22]⟩]) [4])
  (.ret)) (.seq (.reg (straight [⟨some 24, none, .pur (.bin .eql) [.tmp 6, .const (.int .i64 8)]⟩, ⟨some 23, none, .pur .mov [.tmp 24]⟩]) [23])
  (.cond (.tmp 23) (.seq (.reg (straight [⟨some 25, none, .pur .mov [.tmp 0]⟩, ⟨some 26, none, .pur .nilc [.tmp 25]⟩, ⟨some 27, none, .pur (.fla 0) [.tmp 26]⟩, ⟨some 28, none, .ld none (.tmp 27)⟩, ⟨some 29, none, .pur (.bin .eql) [.tmp 28, .const (.int .i64 3)]⟩, ⟨some 30, none, .pur .mov [.tmp 29]⟩, ⟨some 31, some (30, true), .pur (.fla 1) [.tmp 3]⟩, ⟨some 32, some (30, true), .ld none (.tmp 31)⟩, ⟨some 33, some (30, true), .pur .mov [.tmp 0]⟩, ⟨some 34, some (30, true), .pur .nilc [.tmp 33]⟩, ⟨some 35, some (30, true), .pur (.fla 8) [.tmp 34]⟩, ⟨some 36, some (30, true), .ld none (.tmp 35)⟩, ⟨some 37, some (30, true), .pur (.bin .eql) [.tmp 32, .tmp 36]⟩, ⟨some 38, none, .pur .pick [.tmp 30, .tmp 37, .const (.bool false)]⟩, ⟨some 39, none, .pur .mov [.tmp 38]⟩, ⟨some 40, some (39, true), .pur .mov [.tmp 0]⟩, ⟨some 41, some (39, true), .pur .nilc [.tmp 40]⟩, ⟨some 42, some (39, true), .pur (.fla 9) [.tmp 41]⟩, ⟨some 43, some (39, true), .ld none (.tmp 42)⟩, ⟨some 44, some (39, true), .pur (.bin .gtr) [.tmp 43, .const (.int .i64 0)]⟩, ⟨some 45, none, .pur .pick [.tmp 39, .tmp 44, .const (.bool false)]⟩, ⟨some 4, none, .pur .mov [.tmp 45]⟩]) [4])
  (.ret)) (.seq (.reg (straight [⟨some 47, none, .pur (.bin .eql) [.tmp 6, .const (.int .i64 5)]⟩, ⟨some 46, none, .pur .mov [.tmp 47]⟩]) [46])
  (.cond (.tmp 46) (.seq (.reg (straight [⟨some 48, none, .pur .mov [.tmp 0]⟩, ⟨some 49, none, .pur .nilc [.tmp 48]⟩, ⟨some 50, none, .pur (.fla 1) [.tmp 49]⟩, ⟨some 51, none, .ld none (.tmp 50)⟩, ⟨some 4, none, .pur .mov [.tmp 51]⟩]) [4])
  (.ret)) (.seq (.reg (straight [⟨some 53, none, .pur (.bin .eql) [.tmp 6, .const (.int .i64 10)]⟩, ⟨some 52, none, .pur .mov [.tmp 53]⟩]) [52])
  (.cond (.tmp 52) (.seq (.reg (straight [⟨some 54, none, .pur .mov [.tmp 0]⟩, ⟨some 55, none, .pur .nilc [.tmp 54]⟩, ⟨some 56, none, .pur (.fla 0) [.tmp 55]⟩, ⟨some 57, none, .ld none (.tmp 56)⟩, ⟨some 58, none, .pur (.bin .eql) [.tmp 57, .const (.int .i64 2)]⟩, ⟨some 59, none, .pur .mov [.tmp 58]⟩, ⟨some 60, some (59, true), .pur (.fla 1) [.tmp 3]⟩, ⟨some 61, some (59, true), .ld none (.tmp 60)⟩, ⟨some 62, some (59, true), .pur .mov [.tmp 0]⟩, ⟨some 63, some (59, true), .pur .nilc [.tmp 62]⟩, ⟨some 64, some (59, true), .pur (.fla 4) [.tmp 63]⟩, ⟨some 65, some (59, true), .pur (.fla 1) [.tmp 64]⟩, ⟨some 66, some (59, true), .ld none (.tmp 65)⟩, ⟨some 67, some (59, true), .pur (.bin .eql) [.tmp 61, .tmp 66]⟩, ⟨some 68, none, .pur .pick [.tmp 59, .tmp 67, .const (.bool false)]⟩, ⟨some 4, none, .pur .mov [.tmp 68]⟩]) [4])
  (.ret)) (.seq (.seq (.reg (straight [⟨some 70, none, .pur (.bin .eql) [.tmp 6, .const (.int .i64 11)]⟩, ⟨some 69, none, .pur .mov [.tmp 70]⟩]) [69])
  (.cond (.tmp 69) (.skip) (.reg (straight [⟨some 71, none, .pur (.bin .eql) [.tmp 6, .const (.int .i64 12)]⟩, ⟨some 69, none, .pur .mov [.tmp 71]⟩]) [69])))
  (.cond (.tmp 69) (.seq (.reg (straight [⟨some 72, none, .pur .mov [.tmp 0]⟩, ⟨some 73, none, .pur .nilc [.tmp 72]⟩, ⟨some 74, none, .pur (.fla 0) [.tmp 73]⟩, ⟨some 75, none, .ld none (.tmp 74)⟩, ⟨some 76, none, .pur (.bin .eql) [.tmp 75, .const (.int .i64 2)]⟩, ⟨some 77, none, .pur .mov [.tmp 76]⟩, ⟨some 78, some (77, true), .pur (.fla 1) [.tmp 3]⟩, ⟨some 79, some (77, true), .ld none (.tmp 78)⟩, ⟨some 80, some (77, true), .pur .mov [.tmp 0]⟩, ⟨some 81, some (77, true), .pur .nilc [.tmp 80]⟩, ⟨some 82, some (77, true), .pur (.fla 4) [.tmp 81]⟩, ⟨some 83, some (77, true), .pur (.fla 2) [.tmp 82]⟩, ⟨some 84, some (77, true), .ld none (.tmp 83)⟩, ⟨some 85, some (77, true), .pur (.bin .gtr) [.tmp 79, .tmp 84]⟩, ⟨some 86, none, .pur .pick [.tmp 77, .tmp 85, .const (.bool false)]⟩, ⟨some 4, none, .pur .mov [.tmp 86]⟩]) [4])
  (.ret)) (.skip)))))))))))))
  (.seq (.reg (straight [⟨some 87, none, .pur .mov [.tmp 0]⟩, ⟨some 88, none, .pur .nilc [.tmp 87]⟩, ⟨some 89, none, .pur (.fla 0) [.tmp 88]⟩, ⟨some 90, none, .ld none (.tmp 89)⟩, ⟨some 91, none, .pur (.bin .neq) [.tmp 90, .const (.int .i64 3)]⟩, ⟨some 4, none, .pur .mov [.tmp 91]⟩]) [4])
  (.ret)))⟩
theorem K_strand_fits : compF Try.prog 104 = some S_strand_fits := by kernel_rfl

-- 117
def S_strand_builder_iterate : Fun := ⟨55, [1, 14, 0, 5, 4], [],
  .seq (.reg (straight [⟨some 6, none, .pur .mov [.tmp 1]⟩, ⟨some 7, none, .pur .nilc [.tmp 6]⟩, ⟨some 8, none, .pur (.fla 2) [.tmp 7]⟩, ⟨some 9, none, .ld none (.tmp 8)⟩, ⟨some 4, none, .pur .mov [.tmp 9]⟩]) [4])
  (.seq (.seq (.reg (straight [⟨some 10, none, .pur .mov [.tmp 1]⟩, ⟨some 11, none, .pur .nilc [.tmp 10]⟩, ⟨some 12, none, .pur (.fla 9) [.tmp 11]⟩, ⟨some 13, none, .ld none (.tmp 12)⟩, ⟨some 14, none, .pur (.bin .gtr) [.tmp 13, .const (.int .i64 0)]⟩]) [14])
  (.cond (.tmp 14) (.reg (straight [⟨some 15, none, .pur .mov [.tmp 1]⟩, ⟨some 16, none, .pur .nilc [.tmp 15]⟩, ⟨some 17, none, .pur (.fla 10) [.tmp 16]⟩, ⟨some 18, none, .ld none (.tmp 17)⟩, ⟨some 19, none, .pur (.ixa 2) [.tmp 18, .const (.int .i64 0)]⟩, ⟨some 20, none, .pur (.fla 1) [.tmp 19]⟩, ⟨some 21, none, .ld none (.tmp 20)⟩, ⟨some 4, none, .pur .mov [.tmp 21]⟩]) [4]) (.skip)))
  (.seq (.reg (.run ⟨some 22, none, .pur .mov [.tmp 1]⟩ (.run ⟨some 23, none, .pur .nilc [.tmp 22]⟩ (.run ⟨some 24, none, .pur (.fla 8) [.tmp 23]⟩ (.run ⟨some 25, none, .ld none (.tmp 24)⟩ (.run ⟨some 26, none, .pur .mov [.tmp 1]⟩ (.run ⟨some 27, none, .pur .nilc [.tmp 26]⟩ (.run ⟨some 28, none, .pur (.fla 9) [.tmp 27]⟩ (.run ⟨some 29, none, .ld none (.tmp 28)⟩ (.run ⟨some 30, none, .pur (.bld [.int .i64 0, .int .i64 0, .int .i64 0] [(0, 1), (1, 1), (2, 1)]) [.tmp 25, .tmp 29, .const (.int .i64 0)]⟩ (.eff ⟨some 5, none, .eff (.new 166 [.int .i64 0, .int .i64 0, .int .i64 0]) []⟩ [⟨some 29, none, .ld none (.tmp 28)⟩, ⟨some 25, none, .ld none (.tmp 24)⟩] (.eff ⟨none, none, .eff (.st 3) [.tmp 5, .tmp 30]⟩ [] .done))))))))))) [5])
  (.seq (.reg (straight [⟨some 31, none, .pur .mov [.tmp 1]⟩, ⟨some 32, none, .pur .nilc [.tmp 31]⟩, ⟨some 33, none, .pur (.fla 9) [.tmp 32]⟩, ⟨some 34, none, .ld none (.tmp 33)⟩, ⟨some 35, none, .pur (.bin .add) [.tmp 34, .const (.int .i64 1)]⟩, ⟨some 36, none, .pur .nilc [.tmp 31]⟩, ⟨some 37, none, .pur (.fla 9) [.tmp 36]⟩, ⟨none, none, .eff (.st 1) [.tmp 37, .tmp 35]⟩]) [])
  (.reg (.run ⟨some 38, none, .pur .mov [.tmp 0]⟩ (.run ⟨some 39, none, .pur .mov [.tmp 0]⟩ (.run ⟨some 40, none, .pur .nilc [.tmp 39]⟩ (.run ⟨some 41, none, .pur (.fla 3) [.tmp 40]⟩ (.run ⟨some 42, none, .ld none (.tmp 41)⟩ (.run ⟨some 43, none, .ld (some 3) (.tmp 5)⟩ (.run ⟨some 44, none, .pur .mov [.tmp 0]⟩ (.run ⟨some 45, none, .ld (some 3) (.tmp 5)⟩ (.run ⟨some 46, none, .pur .mov [.tmp 4]⟩ (.eff ⟨some 47, none, .eff (.bsl 3 1) [.tmp 46]⟩ [⟨some 45, none, .ld (some 3) (.tmp 5)⟩, ⟨some 43, none, .ld (some 3) (.tmp 5)⟩, ⟨some 42, none, .ld none (.tmp 41)⟩] (.eff ⟨some 48, none, .eff (.call 102) [.tmp 44, .tmp 45, .tmp 47]⟩ [⟨some 43, none, .ld (some 3) (.tmp 5)⟩, ⟨some 42, none, .ld none (.tmp 41)⟩] (.run ⟨some 49, none, .pur (.bld [.int .i64 0, .bool false, .int .i64 0, .slice none 0 0, .int .i64 0, .int .i64 0, .int .i64 0, .slice none 0 0, .int .i64 0, .int .i64 0, .slice none 0 0, .slice none 0 0] [(0, 1), (4, 3), (2, 1)]) [.const (.int .i64 2), .tmp 43, .tmp 48]⟩ (.eff ⟨some 50, none, .eff (.box 169) [.tmp 49]⟩ [⟨some 42, none, .ld none (.tmp 41)⟩] (.eff ⟨some 51, none, .eff (.bsl 163 1) [.tmp 50]⟩ [⟨some 42, none, .ld none (.tmp 41)⟩] (.eff ⟨some 52, none, .eff (.app 163 1 8 [.pointer none]) [.tmp 42, .tmp 51]⟩ [] (.run ⟨some 53, none, .pur .nilc [.tmp 38]⟩ (.run ⟨some 54, none, .pur (.fla 3) [.tmp 53]⟩ (.eff ⟨none, none, .eff (.st 1) [.tmp 54, .tmp 52]⟩ [] .done)))))))))))))))))) []))))⟩
theorem K_strand_builder_iterate : compF Try.prog 117 = some S_strand_builder_iterate := by kernel_rfl

end Go.Proofs.Ytilofhocodbknaa
