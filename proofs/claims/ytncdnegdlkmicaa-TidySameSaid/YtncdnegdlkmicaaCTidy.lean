import Derived.Test.YtncdnegdlkmicaaKj
import Derived.Test.YtncdnegdlkmicaaProg
import Derived.KernelRfl
namespace Go.Proofs.Ytncdnegdlkmicaa
open Go Go.Kx Go.Proofs
set_option linter.unusedVariables false
set_option maxRecDepth 100000

-- 4
def S_forebaylaw42_TidySame_L1 : SCode :=
  .seq (.seq (.reg (straight [⟨some 91, none, .pur .mov [.tmp 17]⟩, ⟨some 92, none, .pur .mov [.tmp 15]⟩, ⟨some 93, none, .pur (.len false) [.tmp 92]⟩, ⟨some 94, none, .pur (.bin .lss) [.tmp 91, .tmp 93]⟩]) [94])
  (.cond (.tmp 94) (.skip) (.exit 0)))
  (.seq (.block 1 (.seq (.reg (straight [⟨some 97, none, .pur .mov [.tmp 15]⟩, ⟨some 98, none, .pur .mov [.tmp 17]⟩, ⟨some 99, none, .pur (.ixa 3) [.tmp 97, .tmp 98]⟩, ⟨some 100, none, .ld (some 3) (.tmp 99)⟩, ⟨some 101, none, .pur .mov [.tmp 16]⟩, ⟨some 102, none, .pur .mov [.tmp 17]⟩, ⟨some 103, none, .pur (.ixa 3) [.tmp 101, .tmp 102]⟩, ⟨some 104, none, .ld (some 3) (.tmp 103)⟩, ⟨some 105, none, .pur (.eqs true [.int .i64, .int .i64, .int .i64]) [.tmp 100, .tmp 104]⟩]) [105])
  (.cond (.tmp 105) (.seq (.reg (straight [⟨some 6, none, .pur .mov [.const (.bool false)]⟩]) [6])
  (.ret)) (.skip))))
  (.reg (straight [⟨some 95, none, .pur .mov [.tmp 17]⟩, ⟨some 96, none, .pur (.bin .add) [.tmp 95, .const (.int .i64 1)]⟩, ⟨some 17, none, .pur .mov [.tmp 96]⟩]) [17]))
def S_forebaylaw42_TidySame : Fun := ⟨153, [6, 0, 19, 3, 1, 26, 2, 7, 10, 12, 11, 57, 8, 14, 15, 16, 90, 17, 94, 105, 13], [.tmp 6],
  .seq (.reg (straight [⟨some 3, none, .eff (.box 24) [.tmp 0]⟩, ⟨some 6, none, .pur .mov [.const (.bool false)]⟩]) [3, 6])
  (.seq (.seq (.reg (straight [⟨some 18, none, .eff (.call 15) []⟩, ⟨some 19, none, .pur .not [.tmp 18]⟩]) [19])
  (.cond (.tmp 19) (.seq (.reg (straight [⟨some 6, none, .pur .mov [.const (.bool false)]⟩]) [6])
  (.ret)) (.skip)))
  (.seq (.seq (.reg (straight [⟨some 20, none, .ld (some 2) (.tmp 3)⟩, ⟨some 21, none, .eff (.call 10) [.tmp 20]⟩, ⟨some 22, none, .pur .mov [.tmp 21]⟩, ⟨some 23, some (22, false), .pur .mov [.tmp 1]⟩, ⟨some 24, some (22, false), .pur (.len false) [.tmp 23]⟩, ⟨some 25, some (22, false), .pur (.bin .gtr) [.tmp 24, .const (.int .i64 1000)]⟩, ⟨some 26, none, .pur .pick [.tmp 22, .const (.bool true), .tmp 25]⟩]) [26])
  (.cond (.tmp 26) (.seq (.reg (straight [⟨some 6, none, .pur .mov [.const (.bool true)]⟩]) [6])
  (.ret)) (.skip)))
  (.seq (.reg (straight [⟨some 27, none, .pur .mov [.tmp 2]⟩, ⟨some 28, none, .pur (.toInt .i64) [.tmp 27]⟩, ⟨some 29, none, .pur (.bin .rem) [.tmp 28, .const (.int .i64 3000)]⟩, ⟨some 7, none, .pur .mov [.tmp 29]⟩]) [7])
  (.seq (.reg (straight [⟨some 31, none, .ld (some 2) (.tmp 3)⟩, ⟨some 32, none, .eff (.call 12) [.tmp 31]⟩, ⟨some 33, none, .eff (.call 16) [.tmp 32]⟩, ⟨some 30, none, .pur .mov [.tmp 33]⟩, ⟨some 34, none, .pur (.ext 0) [.tmp 30]⟩, ⟨some 35, none, .pur (.ext 1) [.tmp 30]⟩, ⟨some 36, none, .pur (.ext 2) [.tmp 30]⟩, ⟨some 8, none, .eff (.new 24 [.int .i64 0, .slice none 0 0]) []⟩, ⟨none, none, .eff (.st 2) [.tmp 8, .tmp 34]⟩, ⟨some 9, none, .pur .mov [.tmp 35]⟩, ⟨some 10, none, .pur .mov [.tmp 36]⟩]) [8, 10])
  (.seq (.reg (straight [⟨some 38, none, .ld (some 2) (.tmp 3)⟩, ⟨some 39, none, .eff (.call 12) [.tmp 38]⟩, ⟨some 40, none, .eff (.bsl 3 1) []⟩, ⟨some 41, none, .pur .mov [.tmp 1]⟩, ⟨some 42, none, .eff (.app 3 1 8 [.int .i64 0]) [.tmp 40, .tmp 41]⟩, ⟨some 43, none, .pur .mov [.tmp 7]⟩, ⟨some 44, none, .eff (.call 11) [.tmp 39, .tmp 42, .tmp 43]⟩, ⟨some 37, none, .pur .mov [.tmp 44]⟩, ⟨some 45, none, .pur (.ext 0) [.tmp 37]⟩, ⟨some 46, none, .pur (.ext 1) [.tmp 37]⟩, ⟨some 11, none, .eff (.new 30 [.int .i64 0, .int .i64 0, .slice none 0 0, .slice none 0 0, .int .i64 0, .int .i64 0, .int .i64 0]) []⟩, ⟨none, none, .eff (.st 7) [.tmp 11, .tmp 45]⟩, ⟨some 12, none, .pur .mov [.tmp 46]⟩]) [11, 12])
  (.seq (.seq (.reg (straight [⟨some 47, none, .pur .mov [.tmp 10]⟩, ⟨some 48, none, .pur (.bin .neq) [.tmp 47, .const (.int .i64 0)]⟩, ⟨some 49, none, .pur .mov [.tmp 48]⟩, ⟨some 50, some (49, false), .pur .mov [.tmp 12]⟩, ⟨some 51, some (49, false), .pur (.bin .neq) [.tmp 50, .const (.int .i64 0)]⟩, ⟨some 52, none, .pur .pick [.tmp 49, .const (.bool true), .tmp 51]⟩, ⟨some 53, none, .pur .mov [.tmp 52]⟩, ⟨some 54, some (53, false), .pur (.fla 0) [.tmp 11]⟩, ⟨some 55, some (53, false), .ld none (.tmp 54)⟩, ⟨some 56, some (53, false), .pur (.bin .eql) [.tmp 55, .const (.int .i64 6)]⟩, ⟨some 57, none, .pur .pick [.tmp 53, .const (.bool true), .tmp 56]⟩]) [57])
  (.cond (.tmp 57) (.seq (.reg (straight [⟨some 6, none, .pur .mov [.const (.bool true)]⟩]) [6])
  (.ret)) (.skip)))
  (.seq (.reg (straight [⟨some 59, none, .ld (some 2) (.tmp 8)⟩, ⟨some 60, none, .eff (.call 12) [.tmp 59]⟩, ⟨some 61, none, .eff (.bsl 3 1) []⟩, ⟨some 62, none, .pur .mov [.tmp 1]⟩, ⟨some 63, none, .eff (.app 3 1 8 [.int .i64 0]) [.tmp 61, .tmp 62]⟩, ⟨some 64, none, .pur .mov [.tmp 7]⟩, ⟨some 65, none, .eff (.call 11) [.tmp 60, .tmp 63, .tmp 64]⟩, ⟨some 58, none, .pur .mov [.tmp 65]⟩, ⟨some 66, none, .pur (.ext 0) [.tmp 58]⟩, ⟨some 67, none, .pur (.ext 1) [.tmp 58]⟩, ⟨some 13, none, .eff (.new 30 [.int .i64 0, .int .i64 0, .slice none 0 0, .slice none 0 0, .int .i64 0, .int .i64 0, .int .i64 0]) []⟩, ⟨none, none, .eff (.st 7) [.tmp 13, .tmp 66]⟩, ⟨some 14, none, .pur .mov [.tmp 67]⟩]) [13, 14])
  (.seq (.reg (straight [⟨some 68, none, .ld (some 2) (.tmp 3)⟩, ⟨some 69, none, .eff (.call 12) [.tmp 68]⟩, ⟨some 70, none, .eff (.bsl 3 1) []⟩, ⟨some 71, none, .pur .mov [.tmp 1]⟩, ⟨some 72, none, .eff (.app 3 1 8 [.int .i64 0]) [.tmp 70, .tmp 71]⟩, ⟨some 73, none, .pur .mov [.tmp 7]⟩, ⟨some 74, none, .eff (.call 13) [.tmp 69, .tmp 72, .tmp 73]⟩, ⟨some 15, none, .pur .mov [.tmp 74]⟩]) [15])
  (.seq (.reg (straight [⟨some 75, none, .ld (some 2) (.tmp 8)⟩, ⟨some 76, none, .eff (.call 12) [.tmp 75]⟩, ⟨some 77, none, .eff (.bsl 3 1) []⟩, ⟨some 78, none, .pur .mov [.tmp 1]⟩, ⟨some 79, none, .eff (.app 3 1 8 [.int .i64 0]) [.tmp 77, .tmp 78]⟩, ⟨some 80, none, .pur .mov [.tmp 7]⟩, ⟨some 81, none, .eff (.call 13) [.tmp 76, .tmp 79, .tmp 80]⟩, ⟨some 16, none, .pur .mov [.tmp 81]⟩]) [16])
  (.seq (.seq (.reg (straight [⟨some 82, none, .pur .mov [.tmp 14]⟩, ⟨some 83, none, .pur (.bin .neq) [.tmp 82, .const (.int .i64 0)]⟩, ⟨some 84, none, .pur .mov [.tmp 83]⟩, ⟨some 85, some (84, false), .pur .mov [.tmp 15]⟩, ⟨some 86, some (84, false), .pur (.len false) [.tmp 85]⟩, ⟨some 87, some (84, false), .pur .mov [.tmp 16]⟩, ⟨some 88, some (84, false), .pur (.len false) [.tmp 87]⟩, ⟨some 89, some (84, false), .pur (.bin .neq) [.tmp 86, .tmp 88]⟩, ⟨some 90, none, .pur .pick [.tmp 84, .const (.bool true), .tmp 89]⟩]) [90])
  (.cond (.tmp 90) (.seq (.reg (straight [⟨some 6, none, .pur .mov [.const (.bool false)]⟩]) [6])
  (.ret)) (.skip)))
  (.seq (.seq (.reg (straight [⟨some 17, none, .pur .mov [.const (.int .i64 0)]⟩]) [17])
  (.block 0 (.loop S_forebaylaw42_TidySame_L1)))
  (.seq (.reg (straight [⟨some 106, none, .pur (.fla 0) [.tmp 11]⟩, ⟨some 107, none, .ld none (.tmp 106)⟩, ⟨some 108, none, .pur (.fla 0) [.tmp 13]⟩, ⟨some 109, none, .ld none (.tmp 108)⟩, ⟨some 110, none, .pur (.bin .eql) [.tmp 107, .tmp 109]⟩, ⟨some 111, none, .pur .mov [.tmp 110]⟩, ⟨some 112, some (111, true), .pur (.fla 1) [.tmp 11]⟩, ⟨some 113, some (111, true), .ld none (.tmp 112)⟩, ⟨some 114, some (111, true), .pur (.fla 1) [.tmp 13]⟩, ⟨some 115, some (111, true), .ld none (.tmp 114)⟩, ⟨some 116, some (111, true), .pur (.bin .eql) [.tmp 113, .tmp 115]⟩, ⟨some 117, none, .pur .pick [.tmp 111, .tmp 116, .const (.bool false)]⟩, ⟨some 118, none, .pur .mov [.tmp 117]⟩, ⟨some 119, some (118, true), .pur (.fla 2) [.tmp 11]⟩, ⟨some 120, some (118, true), .ld none (.tmp 119)⟩, ⟨some 121, some (118, true), .pur (.fla 2) [.tmp 13]⟩, ⟨some 122, some (118, true), .ld none (.tmp 121)⟩, ⟨some 123, some (118, true), .eff (.call 14) [.tmp 120, .tmp 122]⟩, ⟨some 124, none, .pur .pick [.tmp 118, .tmp 123, .const (.bool false)]⟩, ⟨some 125, none, .pur .mov [.tmp 124]⟩, ⟨some 126, some (125, true), .pur (.fla 3) [.tmp 11]⟩, ⟨some 127, some (125, true), .ld none (.tmp 126)⟩, ⟨some 128, some (125, true), .pur (.fla 3) [.tmp 13]⟩, ⟨some 129, some (125, true), .ld none (.tmp 128)⟩, ⟨some 130, some (125, true), .eff (.call 14) [.tmp 127, .tmp 129]⟩, ⟨some 131, none, .pur .pick [.tmp 125, .tmp 130, .const (.bool false)]⟩, ⟨some 132, none, .pur .mov [.tmp 131]⟩, ⟨some 133, some (132, true), .pur (.fla 5) [.tmp 11]⟩, ⟨some 134, some (132, true), .ld none (.tmp 133)⟩, ⟨some 135, some (132, true), .pur (.fla 5) [.tmp 13]⟩, ⟨some 136, some (132, true), .ld none (.tmp 135)⟩, ⟨some 137, some (132, true), .pur (.bin .eql) [.tmp 134, .tmp 136]⟩, ⟨some 138, none, .pur .pick [.tmp 132, .tmp 137, .const (.bool false)]⟩, ⟨some 139, none, .pur .mov [.tmp 138]⟩, ⟨some 140, some (139, true), .pur (.fla 6) [.tmp 11]⟩, ⟨some 141, some (139, true), .ld none (.tmp 140)⟩, ⟨some 142, some (139, true), .pur (.fla 6) [.tmp 13]⟩, ⟨some 143, some (139, true), .ld none (.tmp 142)⟩, ⟨some 144, some (139, true), .pur (.bin .eql) [.tmp 141, .tmp 143]⟩, ⟨some 145, none, .pur .pick [.tmp 139, .tmp 144, .const (.bool false)]⟩, ⟨some 146, none, .pur .mov [.tmp 145]⟩, ⟨some 147, some (146, true), .pur (.fla 4) [.tmp 13]⟩, ⟨some 148, some (146, true), .ld none (.tmp 147)⟩, ⟨some 149, some (146, true), .pur (.fla 4) [.tmp 11]⟩, ⟨some 150, some (146, true), .ld none (.tmp 149)⟩, ⟨some 151, some (146, true), .pur (.bin .leq) [.tmp 148, .tmp 150]⟩, ⟨some 152, none, .pur .pick [.tmp 146, .tmp 151, .const (.bool false)]⟩, ⟨some 6, none, .pur .mov [.tmp 152]⟩]) [6])
  (.ret)))))))))))))⟩
theorem K_forebaylaw42_TidySame : compF Try.prog 4 = some S_forebaylaw42_TidySame := by kernel_rfl

-- 15
def S_forebaylaw42_works : Fun := ⟨63, [0, 1, 4, 3, 2, 6, 5], [.tmp 0],
  .seq (.reg (straight [⟨some 0, none, .pur .mov [.const (.bool false)]⟩]) [0])
  (.seq (.reg (straight [⟨some 7, none, .pur (.bld [.int .i64 0, .int .i64 0, .int .i64 0, .int .i64 0] [(0, 1), (1, 1)]) [.const (.int .i64 18), .const (.int .i64 2)]⟩, ⟨some 8, none, .pur (.bld [.int .i64 0, .int .i64 0, .int .i64 0, .int .i64 0] [(0, 1), (1, 1)]) [.const (.int .i64 17), .const (.int .i64 1)]⟩, ⟨some 9, none, .pur (.bld [.int .i64 0, .int .i64 0, .int .i64 0, .int .i64 0] [(0, 1), (1, 1)]) [.const (.int .i64 18), .const (.int .i64 3)]⟩, ⟨some 10, none, .pur (.bld [.int .i64 0, .int .i64 0, .int .i64 0, .int .i64 0] [(0, 1)]) [.const (.int .i64 0)]⟩, ⟨some 11, none, .eff (.bsl 78 4) [.tmp 7, .tmp 8, .tmp 9, .tmp 10]⟩, ⟨some 1, none, .pur .mov [.tmp 11]⟩]) [1])
  (.seq (.reg (straight [⟨some 13, none, .pur .mov [.tmp 1]⟩, ⟨some 14, none, .eff (.bsl 79 1) [.tmp 13]⟩, ⟨some 15, none, .pur (.bld [.int .i64 0, .slice none 0 0] [(1, 1)]) [.tmp 14]⟩, ⟨some 16, none, .eff (.call 16) [.tmp 15]⟩, ⟨some 12, none, .pur .mov [.tmp 16]⟩, ⟨some 17, none, .pur (.ext 0) [.tmp 12]⟩, ⟨some 18, none, .pur (.ext 1) [.tmp 12]⟩, ⟨some 19, none, .pur (.ext 2) [.tmp 12]⟩, ⟨some 2, none, .eff (.new 24 [.int .i64 0, .slice none 0 0]) []⟩, ⟨none, none, .eff (.st 2) [.tmp 2, .tmp 17]⟩, ⟨some 3, none, .pur .mov [.tmp 18]⟩, ⟨some 4, none, .pur .mov [.tmp 19]⟩]) [2, 3, 4])
  (.seq (.reg (straight [⟨some 21, none, .pur .mov [.tmp 1]⟩, ⟨some 22, none, .eff (.call 29) [.tmp 21]⟩, ⟨some 20, none, .pur .mov [.tmp 22]⟩, ⟨some 23, none, .pur (.ext 0) [.tmp 20]⟩, ⟨some 24, none, .pur (.ext 1) [.tmp 20]⟩, ⟨some 5, none, .pur .mov [.tmp 23]⟩, ⟨some 6, none, .pur .mov [.tmp 24]⟩]) [5, 6])
  (.seq (.reg (straight [⟨some 25, none, .pur .mov [.tmp 4]⟩, ⟨some 26, none, .pur (.bin .eql) [.tmp 25, .const (.int .i64 0)]⟩, ⟨some 27, none, .pur .mov [.tmp 26]⟩, ⟨some 28, some (27, true), .pur .mov [.tmp 3]⟩, ⟨some 29, some (27, true), .pur (.bin .eql) [.tmp 28, .const (.int .i64 3)]⟩, ⟨some 30, none, .pur .pick [.tmp 27, .tmp 29, .const (.bool false)]⟩, ⟨some 31, none, .pur .mov [.tmp 30]⟩, ⟨some 32, some (31, true), .ld (some 2) (.tmp 2)⟩, ⟨some 33, some (31, true), .pur (.bld [.int .i64 0, .int .i64 0, .int .i64 0, .int .i64 0] [(0, 1)]) [.const (.int .i64 0)]⟩, ⟨some 34, some (31, true), .eff (.bsl 78 4) [.tmp 33]⟩, ⟨some 35, some (31, true), .eff (.bsl 79 1) [.tmp 34]⟩, ⟨some 36, some (31, true), .pur (.bld [.int .i64 0, .slice none 0 0] [(1, 1)]) [.tmp 35]⟩, ⟨some 37, some (31, true), .eff (.call 30) [.tmp 32, .tmp 36]⟩, ⟨some 38, none, .pur .pick [.tmp 31, .tmp 37, .const (.bool false)]⟩, ⟨some 39, none, .pur .mov [.tmp 38]⟩, ⟨some 40, some (39, true), .pur .mov [.tmp 6]⟩, ⟨some 41, some (39, true), .pur (.bin .eql) [.tmp 40, .const (.int .i64 0)]⟩, ⟨some 42, none, .pur .pick [.tmp 39, .tmp 41, .const (.bool false)]⟩, ⟨some 43, none, .pur .mov [.tmp 42]⟩, ⟨some 44, some (43, true), .pur .mov [.tmp 5]⟩, ⟨some 45, some (43, true), .pur (.len false) [.tmp 44]⟩, ⟨some 46, some (43, true), .pur (.bin .eql) [.tmp 45, .const (.int .i64 4)]⟩, ⟨some 47, none, .pur .pick [.tmp 43, .tmp 46, .const (.bool false)]⟩, ⟨some 48, none, .pur .mov [.tmp 47]⟩, ⟨some 49, some (48, true), .pur .mov [.tmp 5]⟩, ⟨some 50, some (48, true), .pur (.ixa 1) [.tmp 49, .const (.int .i64 1)]⟩, ⟨some 51, some (48, true), .ld none (.tmp 50)⟩, ⟨some 52, some (48, true), .pur .not [.tmp 51]⟩, ⟨some 53, none, .pur .pick [.tmp 48, .tmp 52, .const (.bool false)]⟩, ⟨some 54, none, .pur .mov [.tmp 53]⟩, ⟨some 55, some (54, true), .pur .mov [.tmp 1]⟩, ⟨some 56, some (54, true), .eff (.call 31) [.tmp 55, .const (.int .i64 2)]⟩, ⟨some 57, none, .pur .pick [.tmp 54, .tmp 56, .const (.bool false)]⟩, ⟨some 58, none, .pur .mov [.tmp 57]⟩, ⟨some 59, some (58, true), .pur .mov [.tmp 1]⟩, ⟨some 60, some (58, true), .eff (.call 31) [.tmp 59, .const (.int .i64 0)]⟩, ⟨some 61, some (58, true), .pur .not [.tmp 60]⟩, ⟨some 62, none, .pur .pick [.tmp 58, .tmp 61, .const (.bool false)]⟩, ⟨some 0, none, .pur .mov [.tmp 62]⟩]) [0])
  (.ret)))))⟩
theorem K_forebaylaw42_works : compF Try.prog 15 = some S_forebaylaw42_works := by kernel_rfl

-- 16
def S_tidy_Program_L2 : SCode :=
  .seq (.seq (.reg (straight [⟨some 32, none, .pur .mov [.tmp 10]⟩, ⟨some 33, none, .pur .mov [.tmp 11]⟩, ⟨some 34, none, .eff (.call 35) [.tmp 32, .tmp 33]⟩, ⟨some 35, none, .pur .not [.tmp 34]⟩]) [35])
  (.cond (.tmp 35) (.skip) (.exit 2)))
  (.seq (.block 3 (.reg (straight [⟨some 38, none, .pur .mov [.tmp 11]⟩, ⟨some 10, none, .pur .mov [.tmp 38]⟩]) [10]))
  (.reg (straight [⟨some 36, none, .pur .mov [.tmp 10]⟩, ⟨some 37, none, .eff (.call 34) [.tmp 36]⟩, ⟨some 11, none, .pur .mov [.tmp 37]⟩]) [11]))
def S_tidy_Program_L1 : SCode :=
  .seq (.reg (straight [⟨some 25, none, .pur (.bin .lss) [.tmp 24, .tmp 23]⟩]) [25])
  (.seq (.cond (.tmp 25) (.skip) (.exit 0))
  (.seq (.block 1 (.seq (.reg (straight [⟨some 26, none, .pur (.ixa 1) [.tmp 22, .tmp 24]⟩, ⟨some 27, none, .ld none (.tmp 26)⟩, ⟨some 9, none, .pur .mov [.tmp 27]⟩]) [9])
  (.seq (.reg (straight [⟨some 28, none, .pur .mov [.tmp 9]⟩, ⟨some 29, none, .eff (.call 33) [.tmp 28]⟩, ⟨some 10, none, .pur .mov [.tmp 29]⟩]) [10])
  (.seq (.seq (.reg (straight [⟨some 30, none, .pur .mov [.tmp 10]⟩, ⟨some 31, none, .eff (.call 34) [.tmp 30]⟩, ⟨some 11, none, .pur .mov [.tmp 31]⟩]) [11])
  (.block 2 (.loop S_tidy_Program_L2)))
  (.seq (.reg (straight [⟨some 39, none, .pur .mov [.tmp 7]⟩, ⟨some 40, none, .pur .mov [.tmp 9]⟩, ⟨some 41, none, .pur (.len false) [.tmp 40]⟩, ⟨some 42, none, .pur .mov [.tmp 10]⟩, ⟨some 43, none, .pur (.len false) [.tmp 42]⟩, ⟨some 44, none, .pur (.bin .sub) [.tmp 41, .tmp 43]⟩, ⟨some 45, none, .pur (.bin .add) [.tmp 39, .tmp 44]⟩, ⟨some 7, none, .pur .mov [.tmp 45]⟩]) [7])
  (.reg (straight [⟨some 46, none, .pur (.fla 1) [.tmp 6]⟩, ⟨some 47, none, .ld none (.tmp 46)⟩, ⟨some 48, none, .pur .mov [.tmp 10]⟩, ⟨some 49, none, .eff (.bsl 79 1) [.tmp 48]⟩, ⟨some 50, none, .eff (.app 79 1 24 [.slice none 0 0]) [.tmp 47, .tmp 49]⟩, ⟨some 51, none, .pur (.fla 1) [.tmp 6]⟩, ⟨none, none, .eff (.st 1) [.tmp 51, .tmp 50]⟩]) []))))))
  (.reg (straight [⟨some 52, none, .pur (.bin .add) [.tmp 24, .const (.int .i64 1)]⟩, ⟨some 24, none, .pur .mov [.tmp 52]⟩]) [24])))
def S_tidy_Program : Fun := ⟨55, [2, 3, 4, 0, 1, 5, 15, 24, 23, 25, 22, 9, 10, 11, 35, 7, 6], [.cell 2 (some 2), .tmp 3, .tmp 4],
  .seq (.reg (straight [⟨some 1, none, .eff (.box 24) [.tmp 0]⟩, ⟨some 2, none, .eff (.new 24 [.int .i64 0, .slice none 0 0]) []⟩, ⟨some 3, none, .pur .mov [.const (.int .i64 0)]⟩, ⟨some 4, none, .pur .mov [.const (.int .i64 0)]⟩]) [1, 2, 3, 4])
  (.seq (.seq (.reg (straight [⟨some 12, none, .ld (some 2) (.tmp 1)⟩, ⟨some 13, none, .eff (.call 32) [.tmp 12]⟩, ⟨some 5, none, .pur .mov [.tmp 13]⟩]) [5])
  (.seq (.reg (straight [⟨some 14, none, .pur .mov [.tmp 5]⟩, ⟨some 15, none, .pur (.bin .neq) [.tmp 14, .const (.int .i64 0)]⟩]) [15])
  (.cond (.tmp 15) (.seq (.reg (straight [⟨some 16, none, .pur (.bld [.int .i64 0, .slice none 0 0] []) []⟩, ⟨some 17, none, .pur .mov [.tmp 5]⟩, ⟨none, none, .eff (.st 2) [.tmp 2, .tmp 16]⟩, ⟨some 3, none, .pur .mov [.const (.int .i64 0)]⟩, ⟨some 4, none, .pur .mov [.tmp 17]⟩]) [3, 4])
  (.ret)) (.skip))))
  (.seq (.reg (straight [⟨some 18, none, .pur (.fla 0) [.tmp 1]⟩, ⟨some 19, none, .ld none (.tmp 18)⟩, ⟨some 20, none, .pur (.bld [.int .i64 0, .slice none 0 0] [(0, 1)]) [.tmp 19]⟩, ⟨some 6, none, .eff (.new 24 [.int .i64 0, .slice none 0 0]) []⟩, ⟨none, none, .eff (.st 2) [.tmp 6, .tmp 20]⟩, ⟨some 7, none, .pur .mov [.const (.int .i64 0)]⟩]) [6, 7])
  (.seq (.seq (.reg (straight [⟨some 21, none, .pur (.fla 1) [.tmp 1]⟩, ⟨some 22, none, .ld none (.tmp 21)⟩, ⟨some 23, none, .pur (.len false) [.tmp 22]⟩, ⟨some 24, none, .pur .mov [.const (.int .i64 0)]⟩]) [22, 23, 24])
  (.block 0 (.loop S_tidy_Program_L1)))
  (.seq (.reg (straight [⟨some 53, none, .ld (some 2) (.tmp 6)⟩, ⟨some 54, none, .pur .mov [.tmp 7]⟩, ⟨none, none, .eff (.st 2) [.tmp 2, .tmp 53]⟩, ⟨some 3, none, .pur .mov [.tmp 54]⟩, ⟨some 4, none, .pur .mov [.const (.int .i64 0)]⟩]) [3, 4])
  (.ret)))))⟩
theorem K_tidy_Program : compF Try.prog 16 = some S_tidy_Program := by kernel_rfl

-- 29
def S_tidy_Reached : Fun := ⟨12, [2, 3, 0, 4, 8], [.tmp 2, .tmp 3],
  .seq (.reg (straight [⟨some 2, none, .pur .mov [.const (.slice none 0 0)]⟩, ⟨some 3, none, .pur .mov [.const (.int .i64 0)]⟩]) [2, 3])
  (.seq (.seq (.reg (straight [⟨some 5, none, .pur .mov [.tmp 0]⟩, ⟨some 6, none, .eff (.call 57) [.tmp 5]⟩, ⟨some 4, none, .pur .mov [.tmp 6]⟩]) [4])
  (.seq (.reg (straight [⟨some 7, none, .pur .mov [.tmp 4]⟩, ⟨some 8, none, .pur (.bin .neq) [.tmp 7, .const (.int .i64 0)]⟩]) [8])
  (.cond (.tmp 8) (.seq (.reg (straight [⟨some 9, none, .pur .mov [.tmp 4]⟩, ⟨some 2, none, .pur .mov [.const (.slice none 0 0)]⟩, ⟨some 3, none, .pur .mov [.tmp 9]⟩]) [2, 3])
  (.ret)) (.skip))))
  (.seq (.reg (straight [⟨some 10, none, .pur .mov [.tmp 0]⟩, ⟨some 11, none, .eff (.call 58) [.tmp 10]⟩, ⟨some 2, none, .pur .mov [.tmp 11]⟩, ⟨some 3, none, .pur .mov [.const (.int .i64 0)]⟩]) [2, 3])
  (.ret)))⟩
theorem K_tidy_Reached : compF Try.prog 29 = some S_tidy_Reached := by kernel_rfl

-- 30
def S_forebayref04_Same_L2 : SCode :=
  .seq (.seq (.reg (straight [⟨some 41, none, .pur .mov [.tmp 6]⟩, ⟨some 42, none, .pur (.fla 1) [.tmp 2]⟩, ⟨some 43, none, .ld none (.tmp 42)⟩, ⟨some 44, none, .pur .mov [.tmp 5]⟩, ⟨some 45, none, .pur (.ixa 1) [.tmp 43, .tmp 44]⟩, ⟨some 46, none, .ld none (.tmp 45)⟩, ⟨some 47, none, .pur (.len false) [.tmp 46]⟩, ⟨some 48, none, .pur (.bin .lss) [.tmp 41, .tmp 47]⟩]) [48])
  (.cond (.tmp 48) (.skip) (.exit 2)))
  (.seq (.block 3 (.seq (.reg (straight [⟨some 51, none, .pur (.fla 1) [.tmp 2]⟩, ⟨some 52, none, .ld none (.tmp 51)⟩, ⟨some 53, none, .pur .mov [.tmp 5]⟩, ⟨some 54, none, .pur (.ixa 1) [.tmp 52, .tmp 53]⟩, ⟨some 55, none, .ld none (.tmp 54)⟩, ⟨some 56, none, .pur .mov [.tmp 6]⟩, ⟨some 57, none, .pur (.ixa 4) [.tmp 55, .tmp 56]⟩, ⟨some 58, none, .ld (some 4) (.tmp 57)⟩, ⟨some 59, none, .pur (.fla 1) [.tmp 3]⟩, ⟨some 60, none, .ld none (.tmp 59)⟩, ⟨some 61, none, .pur .mov [.tmp 5]⟩, ⟨some 62, none, .pur (.ixa 1) [.tmp 60, .tmp 61]⟩, ⟨some 63, none, .ld none (.tmp 62)⟩, ⟨some 64, none, .pur .mov [.tmp 6]⟩, ⟨some 65, none, .pur (.ixa 4) [.tmp 63, .tmp 64]⟩, ⟨some 66, none, .ld (some 4) (.tmp 65)⟩, ⟨some 67, none, .pur (.eqs true [.int .i64, .int .i64, .int .i64, .int .i64]) [.tmp 58, .tmp 66]⟩]) [67])
  (.cond (.tmp 67) (.seq (.reg (straight [⟨some 4, none, .pur .mov [.const (.bool false)]⟩]) [4])
  (.ret)) (.skip))))
  (.reg (straight [⟨some 49, none, .pur .mov [.tmp 6]⟩, ⟨some 50, none, .pur (.bin .add) [.tmp 49, .const (.int .i64 1)]⟩, ⟨some 6, none, .pur .mov [.tmp 50]⟩]) [6]))
def S_forebayref04_Same_L1 : SCode :=
  .seq (.seq (.reg (straight [⟨some 21, none, .pur .mov [.tmp 5]⟩, ⟨some 22, none, .pur (.fla 1) [.tmp 2]⟩, ⟨some 23, none, .ld none (.tmp 22)⟩, ⟨some 24, none, .pur (.len false) [.tmp 23]⟩, ⟨some 25, none, .pur (.bin .lss) [.tmp 21, .tmp 24]⟩]) [25])
  (.cond (.tmp 25) (.skip) (.exit 0)))
  (.seq (.block 1 (.seq (.seq (.reg (straight [⟨some 28, none, .pur (.fla 1) [.tmp 2]⟩, ⟨some 29, none, .ld none (.tmp 28)⟩, ⟨some 30, none, .pur .mov [.tmp 5]⟩, ⟨some 31, none, .pur (.ixa 1) [.tmp 29, .tmp 30]⟩, ⟨some 32, none, .ld none (.tmp 31)⟩, ⟨some 33, none, .pur (.len false) [.tmp 32]⟩, ⟨some 34, none, .pur (.fla 1) [.tmp 3]⟩, ⟨some 35, none, .ld none (.tmp 34)⟩, ⟨some 36, none, .pur .mov [.tmp 5]⟩, ⟨some 37, none, .pur (.ixa 1) [.tmp 35, .tmp 36]⟩, ⟨some 38, none, .ld none (.tmp 37)⟩, ⟨some 39, none, .pur (.len false) [.tmp 38]⟩, ⟨some 40, none, .pur (.bin .neq) [.tmp 33, .tmp 39]⟩]) [40])
  (.cond (.tmp 40) (.seq (.reg (straight [⟨some 4, none, .pur .mov [.const (.bool false)]⟩]) [4])
  (.ret)) (.skip)))
  (.seq (.reg (straight [⟨some 6, none, .pur .mov [.const (.int .i64 0)]⟩]) [6])
  (.block 2 (.loop S_forebayref04_Same_L2)))))
  (.reg (straight [⟨some 26, none, .pur .mov [.tmp 5]⟩, ⟨some 27, none, .pur (.bin .add) [.tmp 26, .const (.int .i64 1)]⟩, ⟨some 5, none, .pur .mov [.tmp 27]⟩]) [5]))
def S_forebayref04_Same : Fun := ⟨68, [4, 0, 1, 2, 3, 20, 5, 25, 40, 6, 48, 67], [.tmp 4],
  .seq (.reg (straight [⟨some 2, none, .eff (.box 24) [.tmp 0]⟩, ⟨some 3, none, .eff (.box 24) [.tmp 1]⟩, ⟨some 4, none, .pur .mov [.const (.bool false)]⟩]) [2, 3, 4])
  (.seq (.seq (.reg (straight [⟨some 7, none, .pur (.fla 0) [.tmp 2]⟩, ⟨some 8, none, .ld none (.tmp 7)⟩, ⟨some 9, none, .pur (.fla 0) [.tmp 3]⟩, ⟨some 10, none, .ld none (.tmp 9)⟩, ⟨some 11, none, .pur (.bin .neq) [.tmp 8, .tmp 10]⟩, ⟨some 12, none, .pur .mov [.tmp 11]⟩, ⟨some 13, some (12, false), .pur (.fla 1) [.tmp 2]⟩, ⟨some 14, some (12, false), .ld none (.tmp 13)⟩, ⟨some 15, some (12, false), .pur (.len false) [.tmp 14]⟩, ⟨some 16, some (12, false), .pur (.fla 1) [.tmp 3]⟩, ⟨some 17, some (12, false), .ld none (.tmp 16)⟩, ⟨some 18, some (12, false), .pur (.len false) [.tmp 17]⟩, ⟨some 19, some (12, false), .pur (.bin .neq) [.tmp 15, .tmp 18]⟩, ⟨some 20, none, .pur .pick [.tmp 12, .const (.bool true), .tmp 19]⟩]) [20])
  (.cond (.tmp 20) (.seq (.reg (straight [⟨some 4, none, .pur .mov [.const (.bool false)]⟩]) [4])
  (.ret)) (.skip)))
  (.seq (.seq (.reg (straight [⟨some 5, none, .pur .mov [.const (.int .i64 0)]⟩]) [5])
  (.block 0 (.loop S_forebayref04_Same_L1)))
  (.seq (.reg (straight [⟨some 4, none, .pur .mov [.const (.bool true)]⟩]) [4])
  (.ret))))⟩
theorem K_forebayref04_Same : compF Try.prog 30 = some S_forebayref04_Same := by kernel_rfl

-- 31
def S_tidy_Useless : Fun := ⟨38, [4, 1, 0, 14, 5, 21, 6], [.tmp 4],
  .seq (.reg (straight [⟨some 4, none, .pur .mov [.const (.bool false)]⟩]) [4])
  (.seq (.seq (.reg (straight [⟨some 7, none, .pur .mov [.tmp 1]⟩, ⟨some 8, none, .pur (.bin .lss) [.tmp 7, .const (.int .i64 0)]⟩, ⟨some 9, none, .pur .mov [.tmp 8]⟩, ⟨some 10, some (9, false), .pur .mov [.tmp 1]⟩, ⟨some 11, some (9, false), .pur .mov [.tmp 0]⟩, ⟨some 12, some (9, false), .pur (.len false) [.tmp 11]⟩, ⟨some 13, some (9, false), .pur (.bin .geq) [.tmp 10, .tmp 12]⟩, ⟨some 14, none, .pur .pick [.tmp 9, .const (.bool true), .tmp 13]⟩]) [14])
  (.cond (.tmp 14) (.seq (.reg (straight [⟨some 4, none, .pur .mov [.const (.bool false)]⟩]) [4])
  (.ret)) (.skip)))
  (.seq (.reg (straight [⟨some 15, none, .pur .mov [.tmp 0]⟩, ⟨some 16, none, .pur .mov [.tmp 1]⟩, ⟨some 17, none, .pur (.ixa 4) [.tmp 15, .tmp 16]⟩, ⟨some 18, none, .ld (some 4) (.tmp 17)⟩, ⟨some 5, none, .eff (.new 78 [.int .i64 0, .int .i64 0, .int .i64 0, .int .i64 0]) []⟩, ⟨none, none, .eff (.st 4) [.tmp 5, .tmp 18]⟩]) [5])
  (.seq (.seq (.reg (straight [⟨some 19, none, .pur (.fla 0) [.tmp 5]⟩, ⟨some 20, none, .ld none (.tmp 19)⟩, ⟨some 21, none, .pur (.bin .eql) [.tmp 20, .const (.int .i64 2)]⟩]) [21])
  (.cond (.tmp 21) (.seq (.reg (straight [⟨some 22, none, .pur (.fla 1) [.tmp 5]⟩, ⟨some 23, none, .ld none (.tmp 22)⟩, ⟨some 24, none, .pur (.fla 2) [.tmp 5]⟩, ⟨some 25, none, .ld none (.tmp 24)⟩, ⟨some 26, none, .pur (.bin .eql) [.tmp 23, .tmp 25]⟩, ⟨some 4, none, .pur .mov [.tmp 26]⟩]) [4])
  (.ret)) (.skip)))
  (.seq (.reg (straight [⟨some 27, none, .eff (.call 59) [.tmp 5]⟩, ⟨some 6, none, .pur .mov [.tmp 27]⟩]) [6])
  (.seq (.reg (straight [⟨some 28, none, .pur .mov [.tmp 6]⟩, ⟨some 29, none, .pur (.eqn true 0) [.tmp 28]⟩, ⟨some 30, none, .pur .mov [.tmp 29]⟩, ⟨some 31, some (30, true), .pur .mov [.tmp 6]⟩, ⟨some 32, some (30, true), .pur .nilc [.tmp 31]⟩, ⟨some 33, some (30, true), .ld none (.tmp 32)⟩, ⟨some 34, some (30, true), .pur .mov [.tmp 1]⟩, ⟨some 35, some (30, true), .pur (.bin .add) [.tmp 34, .const (.int .i64 1)]⟩, ⟨some 36, some (30, true), .pur (.bin .eql) [.tmp 33, .tmp 35]⟩, ⟨some 37, none, .pur .pick [.tmp 30, .tmp 36, .const (.bool false)]⟩, ⟨some 4, none, .pur .mov [.tmp 37]⟩]) [4])
  (.ret))))))⟩
theorem K_tidy_Useless : compF Try.prog 31 = some S_tidy_Useless := by kernel_rfl

-- 33
def S_slices_Clone_api_Ins_api_Ins : Fun := ⟨8, [2, 0, 4], [.tmp 2],
  .seq (.reg (straight [⟨some 2, none, .pur .mov [.const (.slice none 0 0)]⟩]) [2])
  (.seq (.seq (.reg (straight [⟨some 3, none, .pur .mov [.tmp 0]⟩, ⟨some 4, none, .pur (.eqn false 1) [.tmp 3]⟩]) [4])
  (.cond (.tmp 4) (.seq (.reg (straight [⟨some 2, none, .pur .mov [.const (.slice none 0 0)]⟩]) [2])
  (.ret)) (.skip)))
  (.seq (.reg (straight [⟨some 5, none, .eff (.bsl 78 4) []⟩, ⟨some 6, none, .pur .mov [.tmp 0]⟩, ⟨some 7, none, .eff (.app 78 4 32 [.int .i64 0, .int .i64 0, .int .i64 0, .int .i64 0]) [.tmp 5, .tmp 6]⟩, ⟨some 2, none, .pur .mov [.tmp 7]⟩]) [2])
  (.ret)))⟩
theorem K_slices_Clone_api_Ins_api_Ins : compF Try.prog 33 = some S_slices_Clone_api_Ins_api_Ins := by kernel_rfl

-- 34
def S_tidy_round_L1 : SCode :=
  .seq (.reg (straight [⟨some 22, none, .pur (.bin .lss) [.tmp 21, .tmp 20]⟩]) [22])
  (.seq (.cond (.tmp 22) (.skip) (.exit 0))
  (.seq (.block 1 (.seq (.reg (straight [⟨some 23, none, .pur .mov [.tmp 21]⟩, ⟨some 24, none, .pur (.ixa 4) [.tmp 19, .tmp 21]⟩, ⟨some 25, none, .ld (some 4) (.tmp 24)⟩, ⟨some 8, none, .eff (.new 78 [.int .i64 0, .int .i64 0, .int .i64 0, .int .i64 0]) []⟩, ⟨some 7, none, .pur .mov [.tmp 23]⟩, ⟨none, none, .eff (.st 4) [.tmp 8, .tmp 25]⟩]) [8, 7])
  (.seq (.reg (straight [⟨some 26, none, .pur .mov [.tmp 5]⟩, ⟨some 27, none, .pur .mov [.tmp 7]⟩, ⟨some 28, none, .pur .mov [.tmp 6]⟩, ⟨some 29, none, .pur (.len false) [.tmp 28]⟩, ⟨some 30, none, .pur (.ixa 1) [.tmp 26, .tmp 27]⟩, ⟨none, none, .eff (.st 1) [.tmp 30, .tmp 29]⟩]) [])
  (.seq (.reg (straight [⟨some 31, none, .pur .mov [.tmp 4]⟩, ⟨some 32, none, .pur .mov [.tmp 7]⟩, ⟨some 33, none, .pur (.ixa 1) [.tmp 31, .tmp 32]⟩, ⟨some 34, none, .ld none (.tmp 33)⟩, ⟨some 35, none, .pur .mov [.tmp 34]⟩, ⟨some 36, some (35, true), .pur .mov [.tmp 3]⟩, ⟨some 37, some (35, true), .pur .mov [.tmp 7]⟩, ⟨some 38, some (35, true), .eff (.call 31) [.tmp 36, .tmp 37]⟩, ⟨some 39, some (35, true), .pur .not [.tmp 38]⟩, ⟨some 40, none, .pur .pick [.tmp 35, .tmp 39, .const (.bool false)]⟩]) [40])
  (.cond (.tmp 40) (.reg (straight [⟨some 41, none, .pur .mov [.tmp 6]⟩, ⟨some 42, none, .ld (some 4) (.tmp 8)⟩, ⟨some 43, none, .eff (.bsl 78 4) [.tmp 42]⟩, ⟨some 44, none, .eff (.app 78 4 32 [.int .i64 0, .int .i64 0, .int .i64 0, .int .i64 0]) [.tmp 41, .tmp 43]⟩, ⟨some 6, none, .pur .mov [.tmp 44]⟩]) [6]) (.skip))))))
  (.reg (straight [⟨some 45, none, .pur (.bin .add) [.tmp 21, .const (.int .i64 1)]⟩, ⟨some 21, none, .pur .mov [.tmp 45]⟩]) [21])))
def S_tidy_round_L2 : SCode :=
  .seq (.reg (straight [⟨some 49, none, .pur (.bin .lss) [.tmp 48, .tmp 47]⟩]) [49])
  (.seq (.cond (.tmp 49) (.skip) (.exit 2))
  (.seq (.block 3 (.seq (.reg (straight [⟨some 50, none, .pur .mov [.tmp 48]⟩, ⟨some 9, none, .pur .mov [.tmp 50]⟩]) [9])
  (.seq (.reg (straight [⟨some 51, none, .pur .mov [.tmp 6]⟩, ⟨some 52, none, .pur .mov [.tmp 9]⟩, ⟨some 53, none, .pur (.ixa 4) [.tmp 51, .tmp 52]⟩, ⟨some 54, none, .eff (.call 59) [.tmp 53]⟩, ⟨some 10, none, .pur .mov [.tmp 54]⟩]) [10])
  (.seq (.reg (straight [⟨some 55, none, .pur .mov [.tmp 10]⟩, ⟨some 56, none, .pur (.eqn true 0) [.tmp 55]⟩]) [56])
  (.cond (.tmp 56) (.reg (straight [⟨some 57, none, .pur .mov [.tmp 10]⟩, ⟨some 58, none, .pur .mov [.tmp 5]⟩, ⟨some 59, none, .pur .mov [.tmp 10]⟩, ⟨some 60, none, .pur .nilc [.tmp 59]⟩, ⟨some 61, none, .ld none (.tmp 60)⟩, ⟨some 62, none, .pur (.ixa 1) [.tmp 58, .tmp 61]⟩, ⟨some 63, none, .ld none (.tmp 62)⟩, ⟨some 64, none, .pur .nilc [.tmp 57]⟩, ⟨none, none, .eff (.st 1) [.tmp 64, .tmp 63]⟩]) []) (.skip))))))
  (.reg (straight [⟨some 65, none, .pur (.bin .add) [.tmp 48, .const (.int .i64 1)]⟩, ⟨some 48, none, .pur .mov [.tmp 65]⟩]) [48])))
def S_tidy_round : Fun := ⟨67, [2, 0, 3, 21, 20, 22, 19, 5, 7, 6, 4, 40, 8, 48, 47, 49, 9, 10, 56], [.tmp 2],
  .seq (.reg (straight [⟨some 2, none, .pur .mov [.const (.slice none 0 0)]⟩]) [2])
  (.seq (.reg (straight [⟨some 11, none, .pur .mov [.tmp 0]⟩, ⟨some 12, none, .eff (.call 62) [.tmp 11]⟩, ⟨some 3, none, .pur .mov [.tmp 12]⟩]) [3])
  (.seq (.reg (straight [⟨some 13, none, .pur .mov [.tmp 3]⟩, ⟨some 14, none, .eff (.call 58) [.tmp 13]⟩, ⟨some 4, none, .pur .mov [.tmp 14]⟩]) [4])
  (.seq (.reg (straight [⟨some 15, none, .pur .mov [.tmp 3]⟩, ⟨some 16, none, .pur (.len false) [.tmp 15]⟩, ⟨some 17, none, .pur (.bin .add) [.tmp 16, .const (.int .i64 1)]⟩, ⟨some 18, none, .eff (.mks 3 1 8 [.int .i64 0]) [.tmp 17, .tmp 17]⟩, ⟨some 5, none, .pur .mov [.tmp 18]⟩]) [5])
  (.seq (.reg (straight [⟨some 6, none, .pur .mov [.const (.slice none 0 0)]⟩]) [6])
  (.seq (.seq (.reg (straight [⟨some 19, none, .pur .mov [.tmp 3]⟩, ⟨some 20, none, .pur (.len false) [.tmp 19]⟩, ⟨some 21, none, .pur .mov [.const (.int .i64 0)]⟩]) [19, 20, 21])
  (.block 0 (.loop S_tidy_round_L1)))
  (.seq (.seq (.reg (straight [⟨some 46, none, .pur .mov [.tmp 6]⟩, ⟨some 47, none, .pur (.len false) [.tmp 46]⟩, ⟨some 48, none, .pur .mov [.const (.int .i64 0)]⟩]) [47, 48])
  (.block 2 (.loop S_tidy_round_L2)))
  (.seq (.reg (straight [⟨some 66, none, .pur .mov [.tmp 6]⟩, ⟨some 2, none, .pur .mov [.tmp 66]⟩]) [2])
  (.ret))))))))⟩
theorem K_tidy_round : compF Try.prog 34 = some S_tidy_round := by kernel_rfl

-- 35
def S_slices_Equal_api_Ins_api_Ins_L1 : SCode :=
  .seq (.reg (straight [⟨some 14, none, .pur (.bin .lss) [.tmp 13, .tmp 12]⟩]) [14])
  (.seq (.cond (.tmp 14) (.skip) (.exit 0))
  (.seq (.block 1 (.seq (.reg (straight [⟨some 15, none, .pur .mov [.tmp 13]⟩, ⟨some 5, none, .pur .mov [.tmp 15]⟩]) [5])
  (.seq (.reg (straight [⟨some 16, none, .pur .mov [.tmp 0]⟩, ⟨some 17, none, .pur .mov [.tmp 5]⟩, ⟨some 18, none, .pur (.ixa 4) [.tmp 16, .tmp 17]⟩, ⟨some 19, none, .ld (some 4) (.tmp 18)⟩, ⟨some 20, none, .pur .mov [.tmp 1]⟩, ⟨some 21, none, .pur .mov [.tmp 5]⟩, ⟨some 22, none, .pur (.ixa 4) [.tmp 20, .tmp 21]⟩, ⟨some 23, none, .ld (some 4) (.tmp 22)⟩, ⟨some 24, none, .pur (.eqs true [.int .i64, .int .i64, .int .i64, .int .i64]) [.tmp 19, .tmp 23]⟩]) [24])
  (.cond (.tmp 24) (.seq (.reg (straight [⟨some 4, none, .pur .mov [.const (.bool false)]⟩]) [4])
  (.ret)) (.skip)))))
  (.reg (straight [⟨some 25, none, .pur (.bin .add) [.tmp 13, .const (.int .i64 1)]⟩, ⟨some 13, none, .pur .mov [.tmp 25]⟩]) [13])))
def S_slices_Equal_api_Ins_api_Ins : Fun := ⟨26, [4, 0, 1, 10, 13, 12, 14, 5, 24], [.tmp 4],
  .seq (.reg (straight [⟨some 4, none, .pur .mov [.const (.bool false)]⟩]) [4])
  (.seq (.seq (.reg (straight [⟨some 6, none, .pur .mov [.tmp 0]⟩, ⟨some 7, none, .pur (.len false) [.tmp 6]⟩, ⟨some 8, none, .pur .mov [.tmp 1]⟩, ⟨some 9, none, .pur (.len false) [.tmp 8]⟩, ⟨some 10, none, .pur (.bin .neq) [.tmp 7, .tmp 9]⟩]) [10])
  (.cond (.tmp 10) (.seq (.reg (straight [⟨some 4, none, .pur .mov [.const (.bool false)]⟩]) [4])
  (.ret)) (.skip)))
  (.seq (.seq (.reg (straight [⟨some 11, none, .pur .mov [.tmp 0]⟩, ⟨some 12, none, .pur (.len false) [.tmp 11]⟩, ⟨some 13, none, .pur .mov [.const (.int .i64 0)]⟩]) [12, 13])
  (.block 0 (.loop S_slices_Equal_api_Ins_api_Ins_L1)))
  (.seq (.reg (straight [⟨some 4, none, .pur .mov [.const (.bool true)]⟩]) [4])
  (.ret))))⟩
theorem K_slices_Equal_api_Ins_api_Ins : compF Try.prog 35 = some S_slices_Equal_api_Ins_api_Ins := by kernel_rfl

-- 57
def S_tidy_check_L1 : SCode :=
  .seq (.reg (straight [⟨some 17, none, .pur (.bin .lss) [.tmp 16, .tmp 15]⟩]) [17])
  (.seq (.cond (.tmp 17) (.skip) (.exit 1))
  (.seq (.block 2 (.seq (.reg (straight [⟨some 18, none, .pur (.ixa 4) [.tmp 14, .tmp 16]⟩, ⟨some 19, none, .ld (some 4) (.tmp 18)⟩, ⟨some 4, none, .eff (.new 78 [.int .i64 0, .int .i64 0, .int .i64 0, .int .i64 0]) []⟩, ⟨none, none, .eff (.st 4) [.tmp 4, .tmp 19]⟩]) [4])
  (.seq (.reg (straight [⟨some 20, none, .eff (.call 59) [.tmp 4]⟩, ⟨some 5, none, .pur .mov [.tmp 20]⟩]) [5])
  (.seq (.reg (straight [⟨some 21, none, .pur .mov [.tmp 5]⟩, ⟨some 22, none, .pur (.eqn true 0) [.tmp 21]⟩, ⟨some 23, none, .pur .mov [.tmp 22]⟩, ⟨some 24, some (23, true), .pur .mov [.tmp 5]⟩, ⟨some 25, some (23, true), .pur .nilc [.tmp 24]⟩, ⟨some 26, some (23, true), .ld none (.tmp 25)⟩, ⟨some 27, some (23, true), .pur (.bin .lss) [.tmp 26, .const (.int .i64 0)]⟩, ⟨some 28, some (23, true), .pur .mov [.tmp 27]⟩, ⟨some 29, some (28, false), .pur .mov [.tmp 5]⟩, ⟨some 30, some (28, false), .pur .nilc [.tmp 29]⟩, ⟨some 31, some (28, false), .ld none (.tmp 30)⟩, ⟨some 32, some (28, false), .pur .mov [.tmp 0]⟩, ⟨some 33, some (28, false), .pur (.len false) [.tmp 32]⟩, ⟨some 34, some (28, false), .pur (.bin .geq) [.tmp 31, .tmp 33]⟩, ⟨some 35, some (23, true), .pur .pick [.tmp 28, .const (.bool true), .tmp 34]⟩, ⟨some 36, none, .pur .pick [.tmp 23, .tmp 35, .const (.bool false)]⟩]) [36])
  (.cond (.tmp 36) (.seq (.reg (straight [⟨some 2, none, .pur .mov [.const (.int .i64 11)]⟩]) [2])
  (.ret)) (.skip))))))
  (.reg (straight [⟨some 37, none, .pur (.bin .add) [.tmp 16, .const (.int .i64 1)]⟩, ⟨some 16, none, .pur .mov [.tmp 37]⟩]) [16])))
def S_tidy_check : Fun := ⟨47, [2, 0, 6, 10, 16, 15, 17, 14, 4, 5, 36, 46], [.tmp 2],
  .seq (.reg (straight [⟨some 2, none, .pur .mov [.const (.int .i64 0)]⟩]) [2])
  (.seq (.block 0 (.seq (.reg (straight [⟨some 7, none, .pur .mov [.tmp 0]⟩, ⟨some 8, none, .pur (.len false) [.tmp 7]⟩, ⟨some 9, none, .pur (.bin .eql) [.tmp 8, .const (.int .i64 0)]⟩, ⟨some 6, none, .pur .mov [.tmp 9]⟩]) [6])
  (.cond (.tmp 6) (.seq (.reg (straight [⟨some 2, none, .pur .mov [.const (.int .i64 7)]⟩]) [2])
  (.ret)) (.seq (.reg (straight [⟨some 11, none, .pur .mov [.tmp 0]⟩, ⟨some 12, none, .pur (.len false) [.tmp 11]⟩, ⟨some 13, none, .pur (.bin .gtr) [.tmp 12, .const (.int .i64 200)]⟩, ⟨some 10, none, .pur .mov [.tmp 13]⟩]) [10])
  (.cond (.tmp 10) (.seq (.reg (straight [⟨some 2, none, .pur .mov [.const (.int .i64 9)]⟩]) [2])
  (.ret)) (.skip))))))
  (.seq (.seq (.reg (straight [⟨some 14, none, .pur .mov [.tmp 0]⟩, ⟨some 15, none, .pur (.len false) [.tmp 14]⟩, ⟨some 16, none, .pur .mov [.const (.int .i64 0)]⟩]) [14, 15, 16])
  (.block 1 (.loop S_tidy_check_L1)))
  (.seq (.seq (.reg (straight [⟨some 38, none, .pur .mov [.tmp 0]⟩, ⟨some 39, none, .pur .mov [.tmp 0]⟩, ⟨some 40, none, .pur (.len false) [.tmp 39]⟩, ⟨some 41, none, .pur (.bin .sub) [.tmp 40, .const (.int .i64 1)]⟩, ⟨some 42, none, .pur (.ixa 4) [.tmp 38, .tmp 41]⟩, ⟨some 43, none, .pur (.fla 0) [.tmp 42]⟩, ⟨some 44, none, .ld none (.tmp 43)⟩, ⟨some 45, none, .eff (.call 96) [.tmp 44]⟩, ⟨some 46, none, .pur .not [.tmp 45]⟩]) [46])
  (.cond (.tmp 46) (.seq (.reg (straight [⟨some 2, none, .pur .mov [.const (.int .i64 12)]⟩]) [2])
  (.ret)) (.skip)))
  (.seq (.reg (straight [⟨some 2, none, .pur .mov [.const (.int .i64 0)]⟩]) [2])
  (.ret)))))⟩
theorem K_tidy_check : compF Try.prog 57 = some S_tidy_check := by kernel_rfl

-- 58
def S_tidy_reached_L1 : SCode :=
  .seq (.seq (.reg (straight [⟨some 12, none, .pur .mov [.tmp 4]⟩, ⟨some 13, none, .pur (.len false) [.tmp 12]⟩, ⟨some 14, none, .pur (.bin .gtr) [.tmp 13, .const (.int .i64 0)]⟩]) [14])
  (.cond (.tmp 14) (.skip) (.exit 0)))
  (.block 1 (.seq (.reg (straight [⟨some 15, none, .pur .mov [.tmp 4]⟩, ⟨some 16, none, .pur .mov [.tmp 4]⟩, ⟨some 17, none, .pur (.len false) [.tmp 16]⟩, ⟨some 18, none, .pur (.bin .sub) [.tmp 17, .const (.int .i64 1)]⟩, ⟨some 19, none, .pur (.ixa 1) [.tmp 15, .tmp 18]⟩, ⟨some 20, none, .ld none (.tmp 19)⟩, ⟨some 5, none, .pur .mov [.tmp 20]⟩]) [5])
  (.seq (.reg (straight [⟨some 21, none, .pur .mov [.tmp 4]⟩, ⟨some 22, none, .pur .mov [.tmp 4]⟩, ⟨some 23, none, .pur (.len false) [.tmp 22]⟩, ⟨some 24, none, .pur (.bin .sub) [.tmp 23, .const (.int .i64 1)]⟩, ⟨some 25, none, .pur (.slc 1 false true) [.tmp 21, .tmp 24]⟩, ⟨some 4, none, .pur .mov [.tmp 25]⟩]) [4])
  (.seq (.seq (.reg (straight [⟨some 26, none, .pur .mov [.tmp 3]⟩, ⟨some 27, none, .pur .mov [.tmp 5]⟩, ⟨some 28, none, .pur (.ixa 1) [.tmp 26, .tmp 27]⟩, ⟨some 29, none, .ld none (.tmp 28)⟩]) [29])
  (.cond (.tmp 29) (.exit 1) (.skip)))
  (.seq (.reg (straight [⟨some 30, none, .pur .mov [.tmp 3]⟩, ⟨some 31, none, .pur .mov [.tmp 5]⟩, ⟨some 32, none, .pur (.ixa 1) [.tmp 30, .tmp 31]⟩, ⟨none, none, .eff (.st 1) [.tmp 32, .const (.bool true)]⟩]) [])
  (.seq (.reg (straight [⟨some 33, none, .pur .mov [.tmp 0]⟩, ⟨some 34, none, .pur .mov [.tmp 5]⟩, ⟨some 35, none, .pur (.ixa 4) [.tmp 33, .tmp 34]⟩, ⟨some 36, none, .ld (some 4) (.tmp 35)⟩, ⟨some 6, none, .eff (.new 78 [.int .i64 0, .int .i64 0, .int .i64 0, .int .i64 0]) []⟩, ⟨none, none, .eff (.st 4) [.tmp 6, .tmp 36]⟩]) [6])
  (.seq (.seq (.reg (straight [⟨some 37, none, .pur (.fla 0) [.tmp 6]⟩, ⟨some 38, none, .ld none (.tmp 37)⟩, ⟨some 39, none, .eff (.call 96) [.tmp 38]⟩, ⟨some 40, none, .pur .not [.tmp 39]⟩]) [40])
  (.cond (.tmp 40) (.reg (straight [⟨some 41, none, .pur .mov [.tmp 4]⟩, ⟨some 42, none, .pur .mov [.tmp 5]⟩, ⟨some 43, none, .pur (.bin .add) [.tmp 42, .const (.int .i64 1)]⟩, ⟨some 44, none, .eff (.bsl 3 1) [.tmp 43]⟩, ⟨some 45, none, .eff (.app 3 1 8 [.int .i64 0]) [.tmp 41, .tmp 44]⟩, ⟨some 4, none, .pur .mov [.tmp 45]⟩]) [4]) (.skip)))
  (.seq (.reg (straight [⟨some 46, none, .eff (.call 59) [.tmp 6]⟩, ⟨some 7, none, .pur .mov [.tmp 46]⟩]) [7])
  (.seq (.reg (straight [⟨some 47, none, .pur .mov [.tmp 7]⟩, ⟨some 48, none, .pur (.eqn true 0) [.tmp 47]⟩]) [48])
  (.cond (.tmp 48) (.reg (straight [⟨some 49, none, .pur .mov [.tmp 4]⟩, ⟨some 50, none, .pur .mov [.tmp 7]⟩, ⟨some 51, none, .pur .nilc [.tmp 50]⟩, ⟨some 52, none, .ld none (.tmp 51)⟩, ⟨some 53, none, .eff (.bsl 3 1) [.tmp 52]⟩, ⟨some 54, none, .eff (.app 3 1 8 [.int .i64 0]) [.tmp 49, .tmp 53]⟩, ⟨some 4, none, .pur .mov [.tmp 54]⟩]) [4]) (.skip)))))))))))
def S_tidy_reached : Fun := ⟨56, [2, 0, 4, 14, 3, 5, 29, 6, 40, 7, 48], [.tmp 2],
  .seq (.reg (straight [⟨some 2, none, .pur .mov [.const (.slice none 0 0)]⟩]) [2])
  (.seq (.reg (straight [⟨some 8, none, .pur .mov [.tmp 0]⟩, ⟨some 9, none, .pur (.len false) [.tmp 8]⟩, ⟨some 10, none, .eff (.mks 4 1 1 [.bool false]) [.tmp 9, .tmp 9]⟩, ⟨some 3, none, .pur .mov [.tmp 10]⟩]) [3])
  (.seq (.reg (straight [⟨some 11, none, .eff (.bsl 3 1) [.const (.int .i64 0)]⟩, ⟨some 4, none, .pur .mov [.tmp 11]⟩]) [4])
  (.seq (.block 0 (.loop S_tidy_reached_L1))
  (.seq (.reg (straight [⟨some 55, none, .pur .mov [.tmp 3]⟩, ⟨some 2, none, .pur .mov [.tmp 55]⟩]) [2])
  (.ret)))))⟩
theorem K_tidy_reached : compF Try.prog 58 = some S_tidy_reached := by kernel_rfl

-- 59
def S_tidy_target : Fun := ⟨17, [2, 0, 6, 7, 12], [.tmp 2],
  .seq (.reg (straight [⟨some 2, none, .pur .mov [.const (.pointer none)]⟩]) [2])
  (.seq (.seq (.reg (straight [⟨some 3, none, .pur .mov [.tmp 0]⟩, ⟨some 4, none, .pur .nilc [.tmp 3]⟩, ⟨some 5, none, .pur (.fla 0) [.tmp 4]⟩, ⟨some 6, none, .ld none (.tmp 5)⟩]) [6])
  (.block 0 (.seq (.reg (straight [⟨some 8, none, .pur (.bin .eql) [.tmp 6, .const (.int .i64 18)]⟩, ⟨some 7, none, .pur .mov [.tmp 8]⟩]) [7])
  (.cond (.tmp 7) (.seq (.reg (straight [⟨some 9, none, .pur .mov [.tmp 0]⟩, ⟨some 10, none, .pur .nilc [.tmp 9]⟩, ⟨some 11, none, .pur (.fla 1) [.tmp 10]⟩, ⟨some 2, none, .pur .mov [.tmp 11]⟩]) [2])
  (.ret)) (.seq (.reg (straight [⟨some 13, none, .pur (.bin .eql) [.tmp 6, .const (.int .i64 19)]⟩, ⟨some 12, none, .pur .mov [.tmp 13]⟩]) [12])
  (.cond (.tmp 12) (.seq (.reg (straight [⟨some 14, none, .pur .mov [.tmp 0]⟩, ⟨some 15, none, .pur .nilc [.tmp 14]⟩, ⟨some 16, none, .pur (.fla 2) [.tmp 15]⟩, ⟨some 2, none, .pur .mov [.tmp 16]⟩]) [2])
  (.ret)) (.skip)))))))
  (.seq (.reg (straight [⟨some 2, none, .pur .mov [.const (.pointer none)]⟩]) [2])
  (.ret)))⟩
theorem K_tidy_target : compF Try.prog 59 = some S_tidy_target := by kernel_rfl

-- 62
def S_tidy_ledOn_L1 : SCode :=
  .seq (.reg (straight [⟨some 11, none, .pur (.bin .lss) [.tmp 10, .tmp 9]⟩]) [11])
  (.seq (.cond (.tmp 11) (.skip) (.exit 0))
  (.seq (.block 1 (.seq (.reg (straight [⟨some 12, none, .pur .mov [.tmp 10]⟩, ⟨some 4, none, .pur .mov [.tmp 12]⟩]) [4])
  (.seq (.reg (straight [⟨some 13, none, .pur .mov [.tmp 3]⟩, ⟨some 14, none, .pur .mov [.tmp 4]⟩, ⟨some 15, none, .pur (.ixa 4) [.tmp 13, .tmp 14]⟩, ⟨some 16, none, .eff (.call 59) [.tmp 15]⟩, ⟨some 5, none, .pur .mov [.tmp 16]⟩]) [5])
  (.seq (.reg (straight [⟨some 17, none, .pur .mov [.tmp 5]⟩, ⟨some 18, none, .pur (.eqn true 0) [.tmp 17]⟩]) [18])
  (.cond (.tmp 18) (.reg (straight [⟨some 19, none, .pur .mov [.tmp 5]⟩, ⟨some 20, none, .pur .mov [.tmp 0]⟩, ⟨some 21, none, .pur .mov [.tmp 5]⟩, ⟨some 22, none, .pur .nilc [.tmp 21]⟩, ⟨some 23, none, .ld none (.tmp 22)⟩, ⟨some 24, none, .eff (.call 100) [.tmp 20, .tmp 23]⟩, ⟨some 25, none, .pur .nilc [.tmp 19]⟩, ⟨none, none, .eff (.st 1) [.tmp 25, .tmp 24]⟩]) []) (.skip))))))
  (.reg (straight [⟨some 26, none, .pur (.bin .add) [.tmp 10, .const (.int .i64 1)]⟩, ⟨some 10, none, .pur .mov [.tmp 26]⟩]) [10])))
def S_tidy_ledOn : Fun := ⟨28, [2, 0, 3, 10, 9, 11, 4, 5, 18], [.tmp 2],
  .seq (.reg (straight [⟨some 2, none, .pur .mov [.const (.slice none 0 0)]⟩]) [2])
  (.seq (.reg (straight [⟨some 6, none, .pur .mov [.tmp 0]⟩, ⟨some 7, none, .eff (.call 33) [.tmp 6]⟩, ⟨some 3, none, .pur .mov [.tmp 7]⟩]) [3])
  (.seq (.seq (.reg (straight [⟨some 8, none, .pur .mov [.tmp 3]⟩, ⟨some 9, none, .pur (.len false) [.tmp 8]⟩, ⟨some 10, none, .pur .mov [.const (.int .i64 0)]⟩]) [9, 10])
  (.block 0 (.loop S_tidy_ledOn_L1)))
  (.seq (.reg (straight [⟨some 27, none, .pur .mov [.tmp 3]⟩, ⟨some 2, none, .pur .mov [.tmp 27]⟩]) [2])
  (.ret))))⟩
theorem K_tidy_ledOn : compF Try.prog 62 = some S_tidy_ledOn := by kernel_rfl

-- 96
def S_tidy_ends : Fun := ⟨13, [2, 0], [.tmp 2],
  .seq (.reg (straight [⟨some 2, none, .pur .mov [.const (.bool false)]⟩]) [2])
  (.seq (.reg (straight [⟨some 3, none, .pur .mov [.tmp 0]⟩, ⟨some 4, none, .pur (.bin .eql) [.tmp 3, .const (.int .i64 0)]⟩, ⟨some 5, none, .pur .mov [.tmp 4]⟩, ⟨some 6, some (5, false), .pur .mov [.tmp 0]⟩, ⟨some 7, some (5, false), .pur (.bin .eql) [.tmp 6, .const (.int .i64 18)]⟩, ⟨some 8, none, .pur .pick [.tmp 5, .const (.bool true), .tmp 7]⟩, ⟨some 9, none, .pur .mov [.tmp 8]⟩, ⟨some 10, some (9, false), .pur .mov [.tmp 0]⟩, ⟨some 11, some (9, false), .pur (.bin .eql) [.tmp 10, .const (.int .i64 25)]⟩, ⟨some 12, none, .pur .pick [.tmp 9, .const (.bool true), .tmp 11]⟩, ⟨some 2, none, .pur .mov [.tmp 12]⟩]) [2])
  (.ret))⟩
theorem K_tidy_ends : compF Try.prog 96 = some S_tidy_ends := by kernel_rfl

-- 100
def S_tidy_leads_L1 : SCode :=
  .seq (.reg (straight [⟨some 10, none, .pur (.bin .lss) [.tmp 9, .tmp 8]⟩]) [10])
  (.seq (.cond (.tmp 10) (.skip) (.exit 0))
  (.seq (.block 1 (.seq (.seq (.reg (straight [⟨some 11, none, .pur .mov [.tmp 0]⟩, ⟨some 12, none, .pur .mov [.tmp 5]⟩, ⟨some 13, none, .pur (.ixa 4) [.tmp 11, .tmp 12]⟩, ⟨some 14, none, .pur (.fla 0) [.tmp 13]⟩, ⟨some 15, none, .ld none (.tmp 14)⟩, ⟨some 16, none, .pur (.bin .neq) [.tmp 15, .const (.int .i64 18)]⟩, ⟨some 17, none, .pur .mov [.tmp 16]⟩, ⟨some 18, some (17, false), .pur .mov [.tmp 0]⟩, ⟨some 19, some (17, false), .pur .mov [.tmp 5]⟩, ⟨some 20, some (17, false), .pur (.ixa 4) [.tmp 18, .tmp 19]⟩, ⟨some 21, some (17, false), .pur (.fla 1) [.tmp 20]⟩, ⟨some 22, some (17, false), .ld none (.tmp 21)⟩, ⟨some 23, some (17, false), .pur .mov [.tmp 5]⟩, ⟨some 24, some (17, false), .pur (.bin .eql) [.tmp 22, .tmp 23]⟩, ⟨some 25, none, .pur .pick [.tmp 17, .const (.bool true), .tmp 24]⟩]) [25])
  (.cond (.tmp 25) (.seq (.reg (straight [⟨some 26, none, .pur .mov [.tmp 5]⟩, ⟨some 4, none, .pur .mov [.tmp 26]⟩]) [4])
  (.ret)) (.skip)))
  (.reg (straight [⟨some 27, none, .pur .mov [.tmp 0]⟩, ⟨some 28, none, .pur .mov [.tmp 5]⟩, ⟨some 29, none, .pur (.ixa 4) [.tmp 27, .tmp 28]⟩, ⟨some 30, none, .pur (.fla 1) [.tmp 29]⟩, ⟨some 31, none, .ld none (.tmp 30)⟩, ⟨some 5, none, .pur .mov [.tmp 31]⟩]) [5])))
  (.reg (straight [⟨some 32, none, .pur (.bin .add) [.tmp 9, .const (.int .i64 1)]⟩, ⟨some 9, none, .pur .mov [.tmp 32]⟩]) [9])))
def S_tidy_leads : Fun := ⟨34, [4, 1, 0, 9, 8, 10, 5, 25], [.tmp 4],
  .seq (.reg (straight [⟨some 4, none, .pur .mov [.const (.int .i64 0)]⟩]) [4])
  (.seq (.reg (straight [⟨some 6, none, .pur .mov [.tmp 1]⟩, ⟨some 5, none, .pur .mov [.tmp 6]⟩]) [5])
  (.seq (.seq (.reg (straight [⟨some 7, none, .pur .mov [.tmp 0]⟩, ⟨some 8, none, .pur (.len false) [.tmp 7]⟩, ⟨some 9, none, .pur .mov [.const (.int .i64 0)]⟩]) [8, 9])
  (.block 0 (.loop S_tidy_leads_L1)))
  (.seq (.reg (straight [⟨some 33, none, .pur .mov [.tmp 1]⟩, ⟨some 4, none, .pur .mov [.tmp 33]⟩]) [4])
  (.ret))))⟩
theorem K_tidy_leads : compF Try.prog 100 = some S_tidy_leads := by kernel_rfl

end Go.Proofs.Ytncdnegdlkmicaa
