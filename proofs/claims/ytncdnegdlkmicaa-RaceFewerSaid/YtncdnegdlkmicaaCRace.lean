import Derived.Test.YtncdnegdlkmicaaKj
import Derived.Test.YtncdnegdlkmicaaProg
import Derived.KernelRfl
namespace Go.Proofs.Ytncdnegdlkmicaa
open Go Go.Kx Go.Proofs
set_option linter.unusedVariables false
set_option maxRecDepth 100000

-- 22
def S_forebaylaw32_Works : Fun := ⟨69, [0, 1, 7, 2, 3, 4, 5, 8, 9], [.tmp 0],
  .seq (.reg (straight [⟨some 0, none, .pur .mov [.const (.bool false)]⟩]) [0])
  (.seq (.reg (straight [⟨some 10, none, .eff (.bsl 3 1) [.const (.int .i64 0)]⟩, ⟨some 11, none, .eff (.bsl 3 1) [.const (.int .i64 0)]⟩, ⟨some 12, none, .eff (.bsl 25 1) [.const (.slice none 0 0), .tmp 10, .tmp 11]⟩, ⟨some 13, none, .pur (.bld [.int .i64 0, .int .i64 0, .bool false] [(0, 1), (1, 1), (2, 1)]) [.const (.int .i64 1), .const (.int .i64 4), .const (.bool true)]⟩, ⟨some 14, none, .pur (.bld [.int .i64 0, .int .i64 0, .bool false] [(0, 1), (1, 1)]) [.const (.int .i64 2), .const (.int .i64 4)]⟩, ⟨some 15, none, .eff (.bsl 71 3) [.tmp 13, .tmp 14]⟩, ⟨some 16, none, .pur (.bld [.slice none 0 0, .slice none 0 0, .slice none 0 0] [(0, 1), (2, 1)]) [.tmp 12, .tmp 15]⟩, ⟨some 1, none, .eff (.new 51 [.slice none 0 0, .slice none 0 0, .slice none 0 0]) []⟩, ⟨none, none, .eff (.st 3) [.tmp 1, .tmp 16]⟩]) [1])
  (.seq (.reg (straight [⟨some 18, none, .ld (some 3) (.tmp 1)⟩, ⟨some 19, none, .eff (.call 24) [.tmp 18]⟩, ⟨some 17, none, .pur .mov [.tmp 19]⟩, ⟨some 20, none, .pur (.ext 0) [.tmp 17]⟩, ⟨some 21, none, .pur (.ext 1) [.tmp 17]⟩, ⟨some 22, none, .pur (.ext 2) [.tmp 17]⟩, ⟨some 2, none, .eff (.new 64 [.int .i64 0, .int .i64 0, .int .i64 0]) []⟩, ⟨none, none, .eff (.st 3) [.tmp 2, .tmp 20]⟩, ⟨some 3, none, .pur .mov [.tmp 21]⟩, ⟨some 4, none, .pur .mov [.tmp 22]⟩]) [2, 3, 4])
  (.seq (.reg (straight [⟨some 24, none, .eff (.call 46) []⟩, ⟨some 25, none, .eff (.call 45) [.tmp 24, .const (.slice none 0 0), .const (.int .i64 99)]⟩, ⟨some 23, none, .pur .mov [.tmp 25]⟩, ⟨some 26, none, .pur (.ext 0) [.tmp 23]⟩, ⟨some 27, none, .pur (.ext 1) [.tmp 23]⟩, ⟨some 6, none, .eff (.new 30 [.int .i64 0, .int .i64 0, .slice none 0 0, .slice none 0 0, .int .i64 0, .int .i64 0, .int .i64 0]) []⟩, ⟨some 5, none, .pur .mov [.tmp 26]⟩, ⟨none, none, .eff (.st 7) [.tmp 6, .tmp 27]⟩]) [5])
  (.seq (.reg (straight [⟨some 28, none, .eff (.call 46) []⟩, ⟨some 7, none, .eff (.new 24 [.int .i64 0, .slice none 0 0]) []⟩, ⟨none, none, .eff (.st 2) [.tmp 7, .tmp 28]⟩]) [7])
  (.seq (.reg (.run ⟨some 29, none, .pur (.fla 1) [.tmp 7]⟩ (.run ⟨some 30, none, .ld none (.tmp 29)⟩ (.run ⟨some 31, none, .pur (.bld [.int .i64 0, .int .i64 0, .int .i64 0, .int .i64 0] [(0, 1), (1, 1)]) [.const (.int .i64 20), .const (.int .i64 1)]⟩ (.run ⟨some 32, none, .pur (.bld [.int .i64 0, .int .i64 0, .int .i64 0, .int .i64 0] [(0, 1)]) [.const (.int .i64 21)]⟩ (.run ⟨some 34, none, .pur (.fla 1) [.tmp 7]⟩ (.run ⟨some 35, none, .ld none (.tmp 34)⟩ (.run ⟨some 36, none, .pur (.ixa 1) [.tmp 35, .const (.int .i64 0)]⟩ (.run ⟨some 37, none, .ld none (.tmp 36)⟩ (.run ⟨some 38, none, .pur (.slc 4 true false) [.tmp 37, .const (.int .i64 1)]⟩ (.eff ⟨some 33, none, .eff (.bsl 78 4) [.tmp 31, .tmp 32]⟩ [⟨some 37, none, .ld none (.tmp 36)⟩, ⟨some 35, none, .ld none (.tmp 34)⟩, ⟨some 30, none, .ld none (.tmp 29)⟩] (.eff ⟨some 39, none, .eff (.app 78 4 32 [.int .i64 0, .int .i64 0, .int .i64 0, .int .i64 0]) [.tmp 33, .tmp 38]⟩ [⟨some 30, none, .ld none (.tmp 29)⟩] (.run ⟨some 40, none, .pur (.ixa 1) [.tmp 30, .const (.int .i64 0)]⟩ (.eff ⟨none, none, .eff (.st 1) [.tmp 40, .tmp 39]⟩ [] .done))))))))))))) [])
  (.seq (.reg (straight [⟨some 42, none, .ld (some 2) (.tmp 7)⟩, ⟨some 43, none, .eff (.call 45) [.tmp 42, .const (.slice none 0 0), .const (.int .i64 99)]⟩, ⟨some 41, none, .pur .mov [.tmp 43]⟩, ⟨some 44, none, .pur (.ext 0) [.tmp 41]⟩, ⟨some 45, none, .pur (.ext 1) [.tmp 41]⟩, ⟨some 9, none, .eff (.new 30 [.int .i64 0, .int .i64 0, .slice none 0 0, .slice none 0 0, .int .i64 0, .int .i64 0, .int .i64 0]) []⟩, ⟨some 8, none, .pur .mov [.tmp 44]⟩, ⟨none, none, .eff (.st 7) [.tmp 9, .tmp 45]⟩]) [9, 8])
  (.seq (.reg (straight [⟨some 46, none, .ld (some 3) (.tmp 2)⟩, ⟨some 47, none, .pur (.bld [.int .i64 0, .int .i64 0, .int .i64 0] [(0, 1), (1, 1), (2, 1)]) [.const (.int .i64 0), .const (.int .i64 1), .const (.int .i64 4)]⟩, ⟨some 48, none, .pur (.eqs false [.int .i64, .int .i64, .int .i64]) [.tmp 46, .tmp 47]⟩, ⟨some 49, none, .pur .mov [.tmp 48]⟩, ⟨some 50, some (49, true), .pur .mov [.tmp 3]⟩, ⟨some 51, none, .pur .pick [.tmp 49, .tmp 50, .const (.bool false)]⟩, ⟨some 52, none, .pur .mov [.tmp 51]⟩, ⟨some 53, some (52, true), .pur .mov [.tmp 4]⟩, ⟨some 54, some (52, true), .pur (.bin .eql) [.tmp 53, .const (.int .i64 0)]⟩, ⟨some 55, none, .pur .pick [.tmp 52, .tmp 54, .const (.bool false)]⟩, ⟨some 56, none, .pur .mov [.tmp 55]⟩, ⟨some 57, some (56, true), .pur .mov [.tmp 5]⟩, ⟨some 58, some (56, true), .pur (.bin .eql) [.tmp 57, .const (.int .i64 1)]⟩, ⟨some 59, none, .pur .pick [.tmp 56, .tmp 58, .const (.bool false)]⟩, ⟨some 60, none, .pur .mov [.tmp 59]⟩, ⟨some 61, some (60, true), .pur .mov [.tmp 8]⟩, ⟨some 62, some (60, true), .pur (.bin .eql) [.tmp 61, .const (.int .i64 0)]⟩, ⟨some 63, none, .pur .pick [.tmp 60, .tmp 62, .const (.bool false)]⟩, ⟨some 64, none, .pur .mov [.tmp 63]⟩, ⟨some 65, some (64, true), .pur (.fla 0) [.tmp 9]⟩, ⟨some 66, some (64, true), .ld none (.tmp 65)⟩, ⟨some 67, some (64, true), .pur (.bin .eql) [.tmp 66, .const (.int .i64 1)]⟩, ⟨some 68, none, .pur .pick [.tmp 64, .tmp 67, .const (.bool false)]⟩, ⟨some 0, none, .pur .mov [.tmp 68]⟩]) [0])
  (.ret))))))))⟩
theorem K_forebaylaw32_Works : compF Try.prog 22 = some S_forebaylaw32_Works := by kernel_rfl

-- 23
def S_forebaylaw32_great_L1 : SCode :=
  .seq (.seq (.reg (straight [⟨some 14, none, .pur .mov [.tmp 5]⟩, ⟨some 15, none, .pur .mov [.tmp 0]⟩, ⟨some 16, none, .pur (.len false) [.tmp 15]⟩, ⟨some 17, none, .pur (.bin .lss) [.tmp 14, .tmp 16]⟩]) [17])
  (.cond (.tmp 17) (.skip) (.exit 0)))
  (.seq (.block 1 (.seq (.reg (straight [⟨some 20, none, .pur .mov [.tmp 0]⟩, ⟨some 21, none, .pur .mov [.tmp 5]⟩, ⟨some 22, none, .pur (.ixa 1) [.tmp 20, .tmp 21]⟩, ⟨some 23, none, .ld none (.tmp 22)⟩, ⟨some 24, none, .pur (.len false) [.tmp 23]⟩, ⟨some 25, none, .pur (.bin .gtr) [.tmp 24, .const (.int .i64 60)]⟩]) [25])
  (.cond (.tmp 25) (.seq (.reg (straight [⟨some 4, none, .pur .mov [.const (.bool true)]⟩]) [4])
  (.ret)) (.skip))))
  (.reg (straight [⟨some 18, none, .pur .mov [.tmp 5]⟩, ⟨some 19, none, .pur (.bin .add) [.tmp 18, .const (.int .i64 1)]⟩, ⟨some 5, none, .pur .mov [.tmp 19]⟩]) [5]))
def S_forebaylaw32_great : Fun := ⟨26, [4, 1, 0, 13, 5, 17, 25], [.tmp 4],
  .seq (.reg (straight [⟨some 4, none, .pur .mov [.const (.bool false)]⟩]) [4])
  (.seq (.seq (.reg (straight [⟨some 6, none, .pur .mov [.tmp 1]⟩, ⟨some 7, none, .pur (.len false) [.tmp 6]⟩, ⟨some 8, none, .pur (.bin .gtr) [.tmp 7, .const (.int .i64 150)]⟩, ⟨some 9, none, .pur .mov [.tmp 8]⟩, ⟨some 10, some (9, false), .pur .mov [.tmp 0]⟩, ⟨some 11, some (9, false), .pur (.len false) [.tmp 10]⟩, ⟨some 12, some (9, false), .pur (.bin .gtr) [.tmp 11, .const (.int .i64 200)]⟩, ⟨some 13, none, .pur .pick [.tmp 9, .const (.bool true), .tmp 12]⟩]) [13])
  (.cond (.tmp 13) (.seq (.reg (straight [⟨some 4, none, .pur .mov [.const (.bool true)]⟩]) [4])
  (.ret)) (.skip)))
  (.seq (.seq (.reg (straight [⟨some 5, none, .pur .mov [.const (.int .i64 0)]⟩]) [5])
  (.block 0 (.loop S_forebaylaw32_great_L1)))
  (.seq (.reg (straight [⟨some 4, none, .pur .mov [.const (.bool false)]⟩]) [4])
  (.ret))))⟩
theorem K_forebaylaw32_great : compF Try.prog 23 = some S_forebaylaw32_great := by kernel_rfl

-- 24
def S_race_Find_L1 : SCode :=
  .seq (.reg (straight [⟨some 29, none, .pur (.bin .lss) [.tmp 28, .tmp 27]⟩]) [29])
  (.seq (.cond (.tmp 29) (.skip) (.exit 0))
  (.seq (.block 1 (.seq (.reg (straight [⟨some 30, none, .pur (.ixa 3) [.tmp 26, .tmp 28]⟩, ⟨some 31, none, .ld (some 3) (.tmp 30)⟩, ⟨some 8, none, .eff (.new 71 [.int .i64 0, .int .i64 0, .bool false]) []⟩, ⟨none, none, .eff (.st 3) [.tmp 8, .tmp 31]⟩]) [8])
  (.seq (.reg (.run ⟨some 32, none, .pur (.fla 0) [.tmp 8]⟩ (.run ⟨some 33, none, .ld none (.tmp 32)⟩ (.run ⟨some 34, none, .pur (.bin .lss) [.tmp 33, .const (.int .i64 0)]⟩ (.run ⟨some 35, none, .pur .mov [.tmp 34]⟩ (.run ⟨some 36, some (35, false), .pur (.fla 0) [.tmp 8]⟩ (.run ⟨some 37, some (35, false), .ld none (.tmp 36)⟩ (.run ⟨some 38, some (35, false), .pur .mov [.tmp 5]⟩ (.eff ⟨some 39, some (35, false), .eff (.call 48) [.tmp 38]⟩ [⟨some 37, some (35, false), .ld none (.tmp 36)⟩] (.run ⟨some 40, some (35, false), .pur (.bin .geq) [.tmp 37, .tmp 39]⟩ (.run ⟨some 41, none, .pur .pick [.tmp 35, .const (.bool true), .tmp 40]⟩ .done)))))))))) [41])
  (.cond (.tmp 41) (.seq (.reg (straight [⟨some 42, none, .pur (.bld [.int .i64 0, .int .i64 0, .int .i64 0] []) []⟩, ⟨none, none, .eff (.st 3) [.tmp 2, .tmp 42]⟩, ⟨some 3, none, .pur .mov [.const (.bool false)]⟩, ⟨some 4, none, .pur .mov [.const (.int .i64 3)]⟩]) [3, 4])
  (.ret)) (.skip)))))
  (.reg (straight [⟨some 43, none, .pur (.bin .add) [.tmp 28, .const (.int .i64 1)]⟩, ⟨some 28, none, .pur .mov [.tmp 43]⟩]) [28])))
def S_race_Find_L3 : SCode :=
  .seq (.reg (straight [⟨some 59, none, .pur (.bin .lss) [.tmp 58, .tmp 57]⟩]) [59])
  (.seq (.cond (.tmp 59) (.skip) (.exit 4))
  (.seq (.block 5 (.seq (.reg (straight [⟨some 60, none, .pur (.ixa 1) [.tmp 56, .tmp 58]⟩, ⟨some 61, none, .ld none (.tmp 60)⟩, ⟨some 13, none, .pur .mov [.tmp 61]⟩]) [13])
  (.seq (.reg (straight [⟨some 62, none, .pur (.fla 2) [.tmp 1]⟩, ⟨some 63, none, .ld none (.tmp 62)⟩, ⟨some 64, none, .pur .mov [.tmp 13]⟩, ⟨some 65, none, .pur (.ixa 3) [.tmp 63, .tmp 64]⟩, ⟨some 66, none, .ld (some 3) (.tmp 65)⟩, ⟨some 14, none, .eff (.new 71 [.int .i64 0, .int .i64 0, .bool false]) []⟩, ⟨none, none, .eff (.st 3) [.tmp 14, .tmp 66]⟩]) [14])
  (.seq (.reg (straight [⟨some 67, none, .pur (.fla 2) [.tmp 14]⟩, ⟨some 68, none, .ld none (.tmp 67)⟩, ⟨some 69, none, .pur .mov [.tmp 68]⟩, ⟨some 70, some (69, false), .pur (.fla 2) [.tmp 11]⟩, ⟨some 71, some (69, false), .ld none (.tmp 70)⟩, ⟨some 72, none, .pur .pick [.tmp 69, .const (.bool true), .tmp 71]⟩, ⟨some 73, none, .pur .mov [.tmp 72]⟩, ⟨some 74, some (73, true), .pur .mov [.tmp 5]⟩, ⟨some 75, some (73, true), .pur (.fla 0) [.tmp 14]⟩, ⟨some 76, some (73, true), .ld none (.tmp 75)⟩, ⟨some 77, some (73, true), .pur (.fla 0) [.tmp 11]⟩, ⟨some 78, some (73, true), .ld none (.tmp 77)⟩, ⟨some 79, some (73, true), .eff (.call 49) [.tmp 74, .tmp 76, .tmp 78]⟩, ⟨some 80, none, .pur .pick [.tmp 73, .tmp 79, .const (.bool false)]⟩]) [80])
  (.cond (.tmp 80) (.seq (.reg (straight [⟨some 81, none, .pur .mov [.tmp 13]⟩, ⟨some 82, none, .pur .mov [.tmp 10]⟩, ⟨some 83, none, .pur (.fla 1) [.tmp 11]⟩, ⟨some 84, none, .ld none (.tmp 83)⟩, ⟨some 85, none, .pur (.bld [.int .i64 0, .int .i64 0, .int .i64 0] [(0, 1), (1, 1), (2, 1)]) [.tmp 81, .tmp 82, .tmp 84]⟩, ⟨none, none, .eff (.st 3) [.tmp 2, .tmp 85]⟩, ⟨some 3, none, .pur .mov [.const (.bool true)]⟩, ⟨some 4, none, .pur .mov [.const (.int .i64 0)]⟩]) [3, 4])
  (.ret)) (.skip))))))
  (.reg (straight [⟨some 86, none, .pur (.bin .add) [.tmp 58, .const (.int .i64 1)]⟩, ⟨some 58, none, .pur .mov [.tmp 86]⟩]) [58])))
def S_race_Find_L2 : SCode :=
  .seq (.reg (straight [⟨some 49, none, .pur (.bin .lss) [.tmp 48, .tmp 47]⟩]) [49])
  (.seq (.cond (.tmp 49) (.skip) (.exit 2))
  (.seq (.block 3 (.seq (.reg (straight [⟨some 50, none, .pur .mov [.tmp 48]⟩, ⟨some 51, none, .pur (.ixa 3) [.tmp 46, .tmp 48]⟩, ⟨some 52, none, .ld (some 3) (.tmp 51)⟩, ⟨some 11, none, .eff (.new 71 [.int .i64 0, .int .i64 0, .bool false]) []⟩, ⟨some 10, none, .pur .mov [.tmp 50]⟩, ⟨none, none, .eff (.st 3) [.tmp 11, .tmp 52]⟩]) [11, 10])
  (.seq (.seq (.reg (straight [⟨some 53, none, .pur .mov [.tmp 9]⟩, ⟨some 54, none, .pur (.fla 1) [.tmp 11]⟩, ⟨some 55, none, .ld none (.tmp 54)⟩, ⟨some 56, none, .eff (.mlk (.int .i64) (.slice none 0 0)) [.tmp 53, .tmp 55]⟩, ⟨some 57, none, .pur (.len false) [.tmp 56]⟩, ⟨some 58, none, .pur .mov [.const (.int .i64 0)]⟩]) [56, 57, 58])
  (.block 4 (.loop S_race_Find_L3)))
  (.reg (.run ⟨some 87, none, .pur .mov [.tmp 9]⟩ (.run ⟨some 88, none, .pur (.fla 1) [.tmp 11]⟩ (.run ⟨some 89, none, .ld none (.tmp 88)⟩ (.run ⟨some 90, none, .pur .mov [.tmp 9]⟩ (.run ⟨some 91, none, .pur (.fla 1) [.tmp 11]⟩ (.run ⟨some 92, none, .ld none (.tmp 91)⟩ (.run ⟨some 94, none, .pur .mov [.tmp 10]⟩ (.both (.eff ⟨some 93, none, .eff (.mlk (.int .i64) (.slice none 0 0)) [.tmp 90, .tmp 92]⟩ [⟨some 89, none, .ld none (.tmp 88)⟩] (.eff ⟨some 95, none, .eff (.bsl 3 1) [.tmp 94]⟩ [⟨some 89, none, .ld none (.tmp 88)⟩] (.eff ⟨some 96, none, .eff (.app 3 1 8 [.int .i64 0]) [.tmp 93, .tmp 95]⟩ [⟨some 89, none, .ld none (.tmp 88)⟩] (.eff ⟨none, none, .eff (.mup (.int .i64)) [.tmp 87, .tmp 89, .tmp 96]⟩ [] .done)))) (.eff ⟨some 95, none, .eff (.bsl 3 1) [.tmp 94]⟩ [⟨some 92, none, .ld none (.tmp 91)⟩, ⟨some 89, none, .ld none (.tmp 88)⟩] (.eff ⟨some 93, none, .eff (.mlk (.int .i64) (.slice none 0 0)) [.tmp 90, .tmp 92]⟩ [⟨some 89, none, .ld none (.tmp 88)⟩] (.eff ⟨some 96, none, .eff (.app 3 1 8 [.int .i64 0]) [.tmp 93, .tmp 95]⟩ [⟨some 89, none, .ld none (.tmp 88)⟩] (.eff ⟨none, none, .eff (.mup (.int .i64)) [.tmp 87, .tmp 89, .tmp 96]⟩ [] .done)))))))))))) []))))
  (.reg (straight [⟨some 97, none, .pur (.bin .add) [.tmp 48, .const (.int .i64 1)]⟩, ⟨some 48, none, .pur .mov [.tmp 97]⟩]) [48])))
def S_race_Find : Fun := ⟨99, [2, 3, 4, 0, 1, 6, 22, 28, 27, 29, 26, 8, 5, 41, 48, 47, 49, 46, 9, 11, 58, 57, 59, 56, 13, 14, 80, 10], [.cell 2 (some 3), .tmp 3, .tmp 4],
  .seq (.reg (straight [⟨some 1, none, .eff (.box 51) [.tmp 0]⟩, ⟨some 2, none, .eff (.new 64 [.int .i64 0, .int .i64 0, .int .i64 0]) []⟩, ⟨some 3, none, .pur .mov [.const (.bool false)]⟩, ⟨some 4, none, .pur .mov [.const (.int .i64 0)]⟩]) [1, 2, 3, 4])
  (.seq (.reg (straight [⟨some 16, none, .pur (.fla 0) [.tmp 1]⟩, ⟨some 17, none, .ld none (.tmp 16)⟩, ⟨some 18, none, .eff (.call 47) [.tmp 17]⟩, ⟨some 15, none, .pur .mov [.tmp 18]⟩, ⟨some 19, none, .pur (.ext 0) [.tmp 15]⟩, ⟨some 20, none, .pur (.ext 1) [.tmp 15]⟩, ⟨some 5, none, .pur .mov [.tmp 19]⟩, ⟨some 6, none, .pur .mov [.tmp 20]⟩]) [5, 6])
  (.seq (.seq (.reg (straight [⟨some 21, none, .pur .mov [.tmp 6]⟩, ⟨some 22, none, .pur (.bin .neq) [.tmp 21, .const (.int .i64 0)]⟩]) [22])
  (.cond (.tmp 22) (.seq (.reg (straight [⟨some 23, none, .pur (.bld [.int .i64 0, .int .i64 0, .int .i64 0] []) []⟩, ⟨some 24, none, .pur .mov [.tmp 6]⟩, ⟨none, none, .eff (.st 3) [.tmp 2, .tmp 23]⟩, ⟨some 3, none, .pur .mov [.const (.bool false)]⟩, ⟨some 4, none, .pur .mov [.tmp 24]⟩]) [3, 4])
  (.ret)) (.skip)))
  (.seq (.seq (.reg (straight [⟨some 25, none, .pur (.fla 2) [.tmp 1]⟩, ⟨some 26, none, .ld none (.tmp 25)⟩, ⟨some 27, none, .pur (.len false) [.tmp 26]⟩, ⟨some 28, none, .pur .mov [.const (.int .i64 0)]⟩]) [26, 27, 28])
  (.block 0 (.loop S_race_Find_L1)))
  (.seq (.reg (straight [⟨some 44, none, .eff .mkm []⟩, ⟨some 9, none, .pur .mov [.tmp 44]⟩]) [9])
  (.seq (.seq (.reg (straight [⟨some 45, none, .pur (.fla 2) [.tmp 1]⟩, ⟨some 46, none, .ld none (.tmp 45)⟩, ⟨some 47, none, .pur (.len false) [.tmp 46]⟩, ⟨some 48, none, .pur .mov [.const (.int .i64 0)]⟩]) [46, 47, 48])
  (.block 2 (.loop S_race_Find_L2)))
  (.seq (.reg (straight [⟨some 98, none, .pur (.bld [.int .i64 0, .int .i64 0, .int .i64 0] []) []⟩, ⟨none, none, .eff (.st 3) [.tmp 2, .tmp 98]⟩, ⟨some 3, none, .pur .mov [.const (.bool false)]⟩, ⟨some 4, none, .pur .mov [.const (.int .i64 0)]⟩]) [3, 4])
  (.ret)))))))⟩
theorem K_race_Find : compF Try.prog 24 = some S_race_Find := by kernel_rfl

-- 25
def S_forebaylaw32_dag_L1 : SCode :=
  .seq (.seq (.reg (straight [⟨some 11, none, .pur .mov [.tmp 6]⟩, ⟨some 12, none, .pur .mov [.tmp 0]⟩, ⟨some 13, none, .pur (.len false) [.tmp 12]⟩, ⟨some 14, none, .pur (.bin .lss) [.tmp 11, .tmp 13]⟩]) [14])
  (.cond (.tmp 14) (.skip) (.exit 0)))
  (.seq (.block 1 (.reg (.run ⟨some 17, none, .pur (.fla 0) [.tmp 5]⟩ (.run ⟨some 18, none, .ld none (.tmp 17)⟩ (.run ⟨some 20, none, .pur .mov [.tmp 0]⟩ (.run ⟨some 21, none, .pur .mov [.tmp 6]⟩ (.run ⟨some 22, none, .pur (.ixa 1) [.tmp 20, .tmp 21]⟩ (.run ⟨some 23, none, .ld none (.tmp 22)⟩ (.eff ⟨some 19, none, .eff (.bsl 3 1) []⟩ [⟨some 23, none, .ld none (.tmp 22)⟩, ⟨some 18, none, .ld none (.tmp 17)⟩] (.eff ⟨some 24, none, .eff (.app 3 1 8 [.int .i64 0]) [.tmp 19, .tmp 23]⟩ [⟨some 18, none, .ld none (.tmp 17)⟩] (.eff ⟨some 25, none, .eff (.bsl 25 1) [.tmp 24]⟩ [⟨some 18, none, .ld none (.tmp 17)⟩] (.eff ⟨some 26, none, .eff (.app 25 1 24 [.slice none 0 0]) [.tmp 18, .tmp 25]⟩ [] (.run ⟨some 27, none, .pur (.fla 0) [.tmp 5]⟩ (.eff ⟨none, none, .eff (.st 1) [.tmp 27, .tmp 26]⟩ [] .done)))))))))))) []))
  (.reg (straight [⟨some 15, none, .pur .mov [.tmp 6]⟩, ⟨some 16, none, .pur (.bin .add) [.tmp 15, .const (.int .i64 1)]⟩, ⟨some 6, none, .pur .mov [.tmp 16]⟩]) [6]))
def S_forebaylaw32_dag : Fun := ⟨29, [4, 1, 6, 0, 14, 5], [.cell 4 (some 3)],
  .seq (.reg (straight [⟨some 4, none, .eff (.new 51 [.slice none 0 0, .slice none 0 0, .slice none 0 0]) []⟩]) [4])
  (.seq (.reg (straight [⟨some 7, none, .eff (.bsl 71 3) []⟩, ⟨some 8, none, .pur .mov [.tmp 1]⟩, ⟨some 9, none, .eff (.app 71 3 24 [.int .i64 0, .int .i64 0, .bool false]) [.tmp 7, .tmp 8]⟩, ⟨some 10, none, .pur (.bld [.slice none 0 0, .slice none 0 0, .slice none 0 0] [(2, 1)]) [.tmp 9]⟩, ⟨some 5, none, .eff (.new 51 [.slice none 0 0, .slice none 0 0, .slice none 0 0]) []⟩, ⟨none, none, .eff (.st 3) [.tmp 5, .tmp 10]⟩]) [5])
  (.seq (.seq (.reg (straight [⟨some 6, none, .pur .mov [.const (.int .i64 0)]⟩]) [6])
  (.block 0 (.loop S_forebaylaw32_dag_L1)))
  (.seq (.reg (straight [⟨some 28, none, .ld (some 3) (.tmp 5)⟩, ⟨none, none, .eff (.st 3) [.tmp 4, .tmp 28]⟩]) [])
  (.ret))))⟩
theorem K_forebaylaw32_dag : compF Try.prog 25 = some S_forebaylaw32_dag := by kernel_rfl

-- 45
def S_race_Judge : Fun := ⟨37, [6, 7, 0, 3, 1, 2, 9, 17, 8, 21, 26], [.tmp 6, .cell 7 (some 7)],
  .seq (.reg (straight [⟨some 3, none, .eff (.box 24) [.tmp 0]⟩, ⟨some 6, none, .pur .mov [.const (.int .i64 0)]⟩, ⟨some 7, none, .eff (.new 30 [.int .i64 0, .int .i64 0, .slice none 0 0, .slice none 0 0, .int .i64 0, .int .i64 0, .int .i64 0]) []⟩]) [3, 6, 7])
  (.seq (.reg (straight [⟨some 11, none, .ld (some 2) (.tmp 3)⟩, ⟨some 12, none, .pur .mov [.tmp 1]⟩, ⟨some 13, none, .pur .mov [.tmp 2]⟩, ⟨some 14, none, .eff (.call 11) [.tmp 11, .tmp 12, .tmp 13]⟩, ⟨some 10, none, .pur .mov [.tmp 14]⟩, ⟨some 15, none, .pur (.ext 0) [.tmp 10]⟩, ⟨some 16, none, .pur (.ext 1) [.tmp 10]⟩, ⟨some 8, none, .eff (.new 30 [.int .i64 0, .int .i64 0, .slice none 0 0, .slice none 0 0, .int .i64 0, .int .i64 0, .int .i64 0]) []⟩, ⟨none, none, .eff (.st 7) [.tmp 8, .tmp 15]⟩, ⟨some 9, none, .pur .mov [.tmp 16]⟩]) [8, 9])
  (.seq (.block 0 (.seq (.reg (straight [⟨some 18, none, .pur .mov [.tmp 9]⟩, ⟨some 19, none, .pur (.bin .neq) [.tmp 18, .const (.int .i64 0)]⟩, ⟨some 17, none, .pur .mov [.tmp 19]⟩]) [17])
  (.cond (.tmp 17) (.seq (.reg (.run ⟨some 20, none, .ld (some 7) (.tmp 8)⟩ (.run ⟨some 6, none, .pur .mov [.const (.int .i64 4)]⟩ (.eff ⟨none, none, .eff (.st 7) [.tmp 7, .tmp 20]⟩ [] .done))) [6])
  (.ret)) (.seq (.reg (straight [⟨some 22, none, .pur (.fla 0) [.tmp 8]⟩, ⟨some 23, none, .ld none (.tmp 22)⟩, ⟨some 24, none, .pur (.bin .eql) [.tmp 23, .const (.int .i64 4)]⟩, ⟨some 21, none, .pur .mov [.tmp 24]⟩]) [21])
  (.cond (.tmp 21) (.seq (.reg (.run ⟨some 25, none, .ld (some 7) (.tmp 8)⟩ (.run ⟨some 6, none, .pur .mov [.const (.int .i64 2)]⟩ (.eff ⟨none, none, .eff (.st 7) [.tmp 7, .tmp 25]⟩ [] .done))) [6])
  (.ret)) (.seq (.reg (straight [⟨some 27, none, .pur (.fla 0) [.tmp 8]⟩, ⟨some 28, none, .ld none (.tmp 27)⟩, ⟨some 29, none, .pur (.bin .neq) [.tmp 28, .const (.int .i64 1)]⟩, ⟨some 26, none, .pur .mov [.tmp 29]⟩]) [26])
  (.cond (.tmp 26) (.seq (.reg (.run ⟨some 30, none, .ld (some 7) (.tmp 8)⟩ (.run ⟨some 6, none, .pur .mov [.const (.int .i64 3)]⟩ (.eff ⟨none, none, .eff (.st 7) [.tmp 7, .tmp 30]⟩ [] .done))) [6])
  (.ret)) (.skip))))))))
  (.seq (.reg (.run ⟨some 31, none, .ld (some 2) (.tmp 3)⟩ (.run ⟨some 32, none, .pur .mov [.tmp 1]⟩ (.run ⟨some 33, none, .pur .mov [.tmp 2]⟩ (.run ⟨some 36, none, .ld (some 7) (.tmp 8)⟩ (.eff ⟨some 34, none, .eff (.call 13) [.tmp 31, .tmp 32, .tmp 33]⟩ [⟨some 36, none, .ld (some 7) (.tmp 8)⟩] (.eff ⟨some 35, none, .eff (.call 80) [.tmp 34]⟩ [⟨some 36, none, .ld (some 7) (.tmp 8)⟩] (.run ⟨some 6, none, .pur .mov [.tmp 35]⟩ (.eff ⟨none, none, .eff (.st 7) [.tmp 7, .tmp 36]⟩ [] .done)))))))) [6])
  (.ret))))⟩
theorem K_race_Judge : compF Try.prog 45 = some S_race_Judge := by kernel_rfl

-- 46
def S_forebaylaw32_both : Fun := ⟨10, [0], [.cell 0 (some 2)],
  .seq (.reg (straight [⟨some 0, none, .eff (.new 24 [.int .i64 0, .slice none 0 0]) []⟩]) [0])
  (.seq (.reg (straight [⟨some 1, none, .pur (.bld [.int .i64 0, .int .i64 0, .int .i64 0, .int .i64 0] [(0, 1), (1, 1)]) [.const (.int .i64 20), .const (.int .i64 1)]⟩, ⟨some 2, none, .pur (.bld [.int .i64 0, .int .i64 0, .int .i64 0, .int .i64 0] [(0, 1), (1, 1)]) [.const (.int .i64 20), .const (.int .i64 1)]⟩, ⟨some 3, none, .pur (.bld [.int .i64 0, .int .i64 0, .int .i64 0, .int .i64 0] [(0, 1)]) [.const (.int .i64 0)]⟩, ⟨some 4, none, .eff (.bsl 78 4) [.tmp 1, .tmp 2, .tmp 3]⟩, ⟨some 5, none, .pur (.bld [.int .i64 0, .int .i64 0, .int .i64 0, .int .i64 0] [(0, 1), (1, 1), (2, 1)]) [.const (.int .i64 14), .const (.int .i64 1), .const (.int .i64 1)]⟩, ⟨some 6, none, .pur (.bld [.int .i64 0, .int .i64 0, .int .i64 0, .int .i64 0] [(0, 1)]) [.const (.int .i64 0)]⟩, ⟨some 7, none, .eff (.bsl 78 4) [.tmp 5, .tmp 6]⟩, ⟨some 8, none, .eff (.bsl 79 1) [.tmp 4, .tmp 7]⟩, ⟨some 9, none, .pur (.bld [.int .i64 0, .slice none 0 0] [(0, 1), (1, 1)]) [.const (.int .i64 1), .tmp 8]⟩, ⟨none, none, .eff (.st 2) [.tmp 0, .tmp 9]⟩]) [])
  (.ret))⟩
theorem K_forebaylaw32_both : compF Try.prog 46 = some S_forebaylaw32_both := by kernel_rfl

-- 80
def S_race_clean : Fun := ⟨28, [2, 0, 4, 3, 20, 6, 27], [.tmp 2],
  .seq (.reg (straight [⟨some 2, none, .pur .mov [.const (.int .i64 0)]⟩]) [2])
  (.seq (.reg (straight [⟨some 9, none, .pur .mov [.tmp 0]⟩, ⟨some 10, none, .eff (.call 19) [.tmp 9]⟩, ⟨some 8, none, .pur .mov [.tmp 10]⟩, ⟨some 11, none, .pur (.ext 0) [.tmp 8]⟩, ⟨some 12, none, .pur (.ext 1) [.tmp 8]⟩, ⟨some 3, none, .eff (.new 51 [.slice none 0 0, .slice none 0 0, .slice none 0 0]) []⟩, ⟨none, none, .eff (.st 3) [.tmp 3, .tmp 11]⟩, ⟨some 4, none, .pur .mov [.tmp 12]⟩]) [3, 4])
  (.seq (.seq (.reg (straight [⟨some 13, none, .pur .mov [.tmp 4]⟩, ⟨some 14, none, .pur (.bin .neq) [.tmp 13, .const (.int .i64 0)]⟩, ⟨some 15, none, .pur .mov [.tmp 14]⟩, ⟨some 16, some (15, false), .pur (.fla 2) [.tmp 3]⟩, ⟨some 17, some (15, false), .ld none (.tmp 16)⟩, ⟨some 18, some (15, false), .pur (.len false) [.tmp 17]⟩, ⟨some 19, some (15, false), .pur (.bin .gtr) [.tmp 18, .const (.int .i64 3000)]⟩, ⟨some 20, none, .pur .pick [.tmp 15, .const (.bool true), .tmp 19]⟩]) [20])
  (.cond (.tmp 20) (.seq (.reg (straight [⟨some 2, none, .pur .mov [.const (.int .i64 5)]⟩]) [2])
  (.ret)) (.skip)))
  (.seq (.seq (.reg (straight [⟨some 22, none, .ld (some 3) (.tmp 3)⟩, ⟨some 23, none, .eff (.call 24) [.tmp 22]⟩, ⟨some 21, none, .pur .mov [.tmp 23]⟩, ⟨some 24, none, .pur (.ext 0) [.tmp 21]⟩, ⟨some 25, none, .pur (.ext 1) [.tmp 21]⟩, ⟨some 26, none, .pur (.ext 2) [.tmp 21]⟩, ⟨some 5, none, .eff (.new 64 [.int .i64 0, .int .i64 0, .int .i64 0]) []⟩, ⟨none, none, .eff (.st 3) [.tmp 5, .tmp 24]⟩, ⟨some 6, none, .pur .mov [.tmp 25]⟩, ⟨some 7, none, .pur .mov [.tmp 26]⟩]) [6])
  (.seq (.reg (straight [⟨some 27, none, .pur .mov [.tmp 6]⟩]) [27])
  (.cond (.tmp 27) (.seq (.reg (straight [⟨some 2, none, .pur .mov [.const (.int .i64 1)]⟩]) [2])
  (.ret)) (.skip))))
  (.seq (.reg (straight [⟨some 2, none, .pur .mov [.const (.int .i64 0)]⟩]) [2])
  (.ret)))))⟩
theorem K_race_clean : compF Try.prog 80 = some S_race_clean := by kernel_rfl

end Go.Proofs.Ytncdnegdlkmicaa
