import Derived.Test.YtilofhocodbknaaKj
import Derived.Test.YtilofhocodbknaaProg
import Derived.KernelRfl
namespace Go.Proofs.Ytilofhocodbknaa
open Go Go.Kx Go.Proofs
set_option maxRecDepth 100000

-- 17
def S_forebaylaw30_StrandAhead_L2 : SCode :=
  .seq (.seq (.reg (straight [⟨some 50, none, .pur .mov [.tmp 6]⟩, ⟨some 51, none, .pur (.fla 0) [.tmp 3]⟩, ⟨some 52, none, .ld none (.tmp 51)⟩, ⟨some 53, none, .pur .mov [.tmp 5]⟩, ⟨some 54, none, .pur (.ixa 1) [.tmp 52, .tmp 53]⟩, ⟨some 55, none, .ld none (.tmp 54)⟩, ⟨some 56, none, .pur (.len false) [.tmp 55]⟩, ⟨some 57, none, .pur (.bin .lss) [.tmp 50, .tmp 56]⟩]) [57])
  (.cond (.tmp 57) (.skip) (.exit 2)))
  (.seq (.block 3 (.seq (.reg (straight [⟨some 60, none, .pur (.fla 0) [.tmp 3]⟩, ⟨some 61, none, .ld none (.tmp 60)⟩, ⟨some 62, none, .pur .mov [.tmp 5]⟩, ⟨some 63, none, .pur (.ixa 1) [.tmp 61, .tmp 62]⟩, ⟨some 64, none, .ld none (.tmp 63)⟩, ⟨some 65, none, .pur .mov [.tmp 6]⟩, ⟨some 66, none, .pur (.ixa 1) [.tmp 64, .tmp 65]⟩, ⟨some 67, none, .ld none (.tmp 66)⟩, ⟨some 68, none, .pur (.bin .lss) [.tmp 67, .const (.int .i64 0)]⟩, ⟨some 69, none, .pur .mov [.tmp 68]⟩, ⟨some 70, some (69, false), .pur (.fla 0) [.tmp 3]⟩, ⟨some 71, some (69, false), .ld none (.tmp 70)⟩, ⟨some 72, some (69, false), .pur .mov [.tmp 5]⟩, ⟨some 73, some (69, false), .pur (.ixa 1) [.tmp 71, .tmp 72]⟩, ⟨some 74, some (69, false), .ld none (.tmp 73)⟩, ⟨some 75, some (69, false), .pur .mov [.tmp 6]⟩, ⟨some 76, some (69, false), .pur (.ixa 1) [.tmp 74, .tmp 75]⟩, ⟨some 77, some (69, false), .ld none (.tmp 76)⟩, ⟨some 78, some (69, false), .pur .mov [.tmp 5]⟩, ⟨some 79, some (69, false), .pur (.bin .geq) [.tmp 77, .tmp 78]⟩, ⟨some 80, none, .pur .pick [.tmp 69, .const (.bool true), .tmp 79]⟩]) [80])
  (.cond (.tmp 80) (.seq (.reg (straight [⟨some 2, none, .pur .mov [.const (.bool false)]⟩]) [2])
  (.ret)) (.skip))))
  (.reg (straight [⟨some 58, none, .pur .mov [.tmp 6]⟩, ⟨some 59, none, .pur (.bin .add) [.tmp 58, .const (.int .i64 1)]⟩, ⟨some 6, none, .pur .mov [.tmp 59]⟩]) [6]))
def S_forebaylaw30_StrandAhead_L1 : SCode :=
  .seq (.seq (.reg (straight [⟨some 33, none, .pur .mov [.tmp 5]⟩, ⟨some 34, none, .pur (.fla 0) [.tmp 3]⟩, ⟨some 35, none, .ld none (.tmp 34)⟩, ⟨some 36, none, .pur (.len false) [.tmp 35]⟩, ⟨some 37, none, .pur (.bin .lss) [.tmp 33, .tmp 36]⟩]) [37])
  (.cond (.tmp 37) (.skip) (.exit 0)))
  (.seq (.block 1 (.seq (.seq (.reg (straight [⟨some 40, none, .pur (.fla 0) [.tmp 3]⟩, ⟨some 41, none, .ld none (.tmp 40)⟩, ⟨some 42, none, .pur .mov [.tmp 5]⟩, ⟨some 43, none, .pur (.ixa 1) [.tmp 41, .tmp 42]⟩, ⟨some 44, none, .ld none (.tmp 43)⟩, ⟨some 45, none, .pur (.len false) [.tmp 44]⟩, ⟨some 46, none, .pur (.bin .eql) [.tmp 45, .const (.int .i64 0)]⟩, ⟨some 47, none, .pur .mov [.tmp 5]⟩, ⟨some 48, none, .pur (.bin .eql) [.tmp 47, .const (.int .i64 0)]⟩, ⟨some 49, none, .pur (.eqb true) [.tmp 46, .tmp 48]⟩]) [49])
  (.cond (.tmp 49) (.seq (.reg (straight [⟨some 2, none, .pur .mov [.const (.bool false)]⟩]) [2])
  (.ret)) (.skip)))
  (.seq (.reg (straight [⟨some 6, none, .pur .mov [.const (.int .i64 0)]⟩]) [6])
  (.block 2 (.loop S_forebaylaw30_StrandAhead_L2)))))
  (.reg (straight [⟨some 38, none, .pur .mov [.tmp 5]⟩, ⟨some 39, none, .pur (.bin .add) [.tmp 38, .const (.int .i64 1)]⟩, ⟨some 5, none, .pur .mov [.tmp 39]⟩]) [5]))
def S_forebaylaw30_StrandAhead_L3 : SCode :=
  .seq (.seq (.reg (straight [⟨some 81, none, .pur .mov [.tmp 7]⟩, ⟨some 82, none, .pur (.fla 2) [.tmp 3]⟩, ⟨some 83, none, .ld none (.tmp 82)⟩, ⟨some 84, none, .pur (.len false) [.tmp 83]⟩, ⟨some 85, none, .pur (.bin .lss) [.tmp 81, .tmp 84]⟩]) [85])
  (.cond (.tmp 85) (.skip) (.exit 4)))
  (.seq (.block 5 (.seq (.reg (straight [⟨some 88, none, .pur (.fla 2) [.tmp 3]⟩, ⟨some 89, none, .ld none (.tmp 88)⟩, ⟨some 90, none, .pur .mov [.tmp 7]⟩, ⟨some 91, none, .pur (.ixa 3) [.tmp 89, .tmp 90]⟩, ⟨some 92, none, .pur (.fla 0) [.tmp 91]⟩, ⟨some 93, none, .ld none (.tmp 92)⟩, ⟨some 94, none, .pur (.bin .lss) [.tmp 93, .const (.int .i64 0)]⟩, ⟨some 95, none, .pur .mov [.tmp 94]⟩, ⟨some 96, some (95, false), .pur (.fla 2) [.tmp 3]⟩, ⟨some 97, some (95, false), .ld none (.tmp 96)⟩, ⟨some 98, some (95, false), .pur .mov [.tmp 7]⟩, ⟨some 99, some (95, false), .pur (.ixa 3) [.tmp 97, .tmp 98]⟩, ⟨some 100, some (95, false), .pur (.fla 0) [.tmp 99]⟩, ⟨some 101, some (95, false), .ld none (.tmp 100)⟩, ⟨some 102, some (95, false), .pur (.fla 0) [.tmp 3]⟩, ⟨some 103, some (95, false), .ld none (.tmp 102)⟩, ⟨some 104, some (95, false), .pur (.len false) [.tmp 103]⟩, ⟨some 105, some (95, false), .pur (.bin .geq) [.tmp 101, .tmp 104]⟩, ⟨some 106, none, .pur .pick [.tmp 95, .const (.bool true), .tmp 105]⟩]) [106])
  (.cond (.tmp 106) (.seq (.reg (straight [⟨some 2, none, .pur .mov [.const (.bool false)]⟩]) [2])
  (.ret)) (.skip))))
  (.reg (straight [⟨some 86, none, .pur .mov [.tmp 7]⟩, ⟨some 87, none, .pur (.bin .add) [.tmp 86, .const (.int .i64 1)]⟩, ⟨some 7, none, .pur .mov [.tmp 87]⟩]) [7]))
def S_forebaylaw30_StrandAhead : Fun := ⟨120, [2, 9, 0, 12, 4, 20, 3, 5, 37, 49, 6, 57, 80, 7, 85, 106], [.tmp 2],
  .seq (.reg (straight [⟨some 2, none, .pur .mov [.const (.bool false)]⟩]) [2])
  (.seq (.seq (.reg (straight [⟨some 8, none, .eff (.call 72) []⟩, ⟨some 9, none, .pur .not [.tmp 8]⟩]) [9])
  (.cond (.tmp 9) (.seq (.reg (straight [⟨some 2, none, .pur .mov [.const (.bool false)]⟩]) [2])
  (.ret)) (.skip)))
  (.seq (.seq (.reg (straight [⟨some 10, none, .pur .mov [.tmp 0]⟩, ⟨some 11, none, .pur (.len false) [.tmp 10]⟩, ⟨some 12, none, .pur (.bin .gtr) [.tmp 11, .const (.int .i64 2000)]⟩]) [12])
  (.cond (.tmp 12) (.seq (.reg (straight [⟨some 2, none, .pur .mov [.const (.bool true)]⟩]) [2])
  (.ret)) (.skip)))
  (.seq (.reg (straight [⟨some 14, none, .pur .mov [.tmp 0]⟩, ⟨some 15, none, .eff (.call 74) [.tmp 14]⟩, ⟨some 16, none, .eff (.call 73) [.tmp 15]⟩, ⟨some 13, none, .pur .mov [.tmp 16]⟩, ⟨some 17, none, .pur (.ext 0) [.tmp 13]⟩, ⟨some 18, none, .pur (.ext 1) [.tmp 13]⟩, ⟨some 3, none, .eff (.new 98 [.slice none 0 0, .slice none 0 0, .slice none 0 0]) []⟩, ⟨none, none, .eff (.st 3) [.tmp 3, .tmp 17]⟩, ⟨some 4, none, .pur .mov [.tmp 18]⟩]) [3, 4])
  (.seq (.seq (.reg (straight [⟨some 19, none, .pur .mov [.tmp 4]⟩, ⟨some 20, none, .pur (.bin .neq) [.tmp 19, .const (.int .i64 0)]⟩]) [20])
  (.cond (.tmp 20) (.seq (.reg (straight [⟨some 21, none, .pur (.fla 0) [.tmp 3]⟩, ⟨some 22, none, .ld none (.tmp 21)⟩, ⟨some 23, none, .pur (.len false) [.tmp 22]⟩, ⟨some 24, none, .pur (.fla 1) [.tmp 3]⟩, ⟨some 25, none, .ld none (.tmp 24)⟩, ⟨some 26, none, .pur (.len false) [.tmp 25]⟩, ⟨some 27, none, .pur (.bin .add) [.tmp 23, .tmp 26]⟩, ⟨some 28, none, .pur (.fla 2) [.tmp 3]⟩, ⟨some 29, none, .ld none (.tmp 28)⟩, ⟨some 30, none, .pur (.len false) [.tmp 29]⟩, ⟨some 31, none, .pur (.bin .add) [.tmp 27, .tmp 30]⟩, ⟨some 32, none, .pur (.bin .eql) [.tmp 31, .const (.int .i64 0)]⟩, ⟨some 2, none, .pur .mov [.tmp 32]⟩]) [2])
  (.ret)) (.skip)))
  (.seq (.seq (.reg (straight [⟨some 5, none, .pur .mov [.const (.int .i64 0)]⟩]) [5])
  (.block 0 (.loop S_forebaylaw30_StrandAhead_L1)))
  (.seq (.seq (.reg (straight [⟨some 7, none, .pur .mov [.const (.int .i64 0)]⟩]) [7])
  (.block 4 (.loop S_forebaylaw30_StrandAhead_L3)))
  (.seq (.reg (straight [⟨some 107, none, .pur (.fla 0) [.tmp 3]⟩, ⟨some 108, none, .ld none (.tmp 107)⟩, ⟨some 109, none, .pur (.len false) [.tmp 108]⟩, ⟨some 110, none, .pur (.bin .gtr) [.tmp 109, .const (.int .i64 0)]⟩, ⟨some 111, none, .pur .mov [.tmp 110]⟩, ⟨some 112, some (111, true), .pur (.fla 1) [.tmp 3]⟩, ⟨some 113, some (111, true), .ld none (.tmp 112)⟩, ⟨some 114, some (111, true), .pur (.len false) [.tmp 113]⟩, ⟨some 115, some (111, true), .pur (.fla 0) [.tmp 3]⟩, ⟨some 116, some (111, true), .ld none (.tmp 115)⟩, ⟨some 117, some (111, true), .pur (.len false) [.tmp 116]⟩, ⟨some 118, some (111, true), .pur (.bin .eql) [.tmp 114, .tmp 117]⟩, ⟨some 119, none, .pur .pick [.tmp 111, .tmp 118, .const (.bool false)]⟩, ⟨some 2, none, .pur .mov [.tmp 119]⟩]) [2])
  (.ret))))))))⟩
theorem K_forebaylaw30_StrandAhead : compF Try.prog 17 = some S_forebaylaw30_StrandAhead := by kernel_rfl

-- 21
def S_log_Log_Note : Fun := ⟨16, [1, 0, 5, 3], [],
  .seq (.reg (straight [⟨some 3, none, .eff (.box 28) [.tmp 1]⟩]) [3])
  (.seq (.reg (straight [⟨some 4, none, .pur .mov [.tmp 0]⟩, ⟨some 5, none, .pur (.eqn true 0) [.tmp 4]⟩]) [5])
  (.cond (.tmp 5) (.reg (.run ⟨some 6, none, .pur .mov [.tmp 0]⟩ (.run ⟨some 7, none, .pur .mov [.tmp 0]⟩ (.run ⟨some 8, none, .pur .nilc [.tmp 7]⟩ (.run ⟨some 9, none, .pur (.fla 0) [.tmp 8]⟩ (.run ⟨some 10, none, .ld none (.tmp 9)⟩ (.run ⟨some 11, none, .ld (some 4) (.tmp 3)⟩ (.eff ⟨some 12, none, .eff (.bsl 28 4) [.tmp 11]⟩ [⟨some 10, none, .ld none (.tmp 9)⟩] (.eff ⟨some 13, none, .eff (.app 28 4 32 [.int .i64 0, .int .i64 0, .int .i64 0, .int .i64 0]) [.tmp 10, .tmp 12]⟩ [] (.run ⟨some 14, none, .pur .nilc [.tmp 6]⟩ (.run ⟨some 15, none, .pur (.fla 0) [.tmp 14]⟩ (.eff ⟨none, none, .eff (.st 1) [.tmp 15, .tmp 13]⟩ [] .done))))))))))) []) (.skip)))⟩
theorem K_log_Log_Note : compF Try.prog 21 = some S_log_Log_Note := by kernel_rfl

-- 25
def S_forebaylaw40_great_L1 : SCode :=
  .seq (.seq (.reg (straight [⟨some 4, none, .pur .mov [.tmp 3]⟩, ⟨some 5, none, .pur .mov [.tmp 0]⟩, ⟨some 6, none, .pur (.len false) [.tmp 5]⟩, ⟨some 7, none, .pur (.bin .lss) [.tmp 4, .tmp 6]⟩]) [7])
  (.cond (.tmp 7) (.skip) (.exit 0)))
  (.seq (.block 1 (.seq (.reg (straight [⟨some 10, none, .pur .mov [.tmp 3]⟩, ⟨some 11, none, .pur (.bin .geq) [.tmp 10, .const (.int .i64 100)]⟩, ⟨some 12, none, .pur .mov [.tmp 11]⟩, ⟨some 13, some (12, false), .pur .mov [.tmp 0]⟩, ⟨some 14, some (12, false), .pur .mov [.tmp 3]⟩, ⟨some 15, some (12, false), .pur (.ixa 11) [.tmp 13, .tmp 14]⟩, ⟨some 16, some (12, false), .pur (.fla 2) [.tmp 15]⟩, ⟨some 17, some (12, false), .ld none (.tmp 16)⟩, ⟨some 18, some (12, false), .pur (.len false) [.tmp 17]⟩, ⟨some 19, some (12, false), .pur (.bin .gtr) [.tmp 18, .const (.int .i64 300)]⟩, ⟨some 20, none, .pur .pick [.tmp 12, .const (.bool true), .tmp 19]⟩, ⟨some 21, none, .pur .mov [.tmp 20]⟩, ⟨some 22, some (21, false), .pur .mov [.tmp 0]⟩, ⟨some 23, some (21, false), .pur .mov [.tmp 3]⟩, ⟨some 24, some (21, false), .pur (.ixa 11) [.tmp 22, .tmp 23]⟩, ⟨some 25, some (21, false), .pur (.fla 3) [.tmp 24]⟩, ⟨some 26, some (21, false), .ld none (.tmp 25)⟩, ⟨some 27, some (21, false), .pur (.len false) [.tmp 26]⟩, ⟨some 28, some (21, false), .pur (.bin .gtr) [.tmp 27, .const (.int .i64 300)]⟩, ⟨some 29, none, .pur .pick [.tmp 21, .const (.bool true), .tmp 28]⟩]) [29])
  (.cond (.tmp 29) (.seq (.reg (straight [⟨some 2, none, .pur .mov [.const (.bool true)]⟩]) [2])
  (.ret)) (.skip))))
  (.reg (straight [⟨some 8, none, .pur .mov [.tmp 3]⟩, ⟨some 9, none, .pur (.bin .add) [.tmp 8, .const (.int .i64 1)]⟩, ⟨some 3, none, .pur .mov [.tmp 9]⟩]) [3]))
def S_forebaylaw40_great : Fun := ⟨30, [2, 3, 0, 7, 29], [.tmp 2],
  .seq (.reg (straight [⟨some 2, none, .pur .mov [.const (.bool false)]⟩]) [2])
  (.seq (.seq (.reg (straight [⟨some 3, none, .pur .mov [.const (.int .i64 0)]⟩]) [3])
  (.block 0 (.loop S_forebaylaw40_great_L1)))
  (.seq (.reg (straight [⟨some 2, none, .pur .mov [.const (.bool false)]⟩]) [2])
  (.ret)))⟩
theorem K_forebaylaw40_great : compF Try.prog 25 = some S_forebaylaw40_great := by kernel_rfl

-- 32
def S_forebayref33_Check_L2 : SCode :=
  .seq (.seq (.reg (straight [⟨some 25, none, .pur .mov [.tmp 5]⟩, ⟨some 26, none, .pur .mov [.tmp 4]⟩, ⟨some 27, none, .pur (.len false) [.tmp 26]⟩, ⟨some 28, none, .pur (.bin .lss) [.tmp 25, .tmp 27]⟩]) [28])
  (.cond (.tmp 28) (.skip) (.exit 2)))
  (.seq (.block 3 (.seq (.reg (straight [⟨some 31, none, .pur .mov [.tmp 5]⟩, ⟨some 32, none, .pur (.bin .eql) [.tmp 31, .const (.int .i64 0)]⟩, ⟨some 33, none, .pur .mov [.tmp 32]⟩, ⟨some 34, some (33, true), .pur .mov [.tmp 4]⟩, ⟨some 35, some (33, true), .pur (.ixa 2) [.tmp 34, .const (.int .i64 0)]⟩, ⟨some 36, some (33, true), .pur (.fla 0) [.tmp 35]⟩, ⟨some 37, some (33, true), .ld none (.tmp 36)⟩, ⟨some 38, some (33, true), .pur (.bin .neq) [.tmp 37, .const (.int .i64 0)]⟩, ⟨some 39, some (33, true), .pur .mov [.tmp 38]⟩, ⟨some 40, some (39, false), .pur .mov [.tmp 4]⟩, ⟨some 41, some (39, false), .pur (.ixa 2) [.tmp 40, .const (.int .i64 0)]⟩, ⟨some 42, some (39, false), .pur (.fla 1) [.tmp 41]⟩, ⟨some 43, some (39, false), .ld none (.tmp 42)⟩, ⟨some 44, some (33, true), .pur .pick [.tmp 39, .const (.bool true), .tmp 43]⟩, ⟨some 45, none, .pur .pick [.tmp 33, .tmp 44, .const (.bool false)]⟩, ⟨some 46, none, .pur .mov [.tmp 45]⟩, ⟨some 47, some (46, false), .pur .mov [.tmp 5]⟩, ⟨some 48, some (46, false), .pur (.bin .gtr) [.tmp 47, .const (.int .i64 0)]⟩, ⟨some 49, some (46, false), .pur .mov [.tmp 48]⟩, ⟨some 50, some (49, true), .pur .mov [.tmp 4]⟩, ⟨some 51, some (49, true), .pur .mov [.tmp 5]⟩, ⟨some 52, some (49, true), .pur (.ixa 2) [.tmp 50, .tmp 51]⟩, ⟨some 53, some (49, true), .pur (.fla 0) [.tmp 52]⟩, ⟨some 54, some (49, true), .ld none (.tmp 53)⟩, ⟨some 55, some (49, true), .pur .mov [.tmp 4]⟩, ⟨some 56, some (49, true), .pur .mov [.tmp 5]⟩, ⟨some 57, some (49, true), .pur (.bin .sub) [.tmp 56, .const (.int .i64 1)]⟩, ⟨some 58, some (49, true), .pur (.ixa 2) [.tmp 55, .tmp 57]⟩, ⟨some 59, some (49, true), .pur (.fla 0) [.tmp 58]⟩, ⟨some 60, some (49, true), .ld none (.tmp 59)⟩, ⟨some 61, some (49, true), .pur (.bin .leq) [.tmp 54, .tmp 60]⟩, ⟨some 62, some (46, false), .pur .pick [.tmp 49, .tmp 61, .const (.bool false)]⟩, ⟨some 63, none, .pur .pick [.tmp 46, .const (.bool true), .tmp 62]⟩, ⟨some 64, none, .pur .mov [.tmp 63]⟩, ⟨some 65, some (64, false), .pur .mov [.tmp 4]⟩, ⟨some 66, some (64, false), .pur .mov [.tmp 5]⟩, ⟨some 67, some (64, false), .pur (.ixa 2) [.tmp 65, .tmp 66]⟩, ⟨some 68, some (64, false), .pur (.fla 0) [.tmp 67]⟩, ⟨some 69, some (64, false), .ld none (.tmp 68)⟩, ⟨some 70, some (64, false), .pur (.bin .gtr) [.tmp 69, .const (.int .i64 1048575)]⟩, ⟨some 71, none, .pur .pick [.tmp 64, .const (.bool true), .tmp 70]⟩]) [71])
  (.cond (.tmp 71) (.seq (.reg (straight [⟨some 2, none, .pur .mov [.const (.int .i64 4)]⟩]) [2])
  (.ret)) (.skip))))
  (.reg (straight [⟨some 29, none, .pur .mov [.tmp 5]⟩, ⟨some 30, none, .pur (.bin .add) [.tmp 29, .const (.int .i64 1)]⟩, ⟨some 5, none, .pur .mov [.tmp 30]⟩]) [5]))
def S_forebayref33_Check_L1 : SCode :=
  .seq (.seq (.reg (straight [⟨some 9, none, .pur .mov [.tmp 3]⟩, ⟨some 10, none, .pur .mov [.tmp 0]⟩, ⟨some 11, none, .pur (.len false) [.tmp 10]⟩, ⟨some 12, none, .pur (.bin .lss) [.tmp 9, .tmp 11]⟩]) [12])
  (.cond (.tmp 12) (.skip) (.exit 0)))
  (.seq (.block 1 (.seq (.reg (straight [⟨some 15, none, .pur .mov [.tmp 0]⟩, ⟨some 16, none, .pur .mov [.tmp 3]⟩, ⟨some 17, none, .pur (.ixa 1) [.tmp 15, .tmp 16]⟩, ⟨some 18, none, .ld none (.tmp 17)⟩, ⟨some 4, none, .pur .mov [.tmp 18]⟩]) [4])
  (.seq (.seq (.reg (straight [⟨some 19, none, .pur .mov [.tmp 4]⟩, ⟨some 20, none, .pur (.len false) [.tmp 19]⟩, ⟨some 21, none, .pur (.bin .gtr) [.tmp 20, .const (.int .i64 100)]⟩]) [21])
  (.cond (.tmp 21) (.seq (.reg (straight [⟨some 2, none, .pur .mov [.const (.int .i64 9)]⟩]) [2])
  (.ret)) (.skip)))
  (.seq (.seq (.reg (straight [⟨some 22, none, .pur .mov [.tmp 4]⟩, ⟨some 23, none, .pur (.len false) [.tmp 22]⟩, ⟨some 24, none, .pur (.bin .eql) [.tmp 23, .const (.int .i64 0)]⟩]) [24])
  (.cond (.tmp 24) (.seq (.reg (straight [⟨some 2, none, .pur .mov [.const (.int .i64 7)]⟩]) [2])
  (.ret)) (.skip)))
  (.seq (.reg (straight [⟨some 5, none, .pur .mov [.const (.int .i64 0)]⟩]) [5])
  (.block 2 (.loop S_forebayref33_Check_L2)))))))
  (.reg (straight [⟨some 13, none, .pur .mov [.tmp 3]⟩, ⟨some 14, none, .pur (.bin .add) [.tmp 13, .const (.int .i64 1)]⟩, ⟨some 3, none, .pur .mov [.tmp 14]⟩]) [3]))
def S_forebayref33_Check : Fun := ⟨72, [2, 0, 8, 3, 12, 4, 21, 24, 5, 28, 71], [.tmp 2],
  .seq (.reg (straight [⟨some 2, none, .pur .mov [.const (.int .i64 0)]⟩]) [2])
  (.seq (.seq (.reg (straight [⟨some 6, none, .pur .mov [.tmp 0]⟩, ⟨some 7, none, .pur (.len false) [.tmp 6]⟩, ⟨some 8, none, .pur (.bin .gtr) [.tmp 7, .const (.int .i64 100)]⟩]) [8])
  (.cond (.tmp 8) (.seq (.reg (straight [⟨some 2, none, .pur .mov [.const (.int .i64 9)]⟩]) [2])
  (.ret)) (.skip)))
  (.seq (.seq (.reg (straight [⟨some 3, none, .pur .mov [.const (.int .i64 0)]⟩]) [3])
  (.block 0 (.loop S_forebayref33_Check_L1)))
  (.seq (.reg (straight [⟨some 2, none, .pur .mov [.const (.int .i64 0)]⟩]) [2])
  (.ret))))⟩
theorem K_forebayref33_Check : compF Try.prog 32 = some S_forebayref33_Check := by kernel_rfl

-- 41
def S_grid_Mirror : Fun := ⟨8, [2, 0], [.tmp 2],
  .seq (.reg (straight [⟨some 2, none, .pur .mov [.const (.complex .f64 0 0)]⟩]) [2])
  (.seq (.reg (straight [⟨some 3, none, .pur .mov [.tmp 0]⟩, ⟨some 4, none, .eff (.call 40) [.tmp 3]⟩, ⟨some 5, none, .pur .mov [.tmp 0]⟩, ⟨some 6, none, .eff (.call 39) [.tmp 5]⟩, ⟨some 7, none, .eff (.call 35) [.tmp 4, .tmp 6]⟩, ⟨some 2, none, .pur .mov [.tmp 7]⟩]) [2])
  (.ret))⟩
theorem K_grid_Mirror : compF Try.prog 41 = some S_grid_Mirror := by kernel_rfl

-- 43
def S_forebaylaw31_works : Fun := ⟨64, [0, 2, 1, 3, 4], [.tmp 0],
  .seq (.reg (straight [⟨some 0, none, .pur .mov [.const (.bool false)]⟩]) [0])
  (.seq (.reg (straight [⟨some 6, none, .eff (.bsl 3 1) [.const (.int .i64 0)]⟩, ⟨some 7, none, .eff (.bsl 3 1) [.const (.int .i64 0)]⟩, ⟨some 8, none, .eff (.bsl 3 1) [.const (.int .i64 1), .const (.int .i64 2)]⟩, ⟨some 9, none, .eff (.bsl 29 1) [.const (.slice none 0 0), .tmp 6, .tmp 7, .tmp 8]⟩, ⟨some 10, none, .eff (.call 45) [.tmp 9]⟩, ⟨some 5, none, .pur .mov [.tmp 10]⟩, ⟨some 11, none, .pur (.ext 0) [.tmp 5]⟩, ⟨some 12, none, .pur (.ext 1) [.tmp 5]⟩, ⟨some 1, none, .pur .mov [.tmp 11]⟩, ⟨some 2, none, .pur .mov [.tmp 12]⟩]) [1, 2])
  (.seq (.reg (straight [⟨some 14, none, .eff (.bsl 3 1) [.const (.int .i64 0)]⟩, ⟨some 15, none, .eff (.bsl 3 1) [.const (.int .i64 0)]⟩, ⟨some 16, none, .eff (.bsl 3 1) [.const (.int .i64 1), .const (.int .i64 2)]⟩, ⟨some 17, none, .eff (.bsl 29 1) [.const (.slice none 0 0), .tmp 14, .tmp 15, .tmp 16]⟩, ⟨some 18, none, .eff (.call 48) [.tmp 17]⟩, ⟨some 13, none, .pur .mov [.tmp 18]⟩, ⟨some 19, none, .pur (.ext 0) [.tmp 13]⟩, ⟨some 20, none, .pur (.ext 1) [.tmp 13]⟩, ⟨some 3, none, .pur .mov [.tmp 19]⟩, ⟨some 4, none, .pur .mov [.tmp 20]⟩]) [3, 4])
  (.seq (.reg (straight [⟨some 21, none, .pur .mov [.tmp 2]⟩, ⟨some 22, none, .pur (.bin .eql) [.tmp 21, .const (.int .i64 0)]⟩, ⟨some 23, none, .pur .mov [.tmp 22]⟩, ⟨some 24, some (23, true), .pur .mov [.tmp 1]⟩, ⟨some 25, some (23, true), .pur (.eqn true 0) [.tmp 24]⟩, ⟨some 26, none, .pur .pick [.tmp 23, .tmp 25, .const (.bool false)]⟩, ⟨some 27, none, .pur .mov [.tmp 26]⟩, ⟨some 28, some (27, true), .pur .mov [.tmp 1]⟩, ⟨some 29, some (27, true), .eff (.call 51) [.tmp 28, .const (.int .i64 0), .const (.int .i64 3)]⟩, ⟨some 30, none, .pur .pick [.tmp 27, .tmp 29, .const (.bool false)]⟩, ⟨some 31, none, .pur .mov [.tmp 30]⟩, ⟨some 32, some (31, true), .pur .mov [.tmp 1]⟩, ⟨some 33, some (31, true), .eff (.call 52) [.tmp 32, .const (.int .i64 1), .const (.int .i64 2)]⟩, ⟨some 34, none, .pur .pick [.tmp 31, .tmp 33, .const (.bool false)]⟩, ⟨some 35, none, .pur .mov [.tmp 34]⟩, ⟨some 36, some (35, true), .pur .mov [.tmp 1]⟩, ⟨some 37, some (35, true), .eff (.call 51) [.tmp 36, .const (.int .i64 1), .const (.int .i64 2)]⟩, ⟨some 38, some (35, true), .pur .not [.tmp 37]⟩, ⟨some 39, none, .pur .pick [.tmp 35, .tmp 38, .const (.bool false)]⟩, ⟨some 40, none, .pur .mov [.tmp 39]⟩, ⟨some 41, some (40, true), .pur .mov [.tmp 1]⟩, ⟨some 42, some (40, true), .eff (.call 53) [.tmp 41, .const (.int .i64 3)]⟩, ⟨some 43, some (40, true), .pur (.bin .eql) [.tmp 42, .const (.int .i64 3)]⟩, ⟨some 44, none, .pur .pick [.tmp 40, .tmp 43, .const (.bool false)]⟩, ⟨some 45, none, .pur .mov [.tmp 44]⟩, ⟨some 46, some (45, true), .pur .mov [.tmp 3]⟩, ⟨some 47, some (45, true), .pur (.bin .eql) [.tmp 46, .const (.int .i64 3)]⟩, ⟨some 48, none, .pur .pick [.tmp 45, .tmp 47, .const (.bool false)]⟩, ⟨some 49, none, .pur .mov [.tmp 48]⟩, ⟨some 50, some (49, true), .pur .mov [.tmp 4]⟩, ⟨some 51, some (49, true), .pur (.bin .eql) [.tmp 50, .const (.int .i64 0)]⟩, ⟨some 52, none, .pur .pick [.tmp 49, .tmp 51, .const (.bool false)]⟩, ⟨some 53, none, .pur .mov [.tmp 52]⟩, ⟨some 54, some (53, true), .eff (.bsl 3 1) [.const (.int .i64 0)]⟩, ⟨some 55, some (53, true), .eff (.bsl 29 1) [.const (.slice none 0 0), .tmp 54]⟩, ⟨some 56, some (53, true), .eff (.bsl 3 1) [.const (.int .i64 0), .const (.int .i64 1)]⟩, ⟨some 57, some (53, true), .eff (.call 55) [.tmp 55, .tmp 56]⟩, ⟨some 58, none, .pur .pick [.tmp 53, .tmp 57, .const (.bool false)]⟩, ⟨some 59, none, .pur .mov [.tmp 58]⟩, ⟨some 60, some (59, true), .pur .mov [.tmp 1]⟩, ⟨some 61, some (59, true), .eff (.call 50) [.tmp 60]⟩, ⟨some 62, some (59, true), .pur (.bin .eql) [.tmp 61, .const (.int .i64 4)]⟩, ⟨some 63, none, .pur .pick [.tmp 59, .tmp 62, .const (.bool false)]⟩, ⟨some 0, none, .pur .mov [.tmp 63]⟩]) [0])
  (.ret))))⟩
theorem K_forebaylaw31_works : compF Try.prog 43 = some S_forebaylaw31_works := by kernel_rfl

-- 55
def S_reach_Order_L2 : SCode :=
  .seq (.reg (straight [⟨some 39, none, .pur (.bin .lss) [.tmp 38, .tmp 37]⟩]) [39])
  (.seq (.cond (.tmp 39) (.skip) (.exit 2))
  (.seq (.block 3 (.seq (.reg (straight [⟨some 40, none, .pur (.ixa 1) [.tmp 36, .tmp 38]⟩, ⟨some 41, none, .ld none (.tmp 40)⟩, ⟨some 9, none, .pur .mov [.tmp 41]⟩]) [9])
  (.seq (.reg (straight [⟨some 42, none, .pur .mov [.tmp 9]⟩, ⟨some 43, none, .pur (.bin .lss) [.tmp 42, .const (.int .i64 0)]⟩, ⟨some 44, none, .pur .mov [.tmp 43]⟩, ⟨some 45, some (44, false), .pur .mov [.tmp 9]⟩, ⟨some 46, some (44, false), .pur .mov [.tmp 0]⟩, ⟨some 47, some (44, false), .pur (.len false) [.tmp 46]⟩, ⟨some 48, some (44, false), .pur (.bin .geq) [.tmp 45, .tmp 47]⟩, ⟨some 49, none, .pur .pick [.tmp 44, .const (.bool true), .tmp 48]⟩, ⟨some 50, none, .pur .mov [.tmp 49]⟩, ⟨some 51, some (50, false), .pur .mov [.tmp 5]⟩, ⟨some 52, some (50, false), .pur .mov [.tmp 9]⟩, ⟨some 53, some (50, false), .pur (.ixa 1) [.tmp 51, .tmp 52]⟩, ⟨some 54, some (50, false), .ld none (.tmp 53)⟩, ⟨some 55, some (50, false), .pur .not [.tmp 54]⟩, ⟨some 56, none, .pur .pick [.tmp 50, .const (.bool true), .tmp 55]⟩]) [56])
  (.cond (.tmp 56) (.seq (.reg (straight [⟨some 4, none, .pur .mov [.const (.bool false)]⟩]) [4])
  (.ret)) (.skip)))))
  (.reg (straight [⟨some 57, none, .pur (.bin .add) [.tmp 38, .const (.int .i64 1)]⟩, ⟨some 38, none, .pur .mov [.tmp 57]⟩]) [38])))
def S_reach_Order_L1 : SCode :=
  .seq (.reg (straight [⟨some 16, none, .pur (.bin .lss) [.tmp 15, .tmp 14]⟩]) [16])
  (.seq (.cond (.tmp 16) (.skip) (.exit 0))
  (.seq (.block 1 (.seq (.reg (straight [⟨some 17, none, .pur (.ixa 1) [.tmp 13, .tmp 15]⟩, ⟨some 18, none, .ld none (.tmp 17)⟩, ⟨some 7, none, .pur .mov [.tmp 18]⟩]) [7])
  (.seq (.seq (.reg (straight [⟨some 19, none, .pur .mov [.tmp 7]⟩, ⟨some 20, none, .pur (.bin .lss) [.tmp 19, .const (.int .i64 0)]⟩, ⟨some 21, none, .pur .mov [.tmp 20]⟩, ⟨some 22, some (21, false), .pur .mov [.tmp 7]⟩, ⟨some 23, some (21, false), .pur .mov [.tmp 0]⟩, ⟨some 24, some (21, false), .pur (.len false) [.tmp 23]⟩, ⟨some 25, some (21, false), .pur (.bin .geq) [.tmp 22, .tmp 24]⟩, ⟨some 26, none, .pur .pick [.tmp 21, .const (.bool true), .tmp 25]⟩, ⟨some 27, none, .pur .mov [.tmp 26]⟩, ⟨some 28, some (27, false), .pur .mov [.tmp 5]⟩, ⟨some 29, some (27, false), .pur .mov [.tmp 7]⟩, ⟨some 30, some (27, false), .pur (.ixa 1) [.tmp 28, .tmp 29]⟩, ⟨some 31, some (27, false), .ld none (.tmp 30)⟩, ⟨some 32, none, .pur .pick [.tmp 27, .const (.bool true), .tmp 31]⟩]) [32])
  (.cond (.tmp 32) (.seq (.reg (straight [⟨some 4, none, .pur .mov [.const (.bool false)]⟩]) [4])
  (.ret)) (.skip)))
  (.seq (.seq (.reg (straight [⟨some 33, none, .pur .mov [.tmp 0]⟩, ⟨some 34, none, .pur .mov [.tmp 7]⟩, ⟨some 35, none, .pur (.ixa 1) [.tmp 33, .tmp 34]⟩, ⟨some 36, none, .ld none (.tmp 35)⟩, ⟨some 37, none, .pur (.len false) [.tmp 36]⟩, ⟨some 38, none, .pur .mov [.const (.int .i64 0)]⟩]) [36, 37, 38])
  (.block 2 (.loop S_reach_Order_L2)))
  (.reg (straight [⟨some 58, none, .pur .mov [.tmp 5]⟩, ⟨some 59, none, .pur .mov [.tmp 7]⟩, ⟨some 60, none, .pur (.ixa 1) [.tmp 58, .tmp 59]⟩, ⟨none, none, .eff (.st 1) [.tmp 60, .const (.bool true)]⟩]) [])))))
  (.reg (straight [⟨some 61, none, .pur (.bin .add) [.tmp 15, .const (.int .i64 1)]⟩, ⟨some 15, none, .pur .mov [.tmp 61]⟩]) [15])))
def S_reach_Order : Fun := ⟨62, [4, 0, 1, 15, 14, 16, 13, 7, 5, 32, 38, 37, 39, 36, 9, 56], [.tmp 4],
  .seq (.reg (straight [⟨some 4, none, .pur .mov [.const (.bool false)]⟩]) [4])
  (.seq (.reg (straight [⟨some 10, none, .pur .mov [.tmp 0]⟩, ⟨some 11, none, .pur (.len false) [.tmp 10]⟩, ⟨some 12, none, .eff (.mks 4 1 1 [.bool false]) [.tmp 11, .tmp 11]⟩, ⟨some 5, none, .pur .mov [.tmp 12]⟩]) [5])
  (.seq (.seq (.reg (straight [⟨some 13, none, .pur .mov [.tmp 1]⟩, ⟨some 14, none, .pur (.len false) [.tmp 13]⟩, ⟨some 15, none, .pur .mov [.const (.int .i64 0)]⟩]) [13, 14, 15])
  (.block 0 (.loop S_reach_Order_L1)))
  (.seq (.reg (straight [⟨some 4, none, .pur .mov [.const (.bool true)]⟩]) [4])
  (.ret))))⟩
theorem K_reach_Order : compF Try.prog 55 = some S_reach_Order := by kernel_rfl

-- 56
def S_forebayref31_Order_L2 : SCode :=
  .seq (.seq (.reg (straight [⟨some 30, none, .pur .mov [.tmp 6]⟩, ⟨some 31, none, .pur .mov [.tmp 5]⟩, ⟨some 32, none, .pur (.bin .lss) [.tmp 30, .tmp 31]⟩]) [32])
  (.cond (.tmp 32) (.skip) (.exit 2)))
  (.seq (.block 3 (.seq (.reg (straight [⟨some 35, none, .pur .mov [.tmp 1]⟩, ⟨some 36, none, .pur .mov [.tmp 6]⟩, ⟨some 37, none, .pur (.ixa 1) [.tmp 35, .tmp 36]⟩, ⟨some 38, none, .ld none (.tmp 37)⟩, ⟨some 39, none, .pur .mov [.tmp 1]⟩, ⟨some 40, none, .pur .mov [.tmp 5]⟩, ⟨some 41, none, .pur (.ixa 1) [.tmp 39, .tmp 40]⟩, ⟨some 42, none, .ld none (.tmp 41)⟩, ⟨some 43, none, .pur (.bin .eql) [.tmp 38, .tmp 42]⟩]) [43])
  (.cond (.tmp 43) (.seq (.reg (straight [⟨some 4, none, .pur .mov [.const (.bool false)]⟩]) [4])
  (.ret)) (.skip))))
  (.reg (straight [⟨some 33, none, .pur .mov [.tmp 6]⟩, ⟨some 34, none, .pur (.bin .add) [.tmp 33, .const (.int .i64 1)]⟩, ⟨some 6, none, .pur .mov [.tmp 34]⟩]) [6]))
def S_forebayref31_Order_L4 : SCode :=
  .seq (.seq (.reg (straight [⟨some 56, none, .pur .mov [.tmp 9]⟩, ⟨some 57, none, .pur .mov [.tmp 5]⟩, ⟨some 58, none, .pur (.bin .lss) [.tmp 56, .tmp 57]⟩]) [58])
  (.cond (.tmp 58) (.skip) (.exit 6)))
  (.seq (.block 7 (.reg (.run ⟨some 61, none, .pur .mov [.tmp 8]⟩ (.run ⟨some 62, none, .pur .mov [.tmp 61]⟩ (.run ⟨some 63, some (62, false), .pur .mov [.tmp 1]⟩ (.run ⟨some 64, some (62, false), .pur .mov [.tmp 9]⟩ (.run ⟨some 65, some (62, false), .pur (.ixa 1) [.tmp 63, .tmp 64]⟩ (.run ⟨some 66, some (62, false), .ld none (.tmp 65)⟩ (.run ⟨some 67, some (62, false), .pur .mov [.tmp 0]⟩ (.run ⟨some 68, some (62, false), .pur .mov [.tmp 1]⟩ (.run ⟨some 69, some (62, false), .pur .mov [.tmp 5]⟩ (.run ⟨some 70, some (62, false), .pur (.ixa 1) [.tmp 68, .tmp 69]⟩ (.run ⟨some 71, some (62, false), .ld none (.tmp 70)⟩ (.run ⟨some 72, some (62, false), .pur (.ixa 1) [.tmp 67, .tmp 71]⟩ (.run ⟨some 73, some (62, false), .ld none (.tmp 72)⟩ (.run ⟨some 74, some (62, false), .pur .mov [.tmp 7]⟩ (.run ⟨some 75, some (62, false), .pur (.ixa 1) [.tmp 73, .tmp 74]⟩ (.run ⟨some 76, some (62, false), .ld none (.tmp 75)⟩ (.run ⟨some 77, some (62, false), .pur (.bin .eql) [.tmp 66, .tmp 76]⟩ (.run ⟨some 78, none, .pur .pick [.tmp 62, .const (.bool true), .tmp 77]⟩ (.eff ⟨some 8, none, .pur .mov [.tmp 78]⟩ [] .done))))))))))))))))))) [8]))
  (.reg (straight [⟨some 59, none, .pur .mov [.tmp 9]⟩, ⟨some 60, none, .pur (.bin .add) [.tmp 59, .const (.int .i64 1)]⟩, ⟨some 9, none, .pur .mov [.tmp 60]⟩]) [9]))
def S_forebayref31_Order_L3 : SCode :=
  .seq (.seq (.reg (straight [⟨some 44, none, .pur .mov [.tmp 7]⟩, ⟨some 45, none, .pur .mov [.tmp 0]⟩, ⟨some 46, none, .pur .mov [.tmp 1]⟩, ⟨some 47, none, .pur .mov [.tmp 5]⟩, ⟨some 48, none, .pur (.ixa 1) [.tmp 46, .tmp 47]⟩, ⟨some 49, none, .ld none (.tmp 48)⟩, ⟨some 50, none, .pur (.ixa 1) [.tmp 45, .tmp 49]⟩, ⟨some 51, none, .ld none (.tmp 50)⟩, ⟨some 52, none, .pur (.len false) [.tmp 51]⟩, ⟨some 53, none, .pur (.bin .lss) [.tmp 44, .tmp 52]⟩]) [53])
  (.cond (.tmp 53) (.skip) (.exit 4)))
  (.seq (.block 5 (.seq (.reg (straight [⟨some 8, none, .pur .mov [.const (.bool false)]⟩]) [8])
  (.seq (.seq (.reg (straight [⟨some 9, none, .pur .mov [.const (.int .i64 0)]⟩]) [9])
  (.block 6 (.loop S_forebayref31_Order_L4)))
  (.seq (.reg (straight [⟨some 79, none, .pur .mov [.tmp 8]⟩, ⟨some 80, none, .pur .not [.tmp 79]⟩]) [80])
  (.cond (.tmp 80) (.seq (.reg (straight [⟨some 4, none, .pur .mov [.const (.bool false)]⟩]) [4])
  (.ret)) (.skip))))))
  (.reg (straight [⟨some 54, none, .pur .mov [.tmp 7]⟩, ⟨some 55, none, .pur (.bin .add) [.tmp 54, .const (.int .i64 1)]⟩, ⟨some 7, none, .pur .mov [.tmp 55]⟩]) [7]))
def S_forebayref31_Order_L1 : SCode :=
  .seq (.seq (.reg (straight [⟨some 10, none, .pur .mov [.tmp 5]⟩, ⟨some 11, none, .pur .mov [.tmp 1]⟩, ⟨some 12, none, .pur (.len false) [.tmp 11]⟩, ⟨some 13, none, .pur (.bin .lss) [.tmp 10, .tmp 12]⟩]) [13])
  (.cond (.tmp 13) (.skip) (.exit 0)))
  (.seq (.block 1 (.seq (.seq (.reg (straight [⟨some 16, none, .pur .mov [.tmp 1]⟩, ⟨some 17, none, .pur .mov [.tmp 5]⟩, ⟨some 18, none, .pur (.ixa 1) [.tmp 16, .tmp 17]⟩, ⟨some 19, none, .ld none (.tmp 18)⟩, ⟨some 20, none, .pur (.bin .lss) [.tmp 19, .const (.int .i64 0)]⟩, ⟨some 21, none, .pur .mov [.tmp 20]⟩, ⟨some 22, some (21, false), .pur .mov [.tmp 1]⟩, ⟨some 23, some (21, false), .pur .mov [.tmp 5]⟩, ⟨some 24, some (21, false), .pur (.ixa 1) [.tmp 22, .tmp 23]⟩, ⟨some 25, some (21, false), .ld none (.tmp 24)⟩, ⟨some 26, some (21, false), .pur .mov [.tmp 0]⟩, ⟨some 27, some (21, false), .pur (.len false) [.tmp 26]⟩, ⟨some 28, some (21, false), .pur (.bin .geq) [.tmp 25, .tmp 27]⟩, ⟨some 29, none, .pur .pick [.tmp 21, .const (.bool true), .tmp 28]⟩]) [29])
  (.cond (.tmp 29) (.seq (.reg (straight [⟨some 4, none, .pur .mov [.const (.bool false)]⟩]) [4])
  (.ret)) (.skip)))
  (.seq (.seq (.reg (straight [⟨some 6, none, .pur .mov [.const (.int .i64 0)]⟩]) [6])
  (.block 2 (.loop S_forebayref31_Order_L2)))
  (.seq (.reg (straight [⟨some 7, none, .pur .mov [.const (.int .i64 0)]⟩]) [7])
  (.block 4 (.loop S_forebayref31_Order_L3))))))
  (.reg (straight [⟨some 14, none, .pur .mov [.tmp 5]⟩, ⟨some 15, none, .pur (.bin .add) [.tmp 14, .const (.int .i64 1)]⟩, ⟨some 5, none, .pur .mov [.tmp 15]⟩]) [5]))
def S_forebayref31_Order : Fun := ⟨81, [4, 5, 1, 13, 0, 29, 6, 32, 43, 7, 53, 9, 58, 8, 80], [.tmp 4],
  .seq (.reg (straight [⟨some 4, none, .pur .mov [.const (.bool false)]⟩]) [4])
  (.seq (.seq (.reg (straight [⟨some 5, none, .pur .mov [.const (.int .i64 0)]⟩]) [5])
  (.block 0 (.loop S_forebayref31_Order_L1)))
  (.seq (.reg (straight [⟨some 4, none, .pur .mov [.const (.bool true)]⟩]) [4])
  (.ret)))⟩
theorem K_forebayref31_Order : compF Try.prog 56 = some S_forebayref31_Order := by kernel_rfl

-- 58
def S_forebaylaw41_great_L1 : SCode :=
  .seq (.seq (.reg (straight [⟨some 6, none, .pur .mov [.tmp 5]⟩, ⟨some 7, none, .pur .mov [.tmp 0]⟩, ⟨some 8, none, .pur (.len false) [.tmp 7]⟩, ⟨some 9, none, .pur (.bin .lss) [.tmp 6, .tmp 8]⟩]) [9])
  (.cond (.tmp 9) (.skip) (.exit 0)))
  (.seq (.block 1 (.seq (.reg (straight [⟨some 12, none, .pur .mov [.tmp 5]⟩, ⟨some 13, none, .pur (.bin .geq) [.tmp 12, .const (.int .i64 150)]⟩, ⟨some 14, none, .pur .mov [.tmp 13]⟩, ⟨some 15, some (14, false), .pur .mov [.tmp 0]⟩, ⟨some 16, some (14, false), .pur .mov [.tmp 5]⟩, ⟨some 17, some (14, false), .pur (.ixa 1) [.tmp 15, .tmp 16]⟩, ⟨some 18, some (14, false), .ld none (.tmp 17)⟩, ⟨some 19, some (14, false), .pur (.len false) [.tmp 18]⟩, ⟨some 20, some (14, false), .pur (.bin .gtr) [.tmp 19, .const (.int .i64 40)]⟩, ⟨some 21, none, .pur .pick [.tmp 14, .const (.bool true), .tmp 20]⟩]) [21])
  (.cond (.tmp 21) (.seq (.reg (straight [⟨some 4, none, .pur .mov [.const (.bool true)]⟩]) [4])
  (.ret)) (.skip))))
  (.reg (straight [⟨some 10, none, .pur .mov [.tmp 5]⟩, ⟨some 11, none, .pur (.bin .add) [.tmp 10, .const (.int .i64 1)]⟩, ⟨some 5, none, .pur .mov [.tmp 11]⟩]) [5]))
def S_forebaylaw41_great : Fun := ⟨25, [4, 5, 0, 9, 21, 1], [.tmp 4],
  .seq (.reg (straight [⟨some 4, none, .pur .mov [.const (.bool false)]⟩]) [4])
  (.seq (.seq (.reg (straight [⟨some 5, none, .pur .mov [.const (.int .i64 0)]⟩]) [5])
  (.block 0 (.loop S_forebaylaw41_great_L1)))
  (.seq (.reg (straight [⟨some 22, none, .pur .mov [.tmp 1]⟩, ⟨some 23, none, .pur (.len false) [.tmp 22]⟩, ⟨some 24, none, .pur (.bin .gtr) [.tmp 23, .const (.int .i64 300)]⟩, ⟨some 4, none, .pur .mov [.tmp 24]⟩]) [4])
  (.ret)))⟩
theorem K_forebaylaw41_great : compF Try.prog 58 = some S_forebaylaw41_great := by kernel_rfl

-- 69
def S_span_Work_L1 : SCode :=
  .seq (.reg (straight [⟨some 17, none, .pur (.bin .lss) [.tmp 16, .tmp 15]⟩]) [17])
  (.seq (.cond (.tmp 17) (.skip) (.exit 0))
  (.seq (.block 1 (.seq (.reg (straight [⟨some 18, none, .pur (.ixa 1) [.tmp 14, .tmp 16]⟩, ⟨some 19, none, .ld none (.tmp 18)⟩, ⟨some 8, none, .pur .mov [.tmp 19]⟩]) [8])
  (.reg (straight [⟨some 20, none, .pur .mov [.tmp 6]⟩, ⟨some 21, none, .pur .mov [.tmp 8]⟩, ⟨some 22, none, .pur (.bin .add) [.tmp 20, .tmp 21]⟩, ⟨some 6, none, .pur .mov [.tmp 22]⟩]) [6])))
  (.reg (straight [⟨some 23, none, .pur (.bin .add) [.tmp 16, .const (.int .i64 1)]⟩, ⟨some 16, none, .pur .mov [.tmp 23]⟩]) [16])))
def S_span_Work : Fun := ⟨26, [2, 3, 0, 1, 4, 16, 15, 17, 14, 6, 8, 5], [.tmp 2, .tmp 3],
  .seq (.reg (straight [⟨some 1, none, .eff (.box 98) [.tmp 0]⟩, ⟨some 2, none, .pur .mov [.const (.int .i64 0)]⟩, ⟨some 3, none, .pur .mov [.const (.int .i64 0)]⟩]) [1, 2, 3])
  (.seq (.reg (straight [⟨some 10, none, .ld (some 3) (.tmp 1)⟩, ⟨some 11, none, .eff (.call 68) [.tmp 10]⟩, ⟨some 9, none, .pur .mov [.tmp 11]⟩, ⟨some 12, none, .pur (.ext 0) [.tmp 9]⟩, ⟨some 13, none, .pur (.ext 1) [.tmp 9]⟩, ⟨some 4, none, .pur .mov [.tmp 12]⟩, ⟨some 5, none, .pur .mov [.tmp 13]⟩]) [4, 5])
  (.seq (.reg (straight [⟨some 6, none, .pur .mov [.const (.int .i64 0)]⟩]) [6])
  (.seq (.seq (.reg (straight [⟨some 14, none, .pur .mov [.tmp 4]⟩, ⟨some 15, none, .pur (.len false) [.tmp 14]⟩, ⟨some 16, none, .pur .mov [.const (.int .i64 0)]⟩]) [14, 15, 16])
  (.block 0 (.loop S_span_Work_L1)))
  (.seq (.reg (straight [⟨some 24, none, .pur .mov [.tmp 6]⟩, ⟨some 25, none, .pur .mov [.tmp 5]⟩, ⟨some 2, none, .pur .mov [.tmp 24]⟩, ⟨some 3, none, .pur .mov [.tmp 25]⟩]) [2, 3])
  (.ret)))))⟩
theorem K_span_Work : compF Try.prog 69 = some S_span_Work := by kernel_rfl

-- 98
def S_span_right : Fun := ⟨11, [2, 0, 4], [.tmp 2],
  .seq (.reg (straight [⟨some 2, none, .pur .mov [.const (.int .i64 0)]⟩]) [2])
  (.seq (.reg (straight [⟨some 6, none, .pur .mov [.tmp 0]⟩, ⟨some 7, none, .eff (.call 48) [.tmp 6]⟩, ⟨some 5, none, .pur .mov [.tmp 7]⟩, ⟨some 8, none, .pur (.ext 0) [.tmp 5]⟩, ⟨some 9, none, .pur (.ext 1) [.tmp 5]⟩, ⟨some 3, none, .pur .mov [.tmp 8]⟩, ⟨some 4, none, .pur .mov [.tmp 9]⟩]) [4])
  (.seq (.reg (straight [⟨some 10, none, .pur .mov [.tmp 4]⟩, ⟨some 2, none, .pur .mov [.tmp 10]⟩]) [2])
  (.ret)))⟩
theorem K_span_right : compF Try.prog 98 = some S_span_right := by kernel_rfl

-- 99
def S_span_plan_next_L1 : SCode :=
  .seq (.reg (straight [⟨some 17, none, .pur (.bin .lss) [.tmp 16, .tmp 15]⟩]) [17])
  (.seq (.cond (.tmp 17) (.skip) (.exit 0))
  (.seq (.block 1 (.seq (.reg (straight [⟨some 18, none, .pur .mov [.tmp 16]⟩, ⟨some 8, none, .pur .mov [.tmp 18]⟩]) [8])
  (.seq (.reg (straight [⟨some 19, none, .pur .mov [.tmp 7]⟩, ⟨some 20, none, .pur (.len false) [.tmp 19]⟩, ⟨some 21, none, .pur .mov [.tmp 2]⟩, ⟨some 22, none, .pur (.bin .lss) [.tmp 20, .tmp 21]⟩, ⟨some 23, none, .pur .mov [.tmp 22]⟩, ⟨some 24, some (23, true), .pur .mov [.tmp 0]⟩, ⟨some 25, some (23, true), .pur .mov [.tmp 8]⟩, ⟨some 26, some (23, true), .pur .mov [.tmp 1]⟩, ⟨some 27, some (23, true), .eff (.call 114) [.tmp 24, .tmp 25, .tmp 26]⟩, ⟨some 28, none, .pur .pick [.tmp 23, .tmp 27, .const (.bool false)]⟩]) [28])
  (.cond (.tmp 28) (.reg (straight [⟨some 29, none, .pur .mov [.tmp 7]⟩, ⟨some 30, none, .pur .mov [.tmp 8]⟩, ⟨some 31, none, .eff (.bsl 3 1) [.tmp 30]⟩, ⟨some 32, none, .eff (.app 3 1 8 [.int .i64 0]) [.tmp 29, .tmp 31]⟩, ⟨some 7, none, .pur .mov [.tmp 32]⟩]) [7]) (.skip)))))
  (.reg (straight [⟨some 33, none, .pur (.bin .add) [.tmp 16, .const (.int .i64 1)]⟩, ⟨some 16, none, .pur .mov [.tmp 33]⟩]) [16])))
def S_span_plan_next_L2 : SCode :=
  .seq (.reg (straight [⟨some 37, none, .pur (.bin .lss) [.tmp 36, .tmp 35]⟩]) [37])
  (.seq (.cond (.tmp 37) (.skip) (.exit 2))
  (.seq (.block 3 (.seq (.reg (straight [⟨some 38, none, .pur (.ixa 1) [.tmp 34, .tmp 36]⟩, ⟨some 39, none, .ld none (.tmp 38)⟩, ⟨some 10, none, .pur .mov [.tmp 39]⟩]) [10])
  (.reg (straight [⟨some 40, none, .pur .mov [.tmp 0]⟩, ⟨some 41, none, .pur .nilc [.tmp 40]⟩, ⟨some 42, none, .pur (.fla 1) [.tmp 41]⟩, ⟨some 43, none, .ld none (.tmp 42)⟩, ⟨some 44, none, .pur .mov [.tmp 10]⟩, ⟨some 45, none, .pur .mov [.tmp 1]⟩, ⟨some 46, none, .pur (.bin .add) [.tmp 45, .const (.int .i64 1)]⟩, ⟨some 47, none, .pur (.ixa 1) [.tmp 43, .tmp 44]⟩, ⟨none, none, .eff (.st 1) [.tmp 47, .tmp 46]⟩]) [])))
  (.reg (straight [⟨some 48, none, .pur (.bin .add) [.tmp 36, .const (.int .i64 1)]⟩, ⟨some 36, none, .pur .mov [.tmp 48]⟩]) [36])))
def S_span_plan_next : Fun := ⟨50, [6, 0, 16, 15, 17, 7, 2, 8, 1, 28, 36, 35, 37, 34, 10], [.tmp 6],
  .seq (.reg (straight [⟨some 6, none, .pur .mov [.const (.slice none 0 0)]⟩]) [6])
  (.seq (.reg (straight [⟨some 7, none, .pur .mov [.const (.slice none 0 0)]⟩]) [7])
  (.seq (.seq (.reg (straight [⟨some 11, none, .pur .mov [.tmp 0]⟩, ⟨some 12, none, .pur .nilc [.tmp 11]⟩, ⟨some 13, none, .pur (.fla 0) [.tmp 12]⟩, ⟨some 14, none, .ld none (.tmp 13)⟩, ⟨some 15, none, .pur (.len false) [.tmp 14]⟩, ⟨some 16, none, .pur .mov [.const (.int .i64 0)]⟩]) [15, 16])
  (.block 0 (.loop S_span_plan_next_L1)))
  (.seq (.seq (.reg (straight [⟨some 34, none, .pur .mov [.tmp 7]⟩, ⟨some 35, none, .pur (.len false) [.tmp 34]⟩, ⟨some 36, none, .pur .mov [.const (.int .i64 0)]⟩]) [34, 35, 36])
  (.block 2 (.loop S_span_plan_next_L2)))
  (.seq (.reg (straight [⟨some 49, none, .pur .mov [.tmp 7]⟩, ⟨some 6, none, .pur .mov [.tmp 49]⟩]) [6])
  (.ret)))))⟩
theorem K_span_plan_next : compF Try.prog 99 = some S_span_plan_next := by kernel_rfl

-- 102
def S_strand_builder_strand : Fun := ⟨48, [6, 1, 0, 13, 2, 4], [.tmp 6],
  .seq (.reg (straight [⟨some 4, none, .eff (.box 166) [.tmp 1]⟩, ⟨some 6, none, .pur .mov [.const (.int .i64 0)]⟩]) [4, 6])
  (.seq (.seq (.reg (straight [⟨some 7, none, .pur .mov [.tmp 0]⟩, ⟨some 8, none, .pur .nilc [.tmp 7]⟩, ⟨some 9, none, .pur (.fla 0) [.tmp 8]⟩, ⟨some 10, none, .pur (.fla 0) [.tmp 9]⟩, ⟨some 11, none, .ld none (.tmp 10)⟩, ⟨some 12, none, .pur (.len false) [.tmp 11]⟩, ⟨some 13, none, .pur (.bin .eql) [.tmp 12, .const (.int .i64 1000)]⟩]) [13])
  (.cond (.tmp 13) (.seq (.reg (straight [⟨some 14, none, .pur .mov [.tmp 0]⟩, ⟨some 15, none, .pur .nilc [.tmp 14]⟩, ⟨some 16, none, .pur (.fla 4) [.tmp 15]⟩, ⟨none, none, .eff (.st 1) [.tmp 16, .const (.bool true)]⟩]) [])
  (.seq (.reg (straight [⟨some 6, none, .pur .mov [.const (.int .i64 0)]⟩]) [6])
  (.ret))) (.skip)))
  (.seq (.reg (straight [⟨some 17, none, .pur .mov [.tmp 0]⟩, ⟨some 18, none, .pur .mov [.tmp 0]⟩, ⟨some 19, none, .pur .nilc [.tmp 18]⟩, ⟨some 20, none, .pur (.fla 0) [.tmp 19]⟩, ⟨some 21, none, .pur (.fla 0) [.tmp 20]⟩, ⟨some 22, none, .ld none (.tmp 21)⟩, ⟨some 23, none, .pur .mov [.tmp 2]⟩, ⟨some 24, none, .eff (.bsl 29 1) [.tmp 23]⟩, ⟨some 25, none, .eff (.app 29 1 24 [.slice none 0 0]) [.tmp 22, .tmp 24]⟩, ⟨some 26, none, .pur .nilc [.tmp 17]⟩, ⟨some 27, none, .pur (.fla 0) [.tmp 26]⟩, ⟨some 28, none, .pur (.fla 0) [.tmp 27]⟩, ⟨none, none, .eff (.st 1) [.tmp 28, .tmp 25]⟩]) [])
  (.seq (.reg (.run ⟨some 29, none, .pur .mov [.tmp 0]⟩ (.run ⟨some 30, none, .pur .mov [.tmp 0]⟩ (.run ⟨some 31, none, .pur .nilc [.tmp 30]⟩ (.run ⟨some 32, none, .pur (.fla 0) [.tmp 31]⟩ (.run ⟨some 33, none, .pur (.fla 1) [.tmp 32]⟩ (.run ⟨some 34, none, .ld none (.tmp 33)⟩ (.run ⟨some 35, none, .ld (some 3) (.tmp 4)⟩ (.eff ⟨some 36, none, .eff (.bsl 166 3) [.tmp 35]⟩ [⟨some 34, none, .ld none (.tmp 33)⟩] (.eff ⟨some 37, none, .eff (.app 166 3 24 [.int .i64 0, .int .i64 0, .int .i64 0]) [.tmp 34, .tmp 36]⟩ [] (.run ⟨some 38, none, .pur .nilc [.tmp 29]⟩ (.run ⟨some 39, none, .pur (.fla 0) [.tmp 38]⟩ (.run ⟨some 40, none, .pur (.fla 1) [.tmp 39]⟩ (.eff ⟨none, none, .eff (.st 1) [.tmp 40, .tmp 37]⟩ [] .done))))))))))))) [])
  (.seq (.reg (straight [⟨some 41, none, .pur .mov [.tmp 0]⟩, ⟨some 42, none, .pur .nilc [.tmp 41]⟩, ⟨some 43, none, .pur (.fla 0) [.tmp 42]⟩, ⟨some 44, none, .pur (.fla 0) [.tmp 43]⟩, ⟨some 45, none, .ld none (.tmp 44)⟩, ⟨some 46, none, .pur (.len false) [.tmp 45]⟩, ⟨some 47, none, .pur (.bin .sub) [.tmp 46, .const (.int .i64 1)]⟩, ⟨some 6, none, .pur .mov [.tmp 47]⟩]) [6])
  (.ret)))))⟩
theorem K_strand_builder_strand : compF Try.prog 102 = some S_strand_builder_strand := by kernel_rfl

-- 103
def S_strand_builder_top : Fun := ⟨15, [2, 0], [.tmp 2],
  .seq (.reg (straight [⟨some 2, none, .pur .mov [.const (.pointer none)]⟩]) [2])
  (.seq (.reg (straight [⟨some 3, none, .pur .mov [.tmp 0]⟩, ⟨some 4, none, .pur .nilc [.tmp 3]⟩, ⟨some 5, none, .pur (.fla 3) [.tmp 4]⟩, ⟨some 6, none, .ld none (.tmp 5)⟩, ⟨some 7, none, .pur .mov [.tmp 0]⟩, ⟨some 8, none, .pur .nilc [.tmp 7]⟩, ⟨some 9, none, .pur (.fla 3) [.tmp 8]⟩, ⟨some 10, none, .ld none (.tmp 9)⟩, ⟨some 11, none, .pur (.len false) [.tmp 10]⟩, ⟨some 12, none, .pur (.bin .sub) [.tmp 11, .const (.int .i64 1)]⟩, ⟨some 13, none, .pur (.ixa 1) [.tmp 6, .tmp 12]⟩, ⟨some 14, none, .ld none (.tmp 13)⟩, ⟨some 2, none, .pur .mov [.tmp 14]⟩]) [2])
  (.ret))⟩
theorem K_strand_builder_top : compF Try.prog 103 = some S_strand_builder_top := by kernel_rfl

-- 106
def S_forebayref30_Dag_frame_L1 : SCode :=
  .seq (.seq (.reg (straight [⟨some 19, none, .pur .mov [.tmp 0]⟩, ⟨some 20, none, .pur .nilc [.tmp 19]⟩, ⟨some 21, none, .pur (.fla 5) [.tmp 20]⟩, ⟨some 22, none, .ld none (.tmp 21)⟩, ⟨some 23, none, .pur .not [.tmp 22]⟩]) [23])
  (.cond (.tmp 23) (.skip) (.exit 0)))
  (.block 1 (.seq (.reg (straight [⟨some 24, none, .pur .mov [.tmp 0]⟩, ⟨some 25, none, .eff (.call 121) [.tmp 24]⟩, ⟨some 13, none, .eff (.new 116 [.int .i64 0, .int .i64 0, .int .i64 0]) []⟩, ⟨none, none, .eff (.st 3) [.tmp 13, .tmp 25]⟩]) [13])
  (.block 2 (.seq (.reg (straight [⟨some 29, none, .pur .mov [.tmp 0]⟩, ⟨some 30, none, .pur .nilc [.tmp 29]⟩, ⟨some 31, none, .pur (.fla 5) [.tmp 30]⟩, ⟨some 32, none, .ld none (.tmp 31)⟩, ⟨some 28, none, .pur .mov [.tmp 32]⟩]) [28])
  (.cond (.tmp 28) (.skip) (.seq (.reg (straight [⟨some 34, none, .pur (.fla 0) [.tmp 13]⟩, ⟨some 35, none, .ld none (.tmp 34)⟩, ⟨some 36, none, .pur (.bin .eql) [.tmp 35, .const (.int .i64 5)]⟩, ⟨some 37, none, .pur .mov [.tmp 36]⟩, ⟨some 38, some (37, true), .pur .mov [.tmp 1]⟩, ⟨some 39, some (37, true), .pur (.bin .eql) [.tmp 38, .const (.int .i64 1)]⟩, ⟨some 40, none, .pur .pick [.tmp 37, .tmp 39, .const (.bool false)]⟩, ⟨some 33, none, .pur .mov [.tmp 40]⟩]) [33])
  (.cond (.tmp 33) (.seq (.reg (straight [⟨some 41, none, .pur .mov [.tmp 11]⟩, ⟨some 42, none, .pur .mov [.tmp 3]⟩, ⟨some 43, none, .pur (.bld [.int .i64 0, .int .i64 0] [(0, 1), (1, 1)]) [.const (.int .i64 0), .tmp 42]⟩, ⟨some 44, none, .eff (.bsl 191 2) [.tmp 43]⟩, ⟨some 45, none, .eff (.app 191 2 16 [.int .i64 0, .int .i64 0]) [.tmp 41, .tmp 44]⟩, ⟨some 10, none, .pur .mov [.tmp 45]⟩]) [10])
  (.ret)) (.seq (.reg (straight [⟨some 47, none, .pur (.fla 0) [.tmp 13]⟩, ⟨some 48, none, .ld none (.tmp 47)⟩, ⟨some 49, none, .pur (.bin .eql) [.tmp 48, .const (.int .i64 10)]⟩, ⟨some 50, none, .pur .mov [.tmp 49]⟩, ⟨some 51, some (50, true), .pur .mov [.tmp 1]⟩, ⟨some 52, some (50, true), .pur (.bin .eql) [.tmp 51, .const (.int .i64 2)]⟩, ⟨some 53, none, .pur .pick [.tmp 50, .tmp 52, .const (.bool false)]⟩, ⟨some 54, none, .pur .mov [.tmp 53]⟩, ⟨some 55, some (54, true), .pur (.fla 1) [.tmp 13]⟩, ⟨some 56, some (54, true), .ld none (.tmp 55)⟩, ⟨some 57, some (54, true), .pur (.fla 1) [.tmp 7]⟩, ⟨some 58, some (54, true), .ld none (.tmp 57)⟩, ⟨some 59, some (54, true), .pur (.bin .eql) [.tmp 56, .tmp 58]⟩, ⟨some 60, none, .pur .pick [.tmp 54, .tmp 59, .const (.bool false)]⟩, ⟨some 46, none, .pur .mov [.tmp 60]⟩]) [46])
  (.cond (.tmp 46) (.seq (.reg (straight [⟨some 61, none, .pur .mov [.tmp 11]⟩, ⟨some 62, none, .pur (.fla 2) [.tmp 7]⟩, ⟨some 63, none, .ld none (.tmp 62)⟩, ⟨some 64, none, .pur .mov [.tmp 3]⟩, ⟨some 65, none, .pur (.bld [.int .i64 0, .int .i64 0] [(0, 1), (1, 1)]) [.tmp 63, .tmp 64]⟩, ⟨some 66, none, .eff (.bsl 191 2) [.tmp 65]⟩, ⟨some 67, none, .eff (.app 191 2 16 [.int .i64 0, .int .i64 0]) [.tmp 61, .tmp 66]⟩, ⟨some 10, none, .pur .mov [.tmp 67]⟩]) [10])
  (.ret)) (.seq (.reg (straight [⟨some 69, none, .pur (.fla 0) [.tmp 13]⟩, ⟨some 70, none, .ld none (.tmp 69)⟩, ⟨some 71, none, .pur (.bin .leq) [.tmp 70, .const (.int .i64 3)]⟩, ⟨some 68, none, .pur .mov [.tmp 71]⟩]) [68])
  (.cond (.tmp 68) (.seq (.reg (straight [⟨some 72, none, .pur .mov [.tmp 3]⟩, ⟨some 73, none, .pur (.fla 1) [.tmp 13]⟩, ⟨some 74, none, .ld none (.tmp 73)⟩, ⟨some 75, none, .pur (.fla 0) [.tmp 13]⟩, ⟨some 76, none, .ld none (.tmp 75)⟩, ⟨some 77, none, .pur (.bin .gtr) [.tmp 76, .const (.int .i64 1)]⟩, ⟨some 78, none, .pur (.bld [.int .i64 0, .int .i64 0, .bool false] [(0, 1), (1, 1), (2, 1)]) [.tmp 72, .tmp 74, .tmp 77]⟩, ⟨some 14, none, .eff (.new 114 [.int .i64 0, .int .i64 0, .bool false]) []⟩, ⟨none, none, .eff (.st 3) [.tmp 14, .tmp 78]⟩]) [14])
  (.seq (.seq (.reg (straight [⟨some 79, none, .pur (.fla 0) [.tmp 13]⟩, ⟨some 80, none, .ld none (.tmp 79)⟩, ⟨some 81, none, .pur (.bin .eql) [.tmp 80, .const (.int .i64 3)]⟩]) [81])
  (.cond (.tmp 81) (.reg (straight [⟨some 82, none, .pur (.fla 1) [.tmp 14]⟩, ⟨none, none, .eff (.st 1) [.tmp 82, .const (.int .i64 (-1))]⟩]) []) (.skip)))
  (.reg (.run ⟨some 83, none, .pur .mov [.tmp 0]⟩ (.run ⟨some 84, none, .pur .mov [.tmp 0]⟩ (.run ⟨some 85, none, .pur .nilc [.tmp 84]⟩ (.run ⟨some 86, none, .pur (.fla 4) [.tmp 85]⟩ (.run ⟨some 87, none, .ld none (.tmp 86)⟩ (.run ⟨some 88, none, .ld (some 3) (.tmp 14)⟩ (.eff ⟨some 89, none, .eff (.bsl 114 3) [.tmp 88]⟩ [⟨some 87, none, .ld none (.tmp 86)⟩] (.eff ⟨some 90, none, .eff (.app 114 3 24 [.int .i64 0, .int .i64 0, .bool false]) [.tmp 87, .tmp 89]⟩ [] (.run ⟨some 91, none, .pur .nilc [.tmp 83]⟩ (.run ⟨some 92, none, .pur (.fla 4) [.tmp 91]⟩ (.eff ⟨none, none, .eff (.st 1) [.tmp 92, .tmp 90]⟩ [] .done))))))))))) []))) (.seq (.reg (straight [⟨some 94, none, .pur (.fla 0) [.tmp 13]⟩, ⟨some 95, none, .ld none (.tmp 94)⟩, ⟨some 96, none, .pur (.bin .eql) [.tmp 95, .const (.int .i64 4)]⟩, ⟨some 93, none, .pur .mov [.tmp 96]⟩]) [93])
  (.cond (.tmp 93) (.seq (.reg (straight [⟨some 97, none, .pur .mov [.tmp 0]⟩, ⟨some 98, none, .pur (.bld [.int .i64 0, .int .i64 0, .int .i64 0] []) []⟩, ⟨some 99, none, .pur .mov [.tmp 3]⟩, ⟨some 100, none, .eff (.bsl 3 1) [.tmp 99]⟩, ⟨some 101, none, .eff (.call 107) [.tmp 97, .tmp 98, .tmp 100]⟩, ⟨some 15, none, .pur .mov [.tmp 101]⟩]) [15])
  (.seq (.reg (straight [⟨some 102, none, .pur .mov [.tmp 0]⟩, ⟨some 103, none, .pur .nilc [.tmp 102]⟩, ⟨some 104, none, .pur (.fla 5) [.tmp 103]⟩, ⟨some 105, none, .ld none (.tmp 104)⟩, ⟨some 106, none, .pur .not [.tmp 105]⟩]) [106])
  (.cond (.tmp 106) (.seq (.reg (straight [⟨some 107, none, .pur .mov [.tmp 0]⟩, ⟨some 108, none, .pur (.bld [.int .i64 0, .int .i64 0, .int .i64 0] []) []⟩, ⟨some 109, none, .pur .mov [.tmp 15]⟩, ⟨some 110, none, .eff (.call 106) [.tmp 107, .const (.int .i64 1), .tmp 108, .tmp 109, .const (.slice none 0 0)]⟩, ⟨some 16, none, .pur .mov [.tmp 110]⟩]) [16])
  (.seq (.reg (straight [⟨some 111, none, .pur .mov [.tmp 0]⟩, ⟨some 112, none, .pur .nilc [.tmp 111]⟩, ⟨some 113, none, .pur (.fla 5) [.tmp 112]⟩, ⟨some 114, none, .ld none (.tmp 113)⟩, ⟨some 115, none, .pur .not [.tmp 114]⟩]) [115])
  (.cond (.tmp 115) (.seq (.reg (straight [⟨some 116, none, .pur .mov [.tmp 12]⟩, ⟨some 117, none, .pur .mov [.tmp 16]⟩, ⟨some 118, none, .pur (.ixa 2) [.tmp 117, .const (.int .i64 0)]⟩, ⟨some 119, none, .pur (.fla 1) [.tmp 118]⟩, ⟨some 120, none, .ld none (.tmp 119)⟩, ⟨some 121, none, .eff (.bsl 3 1) [.tmp 120]⟩, ⟨some 122, none, .eff (.app 3 1 8 [.int .i64 0]) [.tmp 116, .tmp 121]⟩, ⟨some 12, none, .pur .mov [.tmp 122]⟩]) [12])
  (.reg (straight [⟨some 123, none, .pur .mov [.tmp 0]⟩, ⟨some 124, none, .ld (some 3) (.tmp 7)⟩, ⟨some 125, none, .pur .mov [.tmp 3]⟩, ⟨some 126, none, .eff (.bsl 3 1) [.tmp 125]⟩, ⟨some 127, none, .eff (.call 107) [.tmp 123, .tmp 124, .tmp 126]⟩, ⟨some 3, none, .pur .mov [.tmp 127]⟩]) [3])) (.skip)))) (.skip)))) (.seq (.reg (straight [⟨some 129, none, .pur (.fla 0) [.tmp 13]⟩, ⟨some 130, none, .ld none (.tmp 129)⟩, ⟨some 131, none, .pur (.bin .eql) [.tmp 130, .const (.int .i64 6)]⟩, ⟨some 128, none, .pur .mov [.tmp 131]⟩]) [128])
  (.cond (.tmp 128) (.seq (.reg (.run ⟨some 132, none, .pur .mov [.tmp 0]⟩ (.run ⟨some 133, none, .ld (some 3) (.tmp 7)⟩ (.run ⟨some 134, none, .pur .mov [.tmp 3]⟩ (.run ⟨some 136, none, .pur .mov [.tmp 12]⟩ (.eff ⟨some 135, none, .eff (.bsl 3 1) [.tmp 134]⟩ [⟨some 133, none, .ld (some 3) (.tmp 7)⟩] (.eff ⟨some 137, none, .eff (.app 3 1 8 [.int .i64 0]) [.tmp 135, .tmp 136]⟩ [⟨some 133, none, .ld (some 3) (.tmp 7)⟩] (.eff ⟨some 138, none, .eff (.call 107) [.tmp 132, .tmp 133, .tmp 137]⟩ [] (.eff ⟨some 3, none, .pur .mov [.tmp 138]⟩ [] .done)))))))) [3])
  (.reg (straight [⟨some 12, none, .pur .mov [.const (.slice none 0 0)]⟩]) [12])) (.seq (.reg (straight [⟨some 140, none, .pur (.fla 0) [.tmp 13]⟩, ⟨some 141, none, .ld none (.tmp 140)⟩, ⟨some 142, none, .pur (.bin .eql) [.tmp 141, .const (.int .i64 7)]⟩, ⟨some 139, none, .pur .mov [.tmp 142]⟩]) [139])
  (.cond (.tmp 139) (.seq (.reg (straight [⟨some 143, none, .pur .mov [.tmp 0]⟩, ⟨some 144, none, .pur (.fla 1) [.tmp 13]⟩, ⟨some 145, none, .ld none (.tmp 144)⟩, ⟨some 146, none, .pur .mov [.tmp 3]⟩, ⟨some 147, none, .eff (.call 122) [.tmp 143, .tmp 145, .tmp 146]⟩, ⟨some 17, none, .pur .mov [.tmp 147]⟩]) [17])
  (.seq (.reg (straight [⟨some 148, none, .pur .mov [.tmp 0]⟩, ⟨some 149, none, .pur .nilc [.tmp 148]⟩, ⟨some 150, none, .pur (.fla 5) [.tmp 149]⟩, ⟨some 151, none, .ld none (.tmp 150)⟩, ⟨some 152, none, .pur .not [.tmp 151]⟩]) [152])
  (.cond (.tmp 152) (.reg (straight [⟨some 153, none, .pur .mov [.tmp 0]⟩, ⟨some 154, none, .ld (some 3) (.tmp 7)⟩, ⟨some 155, none, .pur .mov [.tmp 17]⟩, ⟨some 156, none, .eff (.call 107) [.tmp 153, .tmp 154, .tmp 155]⟩, ⟨some 3, none, .pur .mov [.tmp 156]⟩]) [3]) (.skip)))) (.seq (.reg (straight [⟨some 158, none, .pur (.fla 0) [.tmp 13]⟩, ⟨some 159, none, .ld none (.tmp 158)⟩, ⟨some 160, none, .pur (.bin .geq) [.tmp 159, .const (.int .i64 11)]⟩, ⟨some 161, none, .pur .mov [.tmp 160]⟩, ⟨some 162, some (161, true), .pur .mov [.tmp 1]⟩, ⟨some 163, some (161, true), .pur (.bin .eql) [.tmp 162, .const (.int .i64 2)]⟩, ⟨some 164, none, .pur .pick [.tmp 161, .tmp 163, .const (.bool false)]⟩, ⟨some 165, none, .pur .mov [.tmp 164]⟩, ⟨some 166, some (165, true), .pur (.fla 1) [.tmp 13]⟩, ⟨some 167, some (165, true), .ld none (.tmp 166)⟩, ⟨some 168, some (165, true), .pur (.fla 2) [.tmp 7]⟩, ⟨some 169, some (165, true), .ld none (.tmp 168)⟩, ⟨some 170, some (165, true), .pur (.bin .gtr) [.tmp 167, .tmp 169]⟩, ⟨some 171, none, .pur .pick [.tmp 165, .tmp 170, .const (.bool false)]⟩, ⟨some 157, none, .pur .mov [.tmp 171]⟩]) [157])
  (.cond (.tmp 157) (.seq (.reg (straight [⟨some 172, none, .pur .mov [.tmp 11]⟩, ⟨some 173, none, .pur (.fla 2) [.tmp 7]⟩, ⟨some 174, none, .ld none (.tmp 173)⟩, ⟨some 175, none, .pur .mov [.tmp 3]⟩, ⟨some 176, none, .pur (.bld [.int .i64 0, .int .i64 0] [(0, 1), (1, 1)]) [.tmp 174, .tmp 175]⟩, ⟨some 177, none, .eff (.bsl 191 2) [.tmp 176]⟩, ⟨some 178, none, .eff (.app 191 2 16 [.int .i64 0, .int .i64 0]) [.tmp 172, .tmp 177]⟩, ⟨some 11, none, .pur .mov [.tmp 178]⟩]) [11])
  (.seq (.reg (straight [⟨some 179, none, .pur .mov [.tmp 3]⟩, ⟨some 180, none, .eff (.bsl 3 1) [.tmp 179]⟩, ⟨some 18, none, .pur .mov [.tmp 180]⟩]) [18])
  (.seq (.seq (.reg (straight [⟨some 181, none, .pur (.fla 0) [.tmp 13]⟩, ⟨some 182, none, .ld none (.tmp 181)⟩, ⟨some 183, none, .pur (.bin .eql) [.tmp 182, .const (.int .i64 11)]⟩, ⟨some 184, none, .pur .mov [.tmp 183]⟩, ⟨some 185, some (184, true), .pur (.fla 1) [.tmp 7]⟩, ⟨some 186, some (184, true), .ld none (.tmp 185)⟩, ⟨some 187, some (184, true), .pur (.bin .gtr) [.tmp 186, .const (.int .i64 0)]⟩, ⟨some 188, none, .pur .pick [.tmp 184, .tmp 187, .const (.bool false)]⟩]) [188])
  (.cond (.tmp 188) (.reg (straight [⟨some 189, none, .pur .mov [.tmp 18]⟩, ⟨some 190, none, .pur .mov [.tmp 4]⟩, ⟨some 191, none, .pur (.fla 1) [.tmp 13]⟩, ⟨some 192, none, .ld none (.tmp 191)⟩, ⟨some 193, none, .eff (.call 123) [.tmp 190, .tmp 192]⟩, ⟨some 194, none, .eff (.bsl 3 1) [.tmp 193]⟩, ⟨some 195, none, .eff (.app 3 1 8 [.int .i64 0]) [.tmp 189, .tmp 194]⟩, ⟨some 18, none, .pur .mov [.tmp 195]⟩]) [18]) (.skip)))
  (.seq (.reg (straight [⟨some 196, none, .pur (.fla 1) [.tmp 13]⟩, ⟨some 197, none, .ld none (.tmp 196)⟩, ⟨some 198, none, .pur (.fla 2) [.tmp 7]⟩, ⟨none, none, .eff (.st 1) [.tmp 198, .tmp 197]⟩]) [])
  (.reg (straight [⟨some 199, none, .pur .mov [.tmp 0]⟩, ⟨some 200, none, .ld (some 3) (.tmp 7)⟩, ⟨some 201, none, .pur .mov [.tmp 18]⟩, ⟨some 202, none, .eff (.call 107) [.tmp 199, .tmp 200, .tmp 201]⟩, ⟨some 3, none, .pur .mov [.tmp 202]⟩]) [3]))))) (.reg (straight [⟨some 26, none, .pur .mov [.tmp 0]⟩, ⟨some 27, none, .eff (.call 124) [.tmp 26]⟩]) []))))))))))))))))))))
def S_forebayref30_Dag_frame : Fun := ⟨203, [10, 2, 0, 23, 28, 13, 1, 33, 11, 3, 7, 46, 68, 81, 14, 93, 106, 15, 115, 12, 16, 128, 139, 152, 17, 157, 188, 18, 4], [.tmp 10],
  .seq (.reg (straight [⟨some 7, none, .eff (.box 178) [.tmp 2]⟩, ⟨some 10, none, .pur .mov [.const (.slice none 0 0)]⟩]) [7, 10])
  (.seq (.reg (straight [⟨some 11, none, .pur .mov [.const (.slice none 0 0)]⟩]) [11])
  (.seq (.reg (straight [⟨some 12, none, .pur .mov [.const (.slice none 0 0)]⟩]) [12])
  (.seq (.block 0 (.loop S_forebayref30_Dag_frame_L1))
  (.seq (.reg (straight [⟨some 10, none, .pur .mov [.const (.slice none 0 0)]⟩]) [10])
  (.ret)))))⟩
theorem K_forebayref30_Dag_frame : compF Try.prog 106 = some S_forebayref30_Dag_frame := by kernel_rfl

-- 125
def S_log_Log_those_1_L1 : SCode :=
  .seq (.reg (straight [⟨some 10, none, .pur (.bin .lss) [.tmp 9, .tmp 8]⟩]) [10])
  (.seq (.cond (.tmp 10) (.skip) (.exit 0))
  (.seq (.block 1 (.seq (.reg (straight [⟨some 11, none, .pur .mov [.tmp 9]⟩, ⟨some 12, none, .pur (.ixa 4) [.tmp 7, .tmp 9]⟩, ⟨some 13, none, .ld (some 4) (.tmp 12)⟩, ⟨some 5, none, .eff (.new 28 [.int .i64 0, .int .i64 0, .int .i64 0, .int .i64 0]) []⟩, ⟨some 4, none, .pur .mov [.tmp 11]⟩, ⟨none, none, .eff (.st 4) [.tmp 5, .tmp 13]⟩]) [5, 4])
  (.seq (.reg (straight [⟨some 14, none, .ld none (.tmp 2)⟩, ⟨some 15, none, .ld (some 4) (.tmp 5)⟩, ⟨some 16, none, .eff .callv [.tmp 14, .tmp 15]⟩, ⟨some 17, none, .pur .mov [.tmp 16]⟩, ⟨some 18, some (17, true), .pur .mov [.tmp 0]⟩, ⟨some 19, some (17, true), .pur .mov [.tmp 4]⟩, ⟨some 20, some (17, true), .ld (some 4) (.tmp 5)⟩, ⟨some 21, some (17, true), .eff .callv [.tmp 18, .tmp 19, .tmp 20]⟩, ⟨some 22, some (17, true), .pur .not [.tmp 21]⟩, ⟨some 23, none, .pur .pick [.tmp 17, .tmp 22, .const (.bool false)]⟩]) [23])
  (.cond (.tmp 23) (.ret) (.skip)))))
  (.reg (straight [⟨some 24, none, .pur (.bin .add) [.tmp 9, .const (.int .i64 1)]⟩, ⟨some 9, none, .pur .mov [.tmp 24]⟩]) [9])))
def S_log_Log_those_1 : Fun := ⟨25, [1, 9, 8, 10, 7, 2, 5, 0, 4, 23], [],
  .seq (.reg (straight [⟨some 6, none, .ld none (.tmp 1)⟩, ⟨some 7, none, .eff (.call 80) [.tmp 6]⟩, ⟨some 8, none, .pur (.len false) [.tmp 7]⟩, ⟨some 9, none, .pur .mov [.const (.int .i64 0)]⟩]) [7, 8, 9])
  (.block 0 (.loop S_log_Log_those_1_L1))⟩
theorem K_log_Log_those_1 : compF Try.prog 125 = some S_log_Log_those_1 := by kernel_rfl

-- 126
def S_sink_Differ_L1 : SCode :=
  .seq (.reg (straight [⟨some 13, none, .pur (.bin .lss) [.tmp 12, .tmp 11]⟩]) [13])
  (.seq (.cond (.tmp 13) (.skip) (.exit 0))
  (.seq (.block 1 (.seq (.reg (straight [⟨some 14, none, .pur .mov [.tmp 12]⟩, ⟨some 6, none, .pur .mov [.tmp 14]⟩]) [6])
  (.seq (.reg (straight [⟨some 15, none, .pur .mov [.tmp 0]⟩, ⟨some 16, none, .pur .mov [.tmp 6]⟩, ⟨some 17, none, .pur (.ixa 1) [.tmp 15, .tmp 16]⟩, ⟨some 18, none, .ld none (.tmp 17)⟩, ⟨some 19, none, .pur .mov [.tmp 1]⟩, ⟨some 20, none, .pur .mov [.tmp 6]⟩, ⟨some 21, none, .pur (.ixa 1) [.tmp 19, .tmp 20]⟩, ⟨some 22, none, .ld none (.tmp 21)⟩, ⟨some 23, none, .pur (.bin .neq) [.tmp 18, .tmp 22]⟩]) [23])
  (.cond (.tmp 23) (.seq (.reg (straight [⟨some 24, none, .pur .mov [.tmp 6]⟩, ⟨some 4, none, .pur .mov [.tmp 24]⟩, ⟨some 5, none, .pur .mov [.const (.bool true)]⟩]) [4, 5])
  (.ret)) (.skip)))))
  (.reg (straight [⟨some 25, none, .pur (.bin .add) [.tmp 12, .const (.int .i64 1)]⟩, ⟨some 12, none, .pur .mov [.tmp 25]⟩]) [12])))
def S_sink_Differ : Fun := ⟨36, [4, 5, 0, 1, 12, 11, 13, 6, 23, 30], [.tmp 4, .tmp 5],
  .seq (.reg (straight [⟨some 4, none, .pur .mov [.const (.int .i64 0)]⟩, ⟨some 5, none, .pur .mov [.const (.bool false)]⟩]) [4, 5])
  (.seq (.seq (.reg (straight [⟨some 7, none, .pur .mov [.tmp 0]⟩, ⟨some 8, none, .pur (.len false) [.tmp 7]⟩, ⟨some 9, none, .pur .mov [.tmp 1]⟩, ⟨some 10, none, .pur (.len false) [.tmp 9]⟩, ⟨some 11, none, .pur (.minmax false) [.tmp 8, .tmp 10]⟩, ⟨some 12, none, .pur .mov [.const (.int .i64 0)]⟩]) [11, 12])
  (.block 0 (.loop S_sink_Differ_L1)))
  (.seq (.seq (.reg (straight [⟨some 26, none, .pur .mov [.tmp 0]⟩, ⟨some 27, none, .pur (.len false) [.tmp 26]⟩, ⟨some 28, none, .pur .mov [.tmp 1]⟩, ⟨some 29, none, .pur (.len false) [.tmp 28]⟩, ⟨some 30, none, .pur (.bin .eql) [.tmp 27, .tmp 29]⟩]) [30])
  (.cond (.tmp 30) (.seq (.reg (straight [⟨some 4, none, .pur .mov [.const (.int .i64 0)]⟩, ⟨some 5, none, .pur .mov [.const (.bool false)]⟩]) [4, 5])
  (.ret)) (.skip)))
  (.seq (.reg (straight [⟨some 31, none, .pur .mov [.tmp 0]⟩, ⟨some 32, none, .pur (.len false) [.tmp 31]⟩, ⟨some 33, none, .pur .mov [.tmp 1]⟩, ⟨some 34, none, .pur (.len false) [.tmp 33]⟩, ⟨some 35, none, .pur (.minmax false) [.tmp 32, .tmp 34]⟩, ⟨some 4, none, .pur .mov [.tmp 35]⟩, ⟨some 5, none, .pur .mov [.const (.bool true)]⟩]) [4, 5])
  (.ret))))⟩
theorem K_sink_Differ : compF Try.prog 126 = some S_sink_Differ := by kernel_rfl

end Go.Proofs.Ytilofhocodbknaa
