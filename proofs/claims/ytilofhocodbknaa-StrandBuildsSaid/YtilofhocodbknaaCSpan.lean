import Derived.Test.YtilofhocodbknaaKj
import Derived.Test.YtilofhocodbknaaProg
import Derived.KernelRfl
namespace Go.Proofs.Ytilofhocodbknaa
open Go Go.Kx Go.Proofs
set_option linter.unusedVariables false
set_option maxRecDepth 100000

-- 13
def S_forebaylaw41_SpanPlans_L2 : SCode :=
  .seq (.seq (.reg (straight [⟨some 102, none, .pur .mov [.tmp 17]⟩, ⟨some 103, none, .pur .mov [.tmp 5]⟩, ⟨some 104, none, .pur (.len false) [.tmp 103]⟩, ⟨some 105, none, .pur (.bin .lss) [.tmp 102, .tmp 104]⟩]) [105])
  (.cond (.tmp 105) (.skip) (.exit 2)))
  (.seq (.block 3 (.seq (.reg (straight [⟨some 108, none, .pur .mov [.tmp 5]⟩, ⟨some 109, none, .pur .mov [.tmp 17]⟩, ⟨some 110, none, .pur (.ixa 1) [.tmp 108, .tmp 109]⟩, ⟨some 111, none, .ld none (.tmp 110)⟩, ⟨some 112, none, .pur .mov [.tmp 5]⟩, ⟨some 113, none, .pur .mov [.tmp 15]⟩, ⟨some 114, none, .pur (.ixa 1) [.tmp 112, .tmp 113]⟩, ⟨some 115, none, .ld none (.tmp 114)⟩, ⟨some 116, none, .pur (.bin .eql) [.tmp 111, .tmp 115]⟩]) [116])
  (.cond (.tmp 116) (.reg (straight [⟨some 117, none, .pur .mov [.tmp 16]⟩, ⟨some 118, none, .pur (.bin .add) [.tmp 117, .const (.int .i64 1)]⟩, ⟨some 16, none, .pur .mov [.tmp 118]⟩]) [16]) (.skip))))
  (.reg (straight [⟨some 106, none, .pur .mov [.tmp 17]⟩, ⟨some 107, none, .pur (.bin .add) [.tmp 106, .const (.int .i64 1)]⟩, ⟨some 17, none, .pur .mov [.tmp 107]⟩]) [17]))
def S_forebaylaw41_SpanPlans_L1 : SCode :=
  .seq (.seq (.reg (straight [⟨some 82, none, .pur .mov [.tmp 15]⟩, ⟨some 83, none, .pur .mov [.tmp 0]⟩, ⟨some 84, none, .pur (.len false) [.tmp 83]⟩, ⟨some 85, none, .pur (.bin .lss) [.tmp 82, .tmp 84]⟩]) [85])
  (.cond (.tmp 85) (.skip) (.exit 0)))
  (.seq (.block 1 (.seq (.seq (.reg (.run ⟨some 88, none, .pur .mov [.tmp 15]⟩ (.run ⟨some 89, none, .pur .mov [.tmp 5]⟩ (.run ⟨some 90, none, .pur (.len false) [.tmp 89]⟩ (.run ⟨some 91, none, .pur (.bin .geq) [.tmp 88, .tmp 90]⟩ (.run ⟨some 92, none, .pur .mov [.tmp 91]⟩ (.run ⟨some 93, some (92, false), .pur .mov [.tmp 5]⟩ (.run ⟨some 94, some (92, false), .pur .mov [.tmp 15]⟩ (.run ⟨some 95, some (92, false), .pur (.ixa 1) [.tmp 93, .tmp 94]⟩ (.run ⟨some 96, some (92, false), .ld none (.tmp 95)⟩ (.run ⟨some 97, some (92, false), .pur .mov [.tmp 0]⟩ (.run ⟨some 98, some (92, false), .pur .mov [.tmp 15]⟩ (.eff ⟨some 99, some (92, false), .eff (.call 64) [.tmp 97, .tmp 98]⟩ [⟨some 96, some (92, false), .ld none (.tmp 95)⟩] (.run ⟨some 100, some (92, false), .pur (.bin .neq) [.tmp 96, .tmp 99]⟩ (.run ⟨some 101, none, .pur .pick [.tmp 92, .const (.bool true), .tmp 100]⟩ .done)))))))))))))) [101])
  (.cond (.tmp 101) (.seq (.reg (straight [⟨some 4, none, .pur .mov [.const (.bool false)]⟩]) [4])
  (.ret)) (.skip)))
  (.seq (.reg (straight [⟨some 16, none, .pur .mov [.const (.int .i64 0)]⟩]) [16])
  (.seq (.seq (.reg (straight [⟨some 17, none, .pur .mov [.const (.int .i64 0)]⟩]) [17])
  (.block 2 (.loop S_forebaylaw41_SpanPlans_L2)))
  (.reg (straight [⟨some 119, none, .pur .mov [.tmp 14]⟩, ⟨some 120, none, .pur .mov [.tmp 16]⟩, ⟨some 121, none, .pur (.minmax true) [.tmp 119, .tmp 120]⟩, ⟨some 14, none, .pur .mov [.tmp 121]⟩]) [14])))))
  (.reg (straight [⟨some 86, none, .pur .mov [.tmp 15]⟩, ⟨some 87, none, .pur (.bin .add) [.tmp 86, .const (.int .i64 1)]⟩, ⟨some 15, none, .pur .mov [.tmp 87]⟩]) [15]))
def S_forebaylaw41_SpanPlans_L3 : SCode :=
  .seq (.seq (.reg (straight [⟨some 148, none, .pur .mov [.tmp 19]⟩, ⟨some 149, none, .pur .mov [.tmp 9]⟩, ⟨some 150, none, .pur (.len false) [.tmp 149]⟩, ⟨some 151, none, .pur (.bin .lss) [.tmp 148, .tmp 150]⟩]) [151])
  (.cond (.tmp 151) (.skip) (.exit 4)))
  (.seq (.block 5 (.seq (.reg (.run ⟨some 154, none, .pur .mov [.tmp 9]⟩ (.run ⟨some 155, none, .pur .mov [.tmp 19]⟩ (.run ⟨some 156, none, .pur (.ixa 1) [.tmp 154, .tmp 155]⟩ (.run ⟨some 157, none, .ld none (.tmp 156)⟩ (.run ⟨some 158, none, .pur .mov [.tmp 18]⟩ (.run ⟨some 159, none, .pur .mov [.tmp 19]⟩ (.run ⟨some 160, none, .pur (.ixa 1) [.tmp 158, .tmp 159]⟩ (.run ⟨some 161, none, .ld none (.tmp 160)⟩ (.eff ⟨some 162, none, .eff (.call 66) [.tmp 157, .tmp 161]⟩ [] (.run ⟨some 163, none, .pur .not [.tmp 162]⟩ .done)))))))))) [163])
  (.cond (.tmp 163) (.seq (.reg (straight [⟨some 4, none, .pur .mov [.const (.bool false)]⟩]) [4])
  (.ret)) (.skip))))
  (.reg (straight [⟨some 152, none, .pur .mov [.tmp 19]⟩, ⟨some 153, none, .pur (.bin .add) [.tmp 152, .const (.int .i64 1)]⟩, ⟨some 19, none, .pur .mov [.tmp 153]⟩]) [19]))
def S_forebaylaw41_SpanPlans : Fun := ⟨164, [4, 21, 0, 23, 1, 6, 13, 8, 10, 12, 69, 71, 5, 9, 7, 11, 15, 85, 101, 17, 105, 116, 16, 14, 18, 147, 19, 151, 163], [.tmp 4],
  .seq (.reg (straight [⟨some 4, none, .pur .mov [.const (.bool false)]⟩]) [4])
  (.seq (.seq (.reg (straight [⟨some 20, none, .eff (.call 57) []⟩, ⟨some 21, none, .pur .not [.tmp 20]⟩]) [21])
  (.cond (.tmp 21) (.seq (.reg (straight [⟨some 4, none, .pur .mov [.const (.bool false)]⟩]) [4])
  (.ret)) (.skip)))
  (.seq (.seq (.reg (straight [⟨some 22, none, .pur .mov [.tmp 0]⟩, ⟨some 23, none, .eff (.call 58) [.tmp 22, .const (.slice none 0 0)]⟩]) [23])
  (.cond (.tmp 23) (.seq (.reg (straight [⟨some 4, none, .pur .mov [.const (.bool true)]⟩]) [4])
  (.ret)) (.skip)))
  (.seq (.reg (straight [⟨some 25, none, .pur .mov [.tmp 0]⟩, ⟨some 26, none, .eff (.call 60) [.tmp 25]⟩, ⟨some 27, none, .eff (.call 59) [.tmp 26]⟩, ⟨some 24, none, .pur .mov [.tmp 27]⟩, ⟨some 28, none, .pur (.ext 0) [.tmp 24]⟩, ⟨some 29, none, .pur (.ext 1) [.tmp 24]⟩, ⟨some 5, none, .pur .mov [.tmp 28]⟩, ⟨some 6, none, .pur .mov [.tmp 29]⟩]) [5, 6])
  (.seq (.reg (straight [⟨some 31, none, .pur .mov [.tmp 0]⟩, ⟨some 32, none, .eff (.call 60) [.tmp 31]⟩, ⟨some 33, none, .eff (.call 61) [.tmp 32]⟩, ⟨some 30, none, .pur .mov [.tmp 33]⟩, ⟨some 34, none, .pur (.ext 0) [.tmp 30]⟩, ⟨some 35, none, .pur (.ext 1) [.tmp 30]⟩, ⟨some 7, none, .pur .mov [.tmp 34]⟩, ⟨some 8, none, .pur .mov [.tmp 35]⟩]) [7, 8])
  (.seq (.reg (straight [⟨some 37, none, .pur .mov [.tmp 0]⟩, ⟨some 38, none, .eff (.call 60) [.tmp 37]⟩, ⟨some 39, none, .pur .mov [.tmp 1]⟩, ⟨some 40, none, .eff (.call 62) [.tmp 38, .tmp 39]⟩, ⟨some 36, none, .pur .mov [.tmp 40]⟩, ⟨some 41, none, .pur (.ext 0) [.tmp 36]⟩, ⟨some 42, none, .pur (.ext 1) [.tmp 36]⟩, ⟨some 9, none, .pur .mov [.tmp 41]⟩, ⟨some 10, none, .pur .mov [.tmp 42]⟩]) [9, 10])
  (.seq (.reg (straight [⟨some 44, none, .pur .mov [.tmp 0]⟩, ⟨some 45, none, .eff (.call 60) [.tmp 44]⟩, ⟨some 46, none, .pur .mov [.tmp 1]⟩, ⟨some 47, none, .eff (.call 63) [.tmp 45, .tmp 46]⟩, ⟨some 43, none, .pur .mov [.tmp 47]⟩, ⟨some 48, none, .pur (.ext 0) [.tmp 43]⟩, ⟨some 49, none, .pur (.ext 1) [.tmp 43]⟩, ⟨some 11, none, .pur .mov [.tmp 48]⟩, ⟨some 12, none, .pur .mov [.tmp 49]⟩]) [11, 12])
  (.seq (.reg (straight [⟨some 50, none, .pur .mov [.tmp 0]⟩, ⟨some 51, none, .eff (.call 47) [.tmp 50]⟩, ⟨some 13, none, .pur .mov [.tmp 51]⟩]) [13])
  (.seq (.seq (.reg (straight [⟨some 52, none, .pur .mov [.tmp 6]⟩, ⟨some 53, none, .pur .mov [.tmp 13]⟩, ⟨some 54, none, .pur (.bin .neq) [.tmp 52, .tmp 53]⟩, ⟨some 55, none, .pur .mov [.tmp 54]⟩, ⟨some 56, some (55, false), .pur .mov [.tmp 8]⟩, ⟨some 57, some (55, false), .pur .mov [.tmp 13]⟩, ⟨some 58, some (55, false), .pur (.bin .neq) [.tmp 56, .tmp 57]⟩, ⟨some 59, none, .pur .pick [.tmp 55, .const (.bool true), .tmp 58]⟩, ⟨some 60, none, .pur .mov [.tmp 59]⟩, ⟨some 61, some (60, false), .pur .mov [.tmp 10]⟩, ⟨some 62, some (60, false), .pur .mov [.tmp 13]⟩, ⟨some 63, some (60, false), .pur (.bin .neq) [.tmp 61, .tmp 62]⟩, ⟨some 64, none, .pur .pick [.tmp 60, .const (.bool true), .tmp 63]⟩, ⟨some 65, none, .pur .mov [.tmp 64]⟩, ⟨some 66, some (65, false), .pur .mov [.tmp 12]⟩, ⟨some 67, some (65, false), .pur .mov [.tmp 13]⟩, ⟨some 68, some (65, false), .pur (.bin .neq) [.tmp 66, .tmp 67]⟩, ⟨some 69, none, .pur .pick [.tmp 65, .const (.bool true), .tmp 68]⟩]) [69])
  (.cond (.tmp 69) (.seq (.reg (straight [⟨some 4, none, .pur .mov [.const (.bool false)]⟩]) [4])
  (.ret)) (.skip)))
  (.seq (.seq (.reg (straight [⟨some 70, none, .pur .mov [.tmp 13]⟩, ⟨some 71, none, .pur (.bin .neq) [.tmp 70, .const (.int .i64 0)]⟩]) [71])
  (.cond (.tmp 71) (.seq (.reg (straight [⟨some 72, none, .pur .mov [.tmp 5]⟩, ⟨some 73, none, .pur (.len false) [.tmp 72]⟩, ⟨some 74, none, .pur .mov [.tmp 9]⟩, ⟨some 75, none, .pur (.len false) [.tmp 74]⟩, ⟨some 76, none, .pur (.bin .add) [.tmp 73, .tmp 75]⟩, ⟨some 77, none, .pur .mov [.tmp 7]⟩, ⟨some 78, none, .pur (.bin .add) [.tmp 76, .tmp 77]⟩, ⟨some 79, none, .pur .mov [.tmp 11]⟩, ⟨some 80, none, .pur (.bin .add) [.tmp 78, .tmp 79]⟩, ⟨some 81, none, .pur (.bin .eql) [.tmp 80, .const (.int .i64 0)]⟩, ⟨some 4, none, .pur .mov [.tmp 81]⟩]) [4])
  (.ret)) (.skip)))
  (.seq (.reg (straight [⟨some 14, none, .pur .mov [.const (.int .i64 0)]⟩]) [14])
  (.seq (.seq (.reg (straight [⟨some 15, none, .pur .mov [.const (.int .i64 0)]⟩]) [15])
  (.block 0 (.loop S_forebaylaw41_SpanPlans_L1)))
  (.seq (.reg (straight [⟨some 122, none, .pur .mov [.tmp 0]⟩, ⟨some 123, none, .pur .mov [.tmp 1]⟩, ⟨some 124, none, .eff (.call 65) [.tmp 122, .tmp 123]⟩, ⟨some 18, none, .pur .mov [.tmp 124]⟩]) [18])
  (.seq (.seq (.reg (straight [⟨some 125, none, .pur .mov [.tmp 5]⟩, ⟨some 126, none, .pur (.len false) [.tmp 125]⟩, ⟨some 127, none, .pur .mov [.tmp 0]⟩, ⟨some 128, none, .pur (.len false) [.tmp 127]⟩, ⟨some 129, none, .pur (.bin .neq) [.tmp 126, .tmp 128]⟩, ⟨some 130, none, .pur .mov [.tmp 129]⟩, ⟨some 131, some (130, false), .pur .mov [.tmp 7]⟩, ⟨some 132, some (130, false), .pur .mov [.tmp 14]⟩, ⟨some 133, some (130, false), .pur (.bin .neq) [.tmp 131, .tmp 132]⟩, ⟨some 134, none, .pur .pick [.tmp 130, .const (.bool true), .tmp 133]⟩, ⟨some 135, none, .pur .mov [.tmp 134]⟩, ⟨some 136, some (135, false), .pur .mov [.tmp 9]⟩, ⟨some 137, some (135, false), .pur (.len false) [.tmp 136]⟩, ⟨some 138, some (135, false), .pur .mov [.tmp 18]⟩, ⟨some 139, some (135, false), .pur (.len false) [.tmp 138]⟩, ⟨some 140, some (135, false), .pur (.bin .neq) [.tmp 137, .tmp 139]⟩, ⟨some 141, none, .pur .pick [.tmp 135, .const (.bool true), .tmp 140]⟩, ⟨some 142, none, .pur .mov [.tmp 141]⟩, ⟨some 143, some (142, false), .pur .mov [.tmp 11]⟩, ⟨some 144, some (142, false), .pur .mov [.tmp 18]⟩, ⟨some 145, some (142, false), .pur (.len false) [.tmp 144]⟩, ⟨some 146, some (142, false), .pur (.bin .neq) [.tmp 143, .tmp 145]⟩, ⟨some 147, none, .pur .pick [.tmp 142, .const (.bool true), .tmp 146]⟩]) [147])
  (.cond (.tmp 147) (.seq (.reg (straight [⟨some 4, none, .pur .mov [.const (.bool false)]⟩]) [4])
  (.ret)) (.skip)))
  (.seq (.seq (.reg (straight [⟨some 19, none, .pur .mov [.const (.int .i64 0)]⟩]) [19])
  (.block 4 (.loop S_forebaylaw41_SpanPlans_L3)))
  (.seq (.reg (straight [⟨some 4, none, .pur .mov [.const (.bool true)]⟩]) [4])
  (.ret))))))))))))))))⟩
theorem K_forebaylaw41_SpanPlans : compF Try.prog 13 = some S_forebaylaw41_SpanPlans := by kernel_rfl

-- 14
def S_forebaylaw41_SpanGreedy_L3 : SCode :=
  .seq (.seq (.reg (straight [⟨some 136, none, .pur .mov [.tmp 16]⟩, ⟨some 137, none, .pur .mov [.tmp 0]⟩, ⟨some 138, none, .pur .mov [.tmp 15]⟩, ⟨some 139, none, .pur (.ixa 1) [.tmp 137, .tmp 138]⟩, ⟨some 140, none, .ld none (.tmp 139)⟩, ⟨some 141, none, .pur (.len false) [.tmp 140]⟩, ⟨some 142, none, .pur (.bin .lss) [.tmp 136, .tmp 141]⟩]) [142])
  (.cond (.tmp 142) (.skip) (.exit 4)))
  (.seq (.block 5 (.seq (.reg (straight [⟨some 145, none, .pur .mov [.tmp 12]⟩, ⟨some 146, none, .pur .mov [.tmp 0]⟩, ⟨some 147, none, .pur .mov [.tmp 15]⟩, ⟨some 148, none, .pur (.ixa 1) [.tmp 146, .tmp 147]⟩, ⟨some 149, none, .ld none (.tmp 148)⟩, ⟨some 150, none, .pur .mov [.tmp 16]⟩, ⟨some 151, none, .pur (.ixa 1) [.tmp 149, .tmp 150]⟩, ⟨some 152, none, .ld none (.tmp 151)⟩, ⟨some 153, none, .pur (.ixa 1) [.tmp 145, .tmp 152]⟩, ⟨some 154, none, .ld none (.tmp 153)⟩, ⟨some 155, none, .pur (.bin .eql) [.tmp 154, .const (.int .i64 0)]⟩, ⟨some 156, none, .pur .mov [.tmp 155]⟩, ⟨some 157, some (156, false), .pur .mov [.tmp 12]⟩, ⟨some 158, some (156, false), .pur .mov [.tmp 0]⟩, ⟨some 159, some (156, false), .pur .mov [.tmp 15]⟩, ⟨some 160, some (156, false), .pur (.ixa 1) [.tmp 158, .tmp 159]⟩, ⟨some 161, some (156, false), .ld none (.tmp 160)⟩, ⟨some 162, some (156, false), .pur .mov [.tmp 16]⟩, ⟨some 163, some (156, false), .pur (.ixa 1) [.tmp 161, .tmp 162]⟩, ⟨some 164, some (156, false), .ld none (.tmp 163)⟩, ⟨some 165, some (156, false), .pur (.ixa 1) [.tmp 157, .tmp 164]⟩, ⟨some 166, some (156, false), .ld none (.tmp 165)⟩, ⟨some 167, some (156, false), .pur .mov [.tmp 13]⟩, ⟨some 168, some (156, false), .pur (.bin .add) [.tmp 167, .const (.int .i64 1)]⟩, ⟨some 169, some (156, false), .pur (.bin .eql) [.tmp 166, .tmp 168]⟩, ⟨some 170, none, .pur .pick [.tmp 156, .const (.bool true), .tmp 169]⟩]) [170])
  (.cond (.tmp 170) (.seq (.reg (straight [⟨some 4, none, .pur .mov [.const (.bool false)]⟩]) [4])
  (.ret)) (.skip))))
  (.reg (straight [⟨some 143, none, .pur .mov [.tmp 16]⟩, ⟨some 144, none, .pur (.bin .add) [.tmp 143, .const (.int .i64 1)]⟩, ⟨some 16, none, .pur .mov [.tmp 144]⟩]) [16]))
def S_forebaylaw41_SpanGreedy_L2 : SCode :=
  .seq (.seq (.reg (straight [⟨some 106, none, .pur .mov [.tmp 14]⟩, ⟨some 107, none, .pur .mov [.tmp 6]⟩, ⟨some 108, none, .pur .mov [.tmp 13]⟩, ⟨some 109, none, .pur (.ixa 1) [.tmp 107, .tmp 108]⟩, ⟨some 110, none, .ld none (.tmp 109)⟩, ⟨some 111, none, .pur (.len false) [.tmp 110]⟩, ⟨some 112, none, .pur (.bin .lss) [.tmp 106, .tmp 111]⟩]) [112])
  (.cond (.tmp 112) (.skip) (.exit 2)))
  (.seq (.block 3 (.seq (.reg (straight [⟨some 115, none, .pur .mov [.tmp 6]⟩, ⟨some 116, none, .pur .mov [.tmp 13]⟩, ⟨some 117, none, .pur (.ixa 1) [.tmp 115, .tmp 116]⟩, ⟨some 118, none, .ld none (.tmp 117)⟩, ⟨some 119, none, .pur .mov [.tmp 14]⟩, ⟨some 120, none, .pur (.ixa 1) [.tmp 118, .tmp 119]⟩, ⟨some 121, none, .ld none (.tmp 120)⟩, ⟨some 15, none, .pur .mov [.tmp 121]⟩]) [15])
  (.seq (.seq (.reg (straight [⟨some 122, none, .pur .mov [.tmp 15]⟩, ⟨some 123, none, .pur (.bin .lss) [.tmp 122, .const (.int .i64 0)]⟩, ⟨some 124, none, .pur .mov [.tmp 123]⟩, ⟨some 125, some (124, false), .pur .mov [.tmp 15]⟩, ⟨some 126, some (124, false), .pur .mov [.tmp 11]⟩, ⟨some 127, some (124, false), .pur (.bin .geq) [.tmp 125, .tmp 126]⟩, ⟨some 128, none, .pur .pick [.tmp 124, .const (.bool true), .tmp 127]⟩, ⟨some 129, none, .pur .mov [.tmp 128]⟩, ⟨some 130, some (129, false), .pur .mov [.tmp 12]⟩, ⟨some 131, some (129, false), .pur .mov [.tmp 15]⟩, ⟨some 132, some (129, false), .pur (.ixa 1) [.tmp 130, .tmp 131]⟩, ⟨some 133, some (129, false), .ld none (.tmp 132)⟩, ⟨some 134, some (129, false), .pur (.bin .neq) [.tmp 133, .const (.int .i64 0)]⟩, ⟨some 135, none, .pur .pick [.tmp 129, .const (.bool true), .tmp 134]⟩]) [135])
  (.cond (.tmp 135) (.seq (.reg (straight [⟨some 4, none, .pur .mov [.const (.bool false)]⟩]) [4])
  (.ret)) (.skip)))
  (.seq (.seq (.reg (straight [⟨some 16, none, .pur .mov [.const (.int .i64 0)]⟩]) [16])
  (.block 4 (.loop S_forebaylaw41_SpanGreedy_L3)))
  (.reg (straight [⟨some 171, none, .pur .mov [.tmp 12]⟩, ⟨some 172, none, .pur .mov [.tmp 15]⟩, ⟨some 173, none, .pur .mov [.tmp 13]⟩, ⟨some 174, none, .pur (.bin .add) [.tmp 173, .const (.int .i64 1)]⟩, ⟨some 175, none, .pur (.ixa 1) [.tmp 171, .tmp 172]⟩, ⟨none, none, .eff (.st 1) [.tmp 175, .tmp 174]⟩]) [])))))
  (.reg (straight [⟨some 113, none, .pur .mov [.tmp 14]⟩, ⟨some 114, none, .pur (.bin .add) [.tmp 113, .const (.int .i64 1)]⟩, ⟨some 14, none, .pur .mov [.tmp 114]⟩]) [14]))
def S_forebaylaw41_SpanGreedy_L1 : SCode :=
  .seq (.seq (.reg (straight [⟨some 85, none, .pur .mov [.tmp 13]⟩, ⟨some 86, none, .pur .mov [.tmp 6]⟩, ⟨some 87, none, .pur (.len false) [.tmp 86]⟩, ⟨some 88, none, .pur (.bin .lss) [.tmp 85, .tmp 87]⟩]) [88])
  (.cond (.tmp 88) (.skip) (.exit 0)))
  (.seq (.block 1 (.seq (.seq (.reg (straight [⟨some 91, none, .pur .mov [.tmp 6]⟩, ⟨some 92, none, .pur .mov [.tmp 13]⟩, ⟨some 93, none, .pur (.ixa 1) [.tmp 91, .tmp 92]⟩, ⟨some 94, none, .ld none (.tmp 93)⟩, ⟨some 95, none, .pur (.len false) [.tmp 94]⟩, ⟨some 96, none, .pur (.bin .lss) [.tmp 95, .const (.int .i64 1)]⟩, ⟨some 97, none, .pur .mov [.tmp 96]⟩, ⟨some 98, some (97, false), .pur .mov [.tmp 6]⟩, ⟨some 99, some (97, false), .pur .mov [.tmp 13]⟩, ⟨some 100, some (97, false), .pur (.ixa 1) [.tmp 98, .tmp 99]⟩, ⟨some 101, some (97, false), .ld none (.tmp 100)⟩, ⟨some 102, some (97, false), .pur (.len false) [.tmp 101]⟩, ⟨some 103, some (97, false), .pur .mov [.tmp 5]⟩, ⟨some 104, some (97, false), .pur (.bin .gtr) [.tmp 102, .tmp 103]⟩, ⟨some 105, none, .pur .pick [.tmp 97, .const (.bool true), .tmp 104]⟩]) [105])
  (.cond (.tmp 105) (.seq (.reg (straight [⟨some 4, none, .pur .mov [.const (.bool false)]⟩]) [4])
  (.ret)) (.skip)))
  (.seq (.reg (straight [⟨some 14, none, .pur .mov [.const (.int .i64 0)]⟩]) [14])
  (.block 2 (.loop S_forebaylaw41_SpanGreedy_L2)))))
  (.reg (straight [⟨some 89, none, .pur .mov [.tmp 13]⟩, ⟨some 90, none, .pur (.bin .add) [.tmp 89, .const (.int .i64 1)]⟩, ⟨some 13, none, .pur .mov [.tmp 90]⟩]) [13]))
def S_forebaylaw41_SpanGreedy_L4 : SCode :=
  .seq (.seq (.reg (straight [⟨some 176, none, .pur .mov [.tmp 18]⟩, ⟨some 177, none, .pur .mov [.tmp 11]⟩, ⟨some 178, none, .pur (.bin .lss) [.tmp 176, .tmp 177]⟩]) [178])
  (.cond (.tmp 178) (.skip) (.exit 6)))
  (.seq (.block 7 (.seq (.reg (straight [⟨some 181, none, .pur .mov [.tmp 12]⟩, ⟨some 182, none, .pur .mov [.tmp 18]⟩, ⟨some 183, none, .pur (.ixa 1) [.tmp 181, .tmp 182]⟩, ⟨some 184, none, .ld none (.tmp 183)⟩, ⟨some 185, none, .pur (.bin .gtr) [.tmp 184, .const (.int .i64 0)]⟩]) [185])
  (.cond (.tmp 185) (.reg (straight [⟨some 186, none, .pur .mov [.tmp 17]⟩, ⟨some 187, none, .pur (.bin .add) [.tmp 186, .const (.int .i64 1)]⟩, ⟨some 17, none, .pur .mov [.tmp 187]⟩]) [17]) (.skip))))
  (.reg (straight [⟨some 179, none, .pur .mov [.tmp 18]⟩, ⟨some 180, none, .pur (.bin .add) [.tmp 179, .const (.int .i64 1)]⟩, ⟨some 18, none, .pur .mov [.tmp 180]⟩]) [18]))
def S_forebaylaw41_SpanGreedy : Fun := ⟨191, [4, 20, 0, 27, 1, 5, 7, 9, 51, 6, 10, 8, 11, 82, 13, 88, 105, 14, 112, 15, 12, 135, 16, 142, 170, 18, 178, 185, 17], [.tmp 4],
  .seq (.reg (straight [⟨some 4, none, .pur .mov [.const (.bool false)]⟩]) [4])
  (.seq (.seq (.reg (straight [⟨some 19, none, .eff (.call 57) []⟩, ⟨some 20, none, .pur .not [.tmp 19]⟩]) [20])
  (.cond (.tmp 20) (.seq (.reg (straight [⟨some 4, none, .pur .mov [.const (.bool false)]⟩]) [4])
  (.ret)) (.skip)))
  (.seq (.seq (.reg (straight [⟨some 21, none, .pur .mov [.tmp 0]⟩, ⟨some 22, none, .eff (.call 58) [.tmp 21, .const (.slice none 0 0)]⟩, ⟨some 23, none, .pur .mov [.tmp 22]⟩, ⟨some 24, some (23, false), .pur .mov [.tmp 0]⟩, ⟨some 25, some (23, false), .eff (.call 47) [.tmp 24]⟩, ⟨some 26, some (23, false), .pur (.bin .neq) [.tmp 25, .const (.int .i64 0)]⟩, ⟨some 27, none, .pur .pick [.tmp 23, .const (.bool true), .tmp 26]⟩]) [27])
  (.cond (.tmp 27) (.seq (.reg (straight [⟨some 4, none, .pur .mov [.const (.bool true)]⟩]) [4])
  (.ret)) (.skip)))
  (.seq (.reg (straight [⟨some 28, none, .pur .mov [.tmp 1]⟩, ⟨some 29, none, .pur (.toInt .i64) [.tmp 28]⟩, ⟨some 30, none, .pur (.bin .rem) [.tmp 29, .const (.int .i64 64)]⟩, ⟨some 31, none, .pur (.bin .add) [.tmp 30, .const (.int .i64 1)]⟩, ⟨some 5, none, .pur .mov [.tmp 31]⟩]) [5])
  (.seq (.reg (straight [⟨some 33, none, .pur .mov [.tmp 0]⟩, ⟨some 34, none, .eff (.call 60) [.tmp 33]⟩, ⟨some 35, none, .pur .mov [.tmp 5]⟩, ⟨some 36, none, .eff (.call 62) [.tmp 34, .tmp 35]⟩, ⟨some 32, none, .pur .mov [.tmp 36]⟩, ⟨some 37, none, .pur (.ext 0) [.tmp 32]⟩, ⟨some 38, none, .pur (.ext 1) [.tmp 32]⟩, ⟨some 6, none, .pur .mov [.tmp 37]⟩, ⟨some 7, none, .pur .mov [.tmp 38]⟩]) [6, 7])
  (.seq (.reg (straight [⟨some 40, none, .pur .mov [.tmp 0]⟩, ⟨some 41, none, .eff (.call 60) [.tmp 40]⟩, ⟨some 42, none, .pur (.bld [.slice none 0 0, .slice none 0 0, .slice none 0 0] [(0, 1)]) [.tmp 41]⟩, ⟨some 43, none, .eff (.call 67) [.tmp 42]⟩, ⟨some 39, none, .pur .mov [.tmp 43]⟩, ⟨some 44, none, .pur (.ext 0) [.tmp 39]⟩, ⟨some 45, none, .pur (.ext 1) [.tmp 39]⟩, ⟨some 8, none, .pur .mov [.tmp 44]⟩, ⟨some 9, none, .pur .mov [.tmp 45]⟩]) [8, 9])
  (.seq (.seq (.reg (straight [⟨some 46, none, .pur .mov [.tmp 7]⟩, ⟨some 47, none, .pur (.bin .neq) [.tmp 46, .const (.int .i64 0)]⟩, ⟨some 48, none, .pur .mov [.tmp 47]⟩, ⟨some 49, some (48, false), .pur .mov [.tmp 9]⟩, ⟨some 50, some (48, false), .pur (.bin .neq) [.tmp 49, .const (.int .i64 0)]⟩, ⟨some 51, none, .pur .pick [.tmp 48, .const (.bool true), .tmp 50]⟩]) [51])
  (.cond (.tmp 51) (.seq (.reg (straight [⟨some 4, none, .pur .mov [.const (.bool false)]⟩]) [4])
  (.ret)) (.skip)))
  (.seq (.reg (straight [⟨some 52, none, .pur .mov [.tmp 6]⟩, ⟨some 53, none, .pur (.len false) [.tmp 52]⟩, ⟨some 54, none, .pur .mov [.tmp 0]⟩, ⟨some 55, none, .pur (.len false) [.tmp 54]⟩, ⟨some 10, none, .pur .mov [.tmp 53]⟩, ⟨some 11, none, .pur .mov [.tmp 55]⟩]) [10, 11])
  (.seq (.seq (.reg (straight [⟨some 56, none, .pur .mov [.tmp 10]⟩, ⟨some 57, none, .pur .mov [.tmp 8]⟩, ⟨some 58, none, .pur (.bin .lss) [.tmp 56, .tmp 57]⟩, ⟨some 59, none, .pur .mov [.tmp 58]⟩, ⟨some 60, some (59, false), .pur .mov [.tmp 10]⟩, ⟨some 61, some (59, false), .pur .mov [.tmp 11]⟩, ⟨some 62, some (59, false), .pur .mov [.tmp 5]⟩, ⟨some 63, some (59, false), .pur (.bin .add) [.tmp 61, .tmp 62]⟩, ⟨some 64, some (59, false), .pur (.bin .sub) [.tmp 63, .const (.int .i64 1)]⟩, ⟨some 65, some (59, false), .pur .mov [.tmp 5]⟩, ⟨some 66, some (59, false), .pur (.bin .quo) [.tmp 64, .tmp 65]⟩, ⟨some 67, some (59, false), .pur (.bin .lss) [.tmp 60, .tmp 66]⟩, ⟨some 68, none, .pur .pick [.tmp 59, .const (.bool true), .tmp 67]⟩, ⟨some 69, none, .pur .mov [.tmp 68]⟩, ⟨some 70, some (69, false), .pur .mov [.tmp 10]⟩, ⟨some 71, some (69, false), .pur .mov [.tmp 8]⟩, ⟨some 72, some (69, false), .pur .mov [.tmp 11]⟩, ⟨some 73, some (69, false), .pur .mov [.tmp 8]⟩, ⟨some 74, some (69, false), .pur (.bin .sub) [.tmp 72, .tmp 73]⟩, ⟨some 75, some (69, false), .pur .mov [.tmp 5]⟩, ⟨some 76, some (69, false), .pur (.bin .add) [.tmp 74, .tmp 75]⟩, ⟨some 77, some (69, false), .pur (.bin .sub) [.tmp 76, .const (.int .i64 1)]⟩, ⟨some 78, some (69, false), .pur .mov [.tmp 5]⟩, ⟨some 79, some (69, false), .pur (.bin .quo) [.tmp 77, .tmp 78]⟩, ⟨some 80, some (69, false), .pur (.bin .add) [.tmp 71, .tmp 79]⟩, ⟨some 81, some (69, false), .pur (.bin .gtr) [.tmp 70, .tmp 80]⟩, ⟨some 82, none, .pur .pick [.tmp 69, .const (.bool true), .tmp 81]⟩]) [82])
  (.cond (.tmp 82) (.seq (.reg (straight [⟨some 4, none, .pur .mov [.const (.bool false)]⟩]) [4])
  (.ret)) (.skip)))
  (.seq (.reg (straight [⟨some 83, none, .pur .mov [.tmp 11]⟩, ⟨some 84, none, .eff (.mks 3 1 8 [.int .i64 0]) [.tmp 83, .tmp 83]⟩, ⟨some 12, none, .pur .mov [.tmp 84]⟩]) [12])
  (.seq (.seq (.reg (straight [⟨some 13, none, .pur .mov [.const (.int .i64 0)]⟩]) [13])
  (.block 0 (.loop S_forebaylaw41_SpanGreedy_L1)))
  (.seq (.reg (straight [⟨some 17, none, .pur .mov [.const (.int .i64 0)]⟩]) [17])
  (.seq (.seq (.reg (straight [⟨some 18, none, .pur .mov [.const (.int .i64 0)]⟩]) [18])
  (.block 6 (.loop S_forebaylaw41_SpanGreedy_L4)))
  (.seq (.reg (straight [⟨some 188, none, .pur .mov [.tmp 17]⟩, ⟨some 189, none, .pur .mov [.tmp 11]⟩, ⟨some 190, none, .pur (.bin .eql) [.tmp 188, .tmp 189]⟩, ⟨some 4, none, .pur .mov [.tmp 190]⟩]) [4])
  (.ret))))))))))))))⟩
theorem K_forebaylaw41_SpanGreedy : compF Try.prog 14 = some S_forebaylaw41_SpanGreedy := by kernel_rfl

-- 15
def S_forebaylaw41_SpanTells : Fun := ⟨92, [4, 15, 0, 1, 18, 5, 7, 13, 9, 11, 6, 12, 64, 66, 8, 10], [.tmp 4],
  .seq (.reg (straight [⟨some 4, none, .pur .mov [.const (.bool false)]⟩]) [4])
  (.seq (.seq (.reg (straight [⟨some 14, none, .eff (.call 57) []⟩, ⟨some 15, none, .pur .not [.tmp 14]⟩]) [15])
  (.cond (.tmp 15) (.seq (.reg (straight [⟨some 4, none, .pur .mov [.const (.bool false)]⟩]) [4])
  (.ret)) (.skip)))
  (.seq (.seq (.reg (straight [⟨some 16, none, .pur .mov [.tmp 0]⟩, ⟨some 17, none, .pur .mov [.tmp 1]⟩, ⟨some 18, none, .eff (.call 58) [.tmp 16, .tmp 17]⟩]) [18])
  (.cond (.tmp 18) (.seq (.reg (straight [⟨some 4, none, .pur .mov [.const (.bool true)]⟩]) [4])
  (.ret)) (.skip)))
  (.seq (.reg (straight [⟨some 19, none, .pur .mov [.tmp 0]⟩, ⟨some 20, none, .eff (.call 60) [.tmp 19]⟩, ⟨some 21, none, .eff (.bsl 114 3) []⟩, ⟨some 22, none, .pur .mov [.tmp 1]⟩, ⟨some 23, none, .eff (.app 114 3 24 [.int .i64 0, .int .i64 0, .bool false]) [.tmp 21, .tmp 22]⟩, ⟨some 24, none, .pur (.bld [.slice none 0 0, .slice none 0 0, .slice none 0 0] [(0, 1), (2, 1)]) [.tmp 20, .tmp 23]⟩, ⟨some 5, none, .eff (.new 98 [.slice none 0 0, .slice none 0 0, .slice none 0 0]) []⟩, ⟨none, none, .eff (.st 3) [.tmp 5, .tmp 24]⟩]) [5])
  (.seq (.reg (straight [⟨some 26, none, .ld (some 3) (.tmp 5)⟩, ⟨some 27, none, .eff (.call 68) [.tmp 26]⟩, ⟨some 25, none, .pur .mov [.tmp 27]⟩, ⟨some 28, none, .pur (.ext 0) [.tmp 25]⟩, ⟨some 29, none, .pur (.ext 1) [.tmp 25]⟩, ⟨some 6, none, .pur .mov [.tmp 28]⟩, ⟨some 7, none, .pur .mov [.tmp 29]⟩]) [6, 7])
  (.seq (.reg (straight [⟨some 31, none, .ld (some 3) (.tmp 5)⟩, ⟨some 32, none, .eff (.call 69) [.tmp 31]⟩, ⟨some 30, none, .pur .mov [.tmp 32]⟩, ⟨some 33, none, .pur (.ext 0) [.tmp 30]⟩, ⟨some 34, none, .pur (.ext 1) [.tmp 30]⟩, ⟨some 8, none, .pur .mov [.tmp 33]⟩, ⟨some 9, none, .pur .mov [.tmp 34]⟩]) [8, 9])
  (.seq (.reg (straight [⟨some 36, none, .ld (some 3) (.tmp 5)⟩, ⟨some 37, none, .eff (.call 67) [.tmp 36]⟩, ⟨some 35, none, .pur .mov [.tmp 37]⟩, ⟨some 38, none, .pur (.ext 0) [.tmp 35]⟩, ⟨some 39, none, .pur (.ext 1) [.tmp 35]⟩, ⟨some 10, none, .pur .mov [.tmp 38]⟩, ⟨some 11, none, .pur .mov [.tmp 39]⟩]) [10, 11])
  (.seq (.reg (straight [⟨some 41, none, .pur .mov [.tmp 0]⟩, ⟨some 42, none, .pur .mov [.tmp 1]⟩, ⟨some 43, none, .eff (.call 70) [.tmp 41, .tmp 42]⟩, ⟨some 40, none, .pur .mov [.tmp 43]⟩, ⟨some 44, none, .pur (.ext 0) [.tmp 40]⟩, ⟨some 45, none, .pur (.ext 1) [.tmp 40]⟩, ⟨some 12, none, .pur .mov [.tmp 44]⟩, ⟨some 13, none, .pur .mov [.tmp 45]⟩]) [12, 13])
  (.seq (.seq (.reg (straight [⟨some 46, none, .pur .mov [.tmp 7]⟩, ⟨some 47, none, .pur .mov [.tmp 13]⟩, ⟨some 48, none, .pur (.bin .neq) [.tmp 46, .tmp 47]⟩, ⟨some 49, none, .pur .mov [.tmp 48]⟩, ⟨some 50, some (49, false), .pur .mov [.tmp 9]⟩, ⟨some 51, some (49, false), .pur .mov [.tmp 13]⟩, ⟨some 52, some (49, false), .pur (.bin .neq) [.tmp 50, .tmp 51]⟩, ⟨some 53, none, .pur .pick [.tmp 49, .const (.bool true), .tmp 52]⟩, ⟨some 54, none, .pur .mov [.tmp 53]⟩, ⟨some 55, some (54, false), .pur .mov [.tmp 11]⟩, ⟨some 56, some (54, false), .pur .mov [.tmp 13]⟩, ⟨some 57, some (54, false), .pur (.bin .neq) [.tmp 55, .tmp 56]⟩, ⟨some 58, none, .pur .pick [.tmp 54, .const (.bool true), .tmp 57]⟩, ⟨some 59, none, .pur .mov [.tmp 58]⟩, ⟨some 60, some (59, false), .pur .mov [.tmp 6]⟩, ⟨some 61, some (59, false), .pur .mov [.tmp 12]⟩, ⟨some 62, some (59, false), .eff (.call 66) [.tmp 60, .tmp 61]⟩, ⟨some 63, some (59, false), .pur .not [.tmp 62]⟩, ⟨some 64, none, .pur .pick [.tmp 59, .const (.bool true), .tmp 63]⟩]) [64])
  (.cond (.tmp 64) (.seq (.reg (straight [⟨some 4, none, .pur .mov [.const (.bool false)]⟩]) [4])
  (.ret)) (.skip)))
  (.seq (.seq (.reg (straight [⟨some 65, none, .pur .mov [.tmp 13]⟩, ⟨some 66, none, .pur (.bin .neq) [.tmp 65, .const (.int .i64 0)]⟩]) [66])
  (.cond (.tmp 66) (.seq (.reg (straight [⟨some 67, none, .pur .mov [.tmp 8]⟩, ⟨some 68, none, .pur (.bin .eql) [.tmp 67, .const (.int .i64 0)]⟩, ⟨some 69, none, .pur .mov [.tmp 68]⟩, ⟨some 70, some (69, true), .pur .mov [.tmp 10]⟩, ⟨some 71, some (69, true), .pur (.bin .eql) [.tmp 70, .const (.int .i64 0)]⟩, ⟨some 72, none, .pur .pick [.tmp 69, .tmp 71, .const (.bool false)]⟩, ⟨some 4, none, .pur .mov [.tmp 72]⟩]) [4])
  (.ret)) (.skip)))
  (.seq (.reg (straight [⟨some 73, none, .pur .mov [.tmp 8]⟩, ⟨some 74, none, .pur .mov [.tmp 0]⟩, ⟨some 75, none, .pur (.len false) [.tmp 74]⟩, ⟨some 76, none, .pur .mov [.tmp 1]⟩, ⟨some 77, none, .pur (.len false) [.tmp 76]⟩, ⟨some 78, none, .pur (.bin .add) [.tmp 75, .tmp 77]⟩, ⟨some 79, none, .pur (.bin .eql) [.tmp 73, .tmp 78]⟩, ⟨some 80, none, .pur .mov [.tmp 79]⟩, ⟨some 81, some (80, true), .pur .mov [.tmp 10]⟩, ⟨some 82, some (80, true), .pur .mov [.tmp 0]⟩, ⟨some 83, some (80, true), .pur .mov [.tmp 12]⟩, ⟨some 84, some (80, true), .eff (.call 71) [.tmp 82, .tmp 83]⟩, ⟨some 85, some (80, true), .pur (.bin .eql) [.tmp 81, .tmp 84]⟩, ⟨some 86, none, .pur .pick [.tmp 80, .tmp 85, .const (.bool false)]⟩, ⟨some 87, none, .pur .mov [.tmp 86]⟩, ⟨some 88, some (87, true), .pur .mov [.tmp 10]⟩, ⟨some 89, some (87, true), .pur .mov [.tmp 8]⟩, ⟨some 90, some (87, true), .pur (.bin .leq) [.tmp 88, .tmp 89]⟩, ⟨some 91, none, .pur .pick [.tmp 87, .tmp 90, .const (.bool false)]⟩, ⟨some 4, none, .pur .mov [.tmp 91]⟩]) [4])
  (.ret)))))))))))⟩
theorem K_forebaylaw41_SpanTells : compF Try.prog 15 = some S_forebaylaw41_SpanTells := by kernel_rfl

-- 57
def S_forebaylaw41_works : Fun := ⟨52, [0, 1, 2, 3, 4, 5, 6, 7], [.tmp 0],
  .seq (.reg (straight [⟨some 0, none, .pur .mov [.const (.bool false)]⟩]) [0])
  (.seq (.reg (straight [⟨some 8, none, .eff (.bsl 3 1) [.const (.int .i64 0)]⟩, ⟨some 9, none, .eff (.bsl 3 1) [.const (.int .i64 0)]⟩, ⟨some 10, none, .eff (.bsl 3 1) [.const (.int .i64 0)]⟩, ⟨some 11, none, .eff (.bsl 29 1) [.const (.slice none 0 0), .tmp 8, .tmp 9, .tmp 10]⟩, ⟨some 1, none, .pur .mov [.tmp 11]⟩]) [1])
  (.seq (.reg (straight [⟨some 13, none, .pur .mov [.tmp 1]⟩, ⟨some 14, none, .eff (.call 63) [.tmp 13, .const (.int .i64 2)]⟩, ⟨some 12, none, .pur .mov [.tmp 14]⟩, ⟨some 15, none, .pur (.ext 0) [.tmp 12]⟩, ⟨some 16, none, .pur (.ext 1) [.tmp 12]⟩, ⟨some 2, none, .pur .mov [.tmp 15]⟩, ⟨some 3, none, .pur .mov [.tmp 16]⟩]) [2, 3])
  (.seq (.reg (straight [⟨some 18, none, .pur .mov [.tmp 1]⟩, ⟨some 19, none, .pur (.bld [.int .i64 0, .int .i64 0, .bool false] [(0, 1)]) [.const (.int .i64 2)]⟩, ⟨some 20, none, .eff (.bsl 114 3) [.tmp 19]⟩, ⟨some 21, none, .pur (.bld [.slice none 0 0, .slice none 0 0, .slice none 0 0] [(0, 1), (2, 1)]) [.tmp 18, .tmp 20]⟩, ⟨some 22, none, .eff (.call 67) [.tmp 21]⟩, ⟨some 17, none, .pur .mov [.tmp 22]⟩, ⟨some 23, none, .pur (.ext 0) [.tmp 17]⟩, ⟨some 24, none, .pur (.ext 1) [.tmp 17]⟩, ⟨some 4, none, .pur .mov [.tmp 23]⟩, ⟨some 5, none, .pur .mov [.tmp 24]⟩]) [4, 5])
  (.seq (.reg (straight [⟨some 26, none, .pur .mov [.tmp 1]⟩, ⟨some 27, none, .eff (.call 61) [.tmp 26]⟩, ⟨some 25, none, .pur .mov [.tmp 27]⟩, ⟨some 28, none, .pur (.ext 0) [.tmp 25]⟩, ⟨some 29, none, .pur (.ext 1) [.tmp 25]⟩, ⟨some 6, none, .pur .mov [.tmp 28]⟩, ⟨some 7, none, .pur .mov [.tmp 29]⟩]) [6, 7])
  (.seq (.reg (straight [⟨some 30, none, .pur .mov [.tmp 2]⟩, ⟨some 31, none, .pur (.bin .eql) [.tmp 30, .const (.int .i64 3)]⟩, ⟨some 32, none, .pur .mov [.tmp 31]⟩, ⟨some 33, some (32, true), .pur .mov [.tmp 3]⟩, ⟨some 34, some (32, true), .pur (.bin .eql) [.tmp 33, .const (.int .i64 0)]⟩, ⟨some 35, none, .pur .pick [.tmp 32, .tmp 34, .const (.bool false)]⟩, ⟨some 36, none, .pur .mov [.tmp 35]⟩, ⟨some 37, some (36, true), .pur .mov [.tmp 4]⟩, ⟨some 38, some (36, true), .pur (.bin .eql) [.tmp 37, .const (.int .i64 3)]⟩, ⟨some 39, none, .pur .pick [.tmp 36, .tmp 38, .const (.bool false)]⟩, ⟨some 40, none, .pur .mov [.tmp 39]⟩, ⟨some 41, some (40, true), .pur .mov [.tmp 5]⟩, ⟨some 42, some (40, true), .pur (.bin .eql) [.tmp 41, .const (.int .i64 0)]⟩, ⟨some 43, none, .pur .pick [.tmp 40, .tmp 42, .const (.bool false)]⟩, ⟨some 44, none, .pur .mov [.tmp 43]⟩, ⟨some 45, some (44, true), .pur .mov [.tmp 6]⟩, ⟨some 46, some (44, true), .pur (.bin .eql) [.tmp 45, .const (.int .i64 3)]⟩, ⟨some 47, none, .pur .pick [.tmp 44, .tmp 46, .const (.bool false)]⟩, ⟨some 48, none, .pur .mov [.tmp 47]⟩, ⟨some 49, some (48, true), .pur .mov [.tmp 7]⟩, ⟨some 50, some (48, true), .pur (.bin .eql) [.tmp 49, .const (.int .i64 0)]⟩, ⟨some 51, none, .pur .pick [.tmp 48, .tmp 50, .const (.bool false)]⟩, ⟨some 0, none, .pur .mov [.tmp 51]⟩]) [0])
  (.ret))))))⟩
theorem K_forebaylaw41_works : compF Try.prog 57 = some S_forebaylaw41_works := by kernel_rfl

-- 58
def S_forebaylaw41_great_L1 : SCode :=
  .seq (.seq (.reg (straight [⟨some 6, none, .pur .mov [.tmp 5]⟩, ⟨some 7, none, .pur .mov [.tmp 0]⟩, ⟨some 8, none, .pur (.len false) [.tmp 7]⟩, ⟨some 9, none, .pur (.bin .lss) [.tmp 6, .tmp 8]⟩]) [9])
  (.cond (.tmp 9) (.skip) (.exit 0)))
  (.seq (.block 1 (.seq (.reg (straight [⟨some 12, none, .pur .mov [.tmp 5]⟩, ⟨some 13, none, .pur (.bin .geq) [.tmp 12, .const (.int .i64 150)]⟩, ⟨some 14, none, .pur .mov [.tmp 13]⟩, ⟨some 15, some (14, false), .pur .mov [.tmp 0]⟩, ⟨some 16, some (14, false), .pur .mov [.tmp 5]⟩, ⟨some 17, some (14, false), .pur (.ixa 1) [.tmp 15, .tmp 16]⟩, ⟨some 18, some (14, false), .ld none (.tmp 17)⟩, ⟨some 19, some (14, false), .pur (.len false) [.tmp 18]⟩, ⟨some 20, some (14, false), .pur (.bin .gtr) [.tmp 19, .const (.int .i64 40)]⟩, ⟨some 21, none, .pur .pick [.tmp 14, .const (.bool true), .tmp 20]⟩]) [21])
  (.cond (.tmp 21) (.seq (.reg (straight [⟨some 4, none, .pur .mov [.const (.bool true)]⟩]) [4])
  (.ret)) (.skip))))
  (.reg (straight [⟨some 10, none, .pur .mov [.tmp 5]⟩, ⟨some 11, none, .pur (.bin .add) [.tmp 10, .const (.int .i64 1)]⟩, ⟨some 5, none, .pur .mov [.tmp 11]⟩]) [5]))
def S_forebaylaw41_great : Fun := ⟨25, [4, 5, 0, 9, 21, 1], [.tmp 4],
  .seq (.reg (straight [⟨some 4, none, .pur .mov [.const (.bool false)]⟩]) [4])
  (.seq (.seq (.reg (straight [⟨some 5, none, .pur .mov [.const (.int .i64 0)]⟩]) [5])
  (.block 0 (.loop S_forebaylaw41_great_L1)))
  (.seq (.reg (straight [⟨some 22, none, .pur .mov [.tmp 1]⟩, ⟨some 23, none, .pur (.len false) [.tmp 22]⟩, ⟨some 24, none, .pur (.bin .gtr) [.tmp 23, .const (.int .i64 300)]⟩, ⟨some 4, none, .pur .mov [.tmp 24]⟩]) [4])
  (.ret)))⟩
theorem K_forebaylaw41_great : compF Try.prog 58 = some S_forebaylaw41_great := by kernel_rfl

-- 59
def S_span_Levels_L2 : SCode :=
  .seq (.reg (straight [⟨some 28, none, .pur (.bin .lss) [.tmp 27, .tmp 26]⟩]) [28])
  (.seq (.cond (.tmp 28) (.skip) (.exit 2))
  (.seq (.block 3 (.seq (.reg (straight [⟨some 29, none, .pur (.ixa 1) [.tmp 25, .tmp 27]⟩, ⟨some 30, none, .ld none (.tmp 29)⟩, ⟨some 9, none, .pur .mov [.tmp 30]⟩]) [9])
  (.reg (.run ⟨some 31, none, .pur .mov [.tmp 5]⟩ (.run ⟨some 32, none, .pur .mov [.tmp 6]⟩ (.run ⟨some 33, none, .pur .mov [.tmp 5]⟩ (.run ⟨some 34, none, .pur .mov [.tmp 6]⟩ (.run ⟨some 35, none, .pur (.ixa 1) [.tmp 33, .tmp 34]⟩ (.run ⟨some 36, none, .ld none (.tmp 35)⟩ (.run ⟨some 37, none, .pur .mov [.tmp 5]⟩ (.run ⟨some 38, none, .pur .mov [.tmp 9]⟩ (.run ⟨some 39, none, .pur (.ixa 1) [.tmp 37, .tmp 38]⟩ (.run ⟨some 40, none, .ld none (.tmp 39)⟩ (.run ⟨some 41, none, .pur (.bin .add) [.tmp 40, .const (.int .i64 1)]⟩ (.run ⟨some 42, none, .pur (.minmax true) [.tmp 36, .tmp 41]⟩ (.run ⟨some 43, none, .pur (.ixa 1) [.tmp 31, .tmp 32]⟩ (.eff ⟨none, none, .eff (.st 1) [.tmp 43, .tmp 42]⟩ [] .done)))))))))))))) [])))
  (.reg (straight [⟨some 44, none, .pur (.bin .add) [.tmp 27, .const (.int .i64 1)]⟩, ⟨some 27, none, .pur .mov [.tmp 44]⟩]) [27])))
def S_span_Levels_L1 : SCode :=
  .seq (.reg (straight [⟨some 21, none, .pur (.bin .lss) [.tmp 20, .tmp 19]⟩]) [21])
  (.seq (.cond (.tmp 21) (.skip) (.exit 0))
  (.seq (.block 1 (.seq (.reg (straight [⟨some 22, none, .pur .mov [.tmp 20]⟩, ⟨some 23, none, .pur (.ixa 1) [.tmp 18, .tmp 20]⟩, ⟨some 24, none, .ld none (.tmp 23)⟩, ⟨some 6, none, .pur .mov [.tmp 22]⟩, ⟨some 7, none, .pur .mov [.tmp 24]⟩]) [6, 7])
  (.seq (.reg (straight [⟨some 25, none, .pur .mov [.tmp 7]⟩, ⟨some 26, none, .pur (.len false) [.tmp 25]⟩, ⟨some 27, none, .pur .mov [.const (.int .i64 0)]⟩]) [25, 26, 27])
  (.block 2 (.loop S_span_Levels_L2)))))
  (.reg (straight [⟨some 45, none, .pur (.bin .add) [.tmp 20, .const (.int .i64 1)]⟩, ⟨some 20, none, .pur .mov [.tmp 45]⟩]) [20])))
def S_span_Levels : Fun := ⟨47, [2, 3, 0, 4, 13, 20, 19, 21, 18, 7, 27, 26, 28, 25, 5, 6, 9], [.tmp 2, .tmp 3],
  .seq (.reg (straight [⟨some 2, none, .pur .mov [.const (.slice none 0 0)]⟩, ⟨some 3, none, .pur .mov [.const (.int .i64 0)]⟩]) [2, 3])
  (.seq (.seq (.reg (straight [⟨some 10, none, .pur .mov [.tmp 0]⟩, ⟨some 11, none, .eff (.call 98) [.tmp 10]⟩, ⟨some 4, none, .pur .mov [.tmp 11]⟩]) [4])
  (.seq (.reg (straight [⟨some 12, none, .pur .mov [.tmp 4]⟩, ⟨some 13, none, .pur (.bin .neq) [.tmp 12, .const (.int .i64 0)]⟩]) [13])
  (.cond (.tmp 13) (.seq (.reg (straight [⟨some 14, none, .pur .mov [.tmp 4]⟩, ⟨some 2, none, .pur .mov [.const (.slice none 0 0)]⟩, ⟨some 3, none, .pur .mov [.tmp 14]⟩]) [2, 3])
  (.ret)) (.skip))))
  (.seq (.reg (straight [⟨some 15, none, .pur .mov [.tmp 0]⟩, ⟨some 16, none, .pur (.len false) [.tmp 15]⟩, ⟨some 17, none, .eff (.mks 3 1 8 [.int .i64 0]) [.tmp 16, .tmp 16]⟩, ⟨some 5, none, .pur .mov [.tmp 17]⟩]) [5])
  (.seq (.seq (.reg (straight [⟨some 18, none, .pur .mov [.tmp 0]⟩, ⟨some 19, none, .pur (.len false) [.tmp 18]⟩, ⟨some 20, none, .pur .mov [.const (.int .i64 0)]⟩]) [18, 19, 20])
  (.block 0 (.loop S_span_Levels_L1)))
  (.seq (.reg (straight [⟨some 46, none, .pur .mov [.tmp 5]⟩, ⟨some 2, none, .pur .mov [.tmp 46]⟩, ⟨some 3, none, .pur .mov [.const (.int .i64 0)]⟩]) [2, 3])
  (.ret)))))⟩
theorem K_span_Levels : compF Try.prog 59 = some S_span_Levels := by kernel_rfl

-- 60
def S_forebaylaw41_own_L1 : SCode :=
  .seq (.seq (.reg (straight [⟨some 5, none, .pur .mov [.tmp 4]⟩, ⟨some 6, none, .pur .mov [.tmp 0]⟩, ⟨some 7, none, .pur (.len false) [.tmp 6]⟩, ⟨some 8, none, .pur (.bin .lss) [.tmp 5, .tmp 7]⟩]) [8])
  (.cond (.tmp 8) (.skip) (.exit 0)))
  (.seq (.block 1 (.reg (straight [⟨some 11, none, .pur .mov [.tmp 3]⟩, ⟨some 12, none, .eff (.bsl 3 1) []⟩, ⟨some 13, none, .pur .mov [.tmp 0]⟩, ⟨some 14, none, .pur .mov [.tmp 4]⟩, ⟨some 15, none, .pur (.ixa 1) [.tmp 13, .tmp 14]⟩, ⟨some 16, none, .ld none (.tmp 15)⟩, ⟨some 17, none, .eff (.app 3 1 8 [.int .i64 0]) [.tmp 12, .tmp 16]⟩, ⟨some 18, none, .eff (.bsl 29 1) [.tmp 17]⟩, ⟨some 19, none, .eff (.app 29 1 24 [.slice none 0 0]) [.tmp 11, .tmp 18]⟩, ⟨some 3, none, .pur .mov [.tmp 19]⟩]) [3]))
  (.reg (straight [⟨some 9, none, .pur .mov [.tmp 4]⟩, ⟨some 10, none, .pur (.bin .add) [.tmp 9, .const (.int .i64 1)]⟩, ⟨some 4, none, .pur .mov [.tmp 10]⟩]) [4]))
def S_forebaylaw41_own : Fun := ⟨21, [2, 4, 0, 8, 3], [.tmp 2],
  .seq (.reg (straight [⟨some 2, none, .pur .mov [.const (.slice none 0 0)]⟩]) [2])
  (.seq (.reg (straight [⟨some 3, none, .pur .mov [.const (.slice none 0 0)]⟩]) [3])
  (.seq (.seq (.reg (straight [⟨some 4, none, .pur .mov [.const (.int .i64 0)]⟩]) [4])
  (.block 0 (.loop S_forebaylaw41_own_L1)))
  (.seq (.reg (straight [⟨some 20, none, .pur .mov [.tmp 3]⟩, ⟨some 2, none, .pur .mov [.tmp 20]⟩]) [2])
  (.ret))))⟩
theorem K_forebaylaw41_own : compF Try.prog 60 = some S_forebaylaw41_own := by kernel_rfl

-- 61
def S_span_Widest_L1 : SCode :=
  .seq (.reg (straight [⟨some 21, none, .pur (.bin .lss) [.tmp 20, .tmp 19]⟩]) [21])
  (.seq (.cond (.tmp 21) (.skip) (.exit 0))
  (.seq (.block 1 (.seq (.reg (straight [⟨some 22, none, .pur (.ixa 1) [.tmp 18, .tmp 20]⟩, ⟨some 23, none, .ld none (.tmp 22)⟩, ⟨some 9, none, .pur .mov [.tmp 23]⟩]) [9])
  (.seq (.reg (straight [⟨some 24, none, .pur .mov [.tmp 6]⟩, ⟨some 25, none, .pur .mov [.tmp 9]⟩, ⟨some 26, none, .pur (.ixa 1) [.tmp 24, .tmp 25]⟩, ⟨some 27, none, .ld none (.tmp 26)⟩, ⟨some 28, none, .pur (.bin .add) [.tmp 27, .const (.int .i64 1)]⟩, ⟨some 29, none, .pur (.ixa 1) [.tmp 24, .tmp 25]⟩, ⟨none, none, .eff (.st 1) [.tmp 29, .tmp 28]⟩]) [])
  (.reg (straight [⟨some 30, none, .pur .mov [.tmp 7]⟩, ⟨some 31, none, .pur .mov [.tmp 6]⟩, ⟨some 32, none, .pur .mov [.tmp 9]⟩, ⟨some 33, none, .pur (.ixa 1) [.tmp 31, .tmp 32]⟩, ⟨some 34, none, .ld none (.tmp 33)⟩, ⟨some 35, none, .pur (.minmax true) [.tmp 30, .tmp 34]⟩, ⟨some 7, none, .pur .mov [.tmp 35]⟩]) [7]))))
  (.reg (straight [⟨some 36, none, .pur (.bin .add) [.tmp 20, .const (.int .i64 1)]⟩, ⟨some 20, none, .pur .mov [.tmp 36]⟩]) [20])))
def S_span_Widest : Fun := ⟨39, [2, 3, 0, 4, 20, 19, 21, 18, 6, 9, 7, 5], [.tmp 2, .tmp 3],
  .seq (.reg (straight [⟨some 2, none, .pur .mov [.const (.int .i64 0)]⟩, ⟨some 3, none, .pur .mov [.const (.int .i64 0)]⟩]) [2, 3])
  (.seq (.reg (straight [⟨some 11, none, .pur .mov [.tmp 0]⟩, ⟨some 12, none, .eff (.call 59) [.tmp 11]⟩, ⟨some 10, none, .pur .mov [.tmp 12]⟩, ⟨some 13, none, .pur (.ext 0) [.tmp 10]⟩, ⟨some 14, none, .pur (.ext 1) [.tmp 10]⟩, ⟨some 4, none, .pur .mov [.tmp 13]⟩, ⟨some 5, none, .pur .mov [.tmp 14]⟩]) [4, 5])
  (.seq (.reg (straight [⟨some 15, none, .pur .mov [.tmp 4]⟩, ⟨some 16, none, .pur (.len false) [.tmp 15]⟩, ⟨some 17, none, .eff (.mks 3 1 8 [.int .i64 0]) [.tmp 16, .tmp 16]⟩, ⟨some 6, none, .pur .mov [.tmp 17]⟩]) [6])
  (.seq (.reg (straight [⟨some 7, none, .pur .mov [.const (.int .i64 0)]⟩]) [7])
  (.seq (.seq (.reg (straight [⟨some 18, none, .pur .mov [.tmp 4]⟩, ⟨some 19, none, .pur (.len false) [.tmp 18]⟩, ⟨some 20, none, .pur .mov [.const (.int .i64 0)]⟩]) [18, 19, 20])
  (.block 0 (.loop S_span_Widest_L1)))
  (.seq (.reg (straight [⟨some 37, none, .pur .mov [.tmp 7]⟩, ⟨some 38, none, .pur .mov [.tmp 5]⟩, ⟨some 2, none, .pur .mov [.tmp 37]⟩, ⟨some 3, none, .pur .mov [.tmp 38]⟩]) [2, 3])
  (.ret))))))⟩
theorem K_span_Widest : compF Try.prog 61 = some S_span_Widest := by kernel_rfl

-- 62
def S_span_Plan_L1 : SCode :=
  .seq (.seq (.reg (straight [⟨some 26, none, .pur .mov [.tmp 10]⟩, ⟨some 27, none, .pur .mov [.tmp 0]⟩, ⟨some 28, none, .pur (.len false) [.tmp 27]⟩, ⟨some 29, none, .pur (.bin .lss) [.tmp 26, .tmp 28]⟩]) [29])
  (.cond (.tmp 29) (.skip) (.exit 0)))
  (.block 1 (.seq (.reg (straight [⟨some 30, none, .pur .mov [.tmp 7]⟩, ⟨some 31, none, .pur .mov [.tmp 9]⟩, ⟨some 32, none, .pur (.len false) [.tmp 31]⟩, ⟨some 33, none, .pur .mov [.tmp 8]⟩, ⟨some 34, none, .eff (.call 99) [.tmp 30, .tmp 32, .tmp 33]⟩, ⟨some 11, none, .pur .mov [.tmp 34]⟩]) [11])
  (.seq (.reg (straight [⟨some 35, none, .pur .mov [.tmp 10]⟩, ⟨some 36, none, .pur .mov [.tmp 11]⟩, ⟨some 37, none, .pur (.len false) [.tmp 36]⟩, ⟨some 38, none, .pur (.bin .add) [.tmp 35, .tmp 37]⟩, ⟨some 10, none, .pur .mov [.tmp 38]⟩]) [10])
  (.reg (straight [⟨some 39, none, .pur .mov [.tmp 9]⟩, ⟨some 40, none, .pur .mov [.tmp 11]⟩, ⟨some 41, none, .eff (.bsl 29 1) [.tmp 40]⟩, ⟨some 42, none, .eff (.app 29 1 24 [.slice none 0 0]) [.tmp 39, .tmp 41]⟩, ⟨some 9, none, .pur .mov [.tmp 42]⟩]) [9]))))
def S_span_Plan : Fun := ⟨44, [4, 5, 0, 6, 15, 1, 10, 29, 7, 9, 8, 11], [.tmp 4, .tmp 5],
  .seq (.reg (straight [⟨some 4, none, .pur .mov [.const (.slice none 0 0)]⟩, ⟨some 5, none, .pur .mov [.const (.int .i64 0)]⟩]) [4, 5])
  (.seq (.seq (.reg (straight [⟨some 12, none, .pur .mov [.tmp 0]⟩, ⟨some 13, none, .eff (.call 98) [.tmp 12]⟩, ⟨some 6, none, .pur .mov [.tmp 13]⟩]) [6])
  (.seq (.reg (straight [⟨some 14, none, .pur .mov [.tmp 6]⟩, ⟨some 15, none, .pur (.bin .neq) [.tmp 14, .const (.int .i64 0)]⟩]) [15])
  (.cond (.tmp 15) (.seq (.reg (straight [⟨some 16, none, .pur .mov [.tmp 6]⟩, ⟨some 4, none, .pur .mov [.const (.slice none 0 0)]⟩, ⟨some 5, none, .pur .mov [.tmp 16]⟩]) [4, 5])
  (.ret)) (.skip))))
  (.seq (.reg (straight [⟨some 17, none, .pur .mov [.tmp 0]⟩, ⟨some 18, none, .pur .mov [.tmp 0]⟩, ⟨some 19, none, .pur (.len false) [.tmp 18]⟩, ⟨some 20, none, .eff (.mks 3 1 8 [.int .i64 0]) [.tmp 19, .tmp 19]⟩, ⟨some 21, none, .pur (.bld [.slice none 0 0, .slice none 0 0] [(0, 1), (1, 1)]) [.tmp 17, .tmp 20]⟩, ⟨some 22, none, .eff (.box 155) [.tmp 21]⟩, ⟨some 7, none, .pur .mov [.tmp 22]⟩]) [7])
  (.seq (.reg (straight [⟨some 23, none, .pur .mov [.tmp 1]⟩, ⟨some 24, none, .pur (.minmax true) [.tmp 23, .const (.int .i64 1)]⟩, ⟨some 25, none, .pur (.minmax false) [.tmp 24, .const (.int .i64 64)]⟩, ⟨some 8, none, .pur .mov [.tmp 25]⟩]) [8])
  (.seq (.reg (straight [⟨some 9, none, .pur .mov [.const (.slice none 0 0)]⟩]) [9])
  (.seq (.seq (.reg (straight [⟨some 10, none, .pur .mov [.const (.int .i64 0)]⟩]) [10])
  (.block 0 (.loop S_span_Plan_L1)))
  (.seq (.reg (straight [⟨some 43, none, .pur .mov [.tmp 9]⟩, ⟨some 4, none, .pur .mov [.tmp 43]⟩, ⟨some 5, none, .pur .mov [.const (.int .i64 0)]⟩]) [4, 5])
  (.ret)))))))⟩
theorem K_span_Plan : compF Try.prog 62 = some S_span_Plan := by kernel_rfl

-- 63
def S_span_Greedy : Fun := ⟨17, [4, 5, 0, 1, 6, 7], [.tmp 4, .tmp 5],
  .seq (.reg (straight [⟨some 4, none, .pur .mov [.const (.int .i64 0)]⟩, ⟨some 5, none, .pur .mov [.const (.int .i64 0)]⟩]) [4, 5])
  (.seq (.reg (straight [⟨some 9, none, .pur .mov [.tmp 0]⟩, ⟨some 10, none, .pur .mov [.tmp 1]⟩, ⟨some 11, none, .eff (.call 62) [.tmp 9, .tmp 10]⟩, ⟨some 8, none, .pur .mov [.tmp 11]⟩, ⟨some 12, none, .pur (.ext 0) [.tmp 8]⟩, ⟨some 13, none, .pur (.ext 1) [.tmp 8]⟩, ⟨some 6, none, .pur .mov [.tmp 12]⟩, ⟨some 7, none, .pur .mov [.tmp 13]⟩]) [6, 7])
  (.seq (.reg (straight [⟨some 14, none, .pur .mov [.tmp 6]⟩, ⟨some 15, none, .pur (.len false) [.tmp 14]⟩, ⟨some 16, none, .pur .mov [.tmp 7]⟩, ⟨some 4, none, .pur .mov [.tmp 15]⟩, ⟨some 5, none, .pur .mov [.tmp 16]⟩]) [4, 5])
  (.ret)))⟩
theorem K_span_Greedy : compF Try.prog 63 = some S_span_Greedy := by kernel_rfl

-- 64
def S_forebayref41_Level_L1 : SCode :=
  .seq (.seq (.reg (straight [⟨some 10, none, .pur .mov [.tmp 6]⟩, ⟨some 11, none, .pur .mov [.tmp 5]⟩, ⟨some 12, none, .pur (.len false) [.tmp 11]⟩, ⟨some 13, none, .pur (.bin .lss) [.tmp 10, .tmp 12]⟩]) [13])
  (.cond (.tmp 13) (.skip) (.exit 0)))
  (.seq (.block 1 (.reg (straight [⟨some 16, none, .pur .mov [.tmp 5]⟩, ⟨some 17, none, .pur .mov [.tmp 6]⟩, ⟨some 18, none, .pur (.ixa 1) [.tmp 16, .tmp 17]⟩, ⟨none, none, .eff (.st 1) [.tmp 18, .const (.int .i64 1)]⟩]) []))
  (.reg (straight [⟨some 14, none, .pur .mov [.tmp 6]⟩, ⟨some 15, none, .pur (.bin .add) [.tmp 14, .const (.int .i64 1)]⟩, ⟨some 6, none, .pur .mov [.tmp 15]⟩]) [6]))
def S_forebayref41_Level : Fun := ⟨27, [4, 0, 6, 5, 13, 1], [.tmp 4],
  .seq (.reg (straight [⟨some 4, none, .pur .mov [.const (.int .i64 0)]⟩]) [4])
  (.seq (.reg (straight [⟨some 7, none, .pur .mov [.tmp 0]⟩, ⟨some 8, none, .pur (.len false) [.tmp 7]⟩, ⟨some 9, none, .eff (.mks 3 1 8 [.int .i64 0]) [.tmp 8, .tmp 8]⟩, ⟨some 5, none, .pur .mov [.tmp 9]⟩]) [5])
  (.seq (.seq (.reg (straight [⟨some 6, none, .pur .mov [.const (.int .i64 0)]⟩]) [6])
  (.block 0 (.loop S_forebayref41_Level_L1)))
  (.seq (.reg (straight [⟨some 19, none, .pur .mov [.tmp 0]⟩, ⟨some 20, none, .pur .mov [.tmp 5]⟩, ⟨some 21, none, .pur .mov [.tmp 1]⟩, ⟨some 22, none, .pur .mov [.tmp 0]⟩, ⟨some 23, none, .pur (.len false) [.tmp 22]⟩, ⟨some 24, none, .eff (.mks 3 1 8 [.int .i64 0]) [.tmp 23, .tmp 23]⟩, ⟨some 25, none, .eff (.call 100) [.tmp 19, .tmp 20, .tmp 21, .tmp 24]⟩, ⟨some 26, none, .pur (.bin .sub) [.tmp 25, .const (.int .i64 1)]⟩, ⟨some 4, none, .pur .mov [.tmp 26]⟩]) [4])
  (.ret))))⟩
theorem K_forebayref41_Level : compF Try.prog 64 = some S_forebayref41_Level := by kernel_rfl

-- 65
def S_forebayref41_Plan_L3 : SCode :=
  .seq (.seq (.reg (straight [⟨some 36, none, .pur .mov [.tmp 11]⟩, ⟨some 37, none, .pur .mov [.tmp 0]⟩, ⟨some 38, none, .pur .mov [.tmp 9]⟩, ⟨some 39, none, .pur (.ixa 1) [.tmp 37, .tmp 38]⟩, ⟨some 40, none, .ld none (.tmp 39)⟩, ⟨some 41, none, .pur (.len false) [.tmp 40]⟩, ⟨some 42, none, .pur (.bin .lss) [.tmp 36, .tmp 41]⟩]) [42])
  (.cond (.tmp 42) (.skip) (.exit 4)))
  (.seq (.block 5 (.reg (straight [⟨some 45, none, .pur .mov [.tmp 10]⟩, ⟨some 46, none, .pur .mov [.tmp 45]⟩, ⟨some 47, some (46, true), .pur .mov [.tmp 7]⟩, ⟨some 48, some (46, true), .pur .mov [.tmp 0]⟩, ⟨some 49, some (46, true), .pur .mov [.tmp 9]⟩, ⟨some 50, some (46, true), .pur (.ixa 1) [.tmp 48, .tmp 49]⟩, ⟨some 51, some (46, true), .ld none (.tmp 50)⟩, ⟨some 52, some (46, true), .pur .mov [.tmp 11]⟩, ⟨some 53, some (46, true), .pur (.ixa 1) [.tmp 51, .tmp 52]⟩, ⟨some 54, some (46, true), .ld none (.tmp 53)⟩, ⟨some 55, some (46, true), .eff (.call 101) [.tmp 47, .tmp 54]⟩, ⟨some 56, none, .pur .pick [.tmp 46, .tmp 55, .const (.bool false)]⟩, ⟨some 10, none, .pur .mov [.tmp 56]⟩]) [10]))
  (.reg (straight [⟨some 43, none, .pur .mov [.tmp 11]⟩, ⟨some 44, none, .pur (.bin .add) [.tmp 43, .const (.int .i64 1)]⟩, ⟨some 11, none, .pur .mov [.tmp 44]⟩]) [11]))
def S_forebayref41_Plan_L2 : SCode :=
  .seq (.seq (.reg (straight [⟨some 20, none, .pur .mov [.tmp 9]⟩, ⟨some 21, none, .pur .mov [.tmp 0]⟩, ⟨some 22, none, .pur (.len false) [.tmp 21]⟩, ⟨some 23, none, .pur (.bin .lss) [.tmp 20, .tmp 22]⟩, ⟨some 24, none, .pur .mov [.tmp 23]⟩, ⟨some 25, some (24, true), .pur .mov [.tmp 8]⟩, ⟨some 26, some (24, true), .pur (.len false) [.tmp 25]⟩, ⟨some 27, some (24, true), .pur .mov [.tmp 5]⟩, ⟨some 28, some (24, true), .pur (.bin .lss) [.tmp 26, .tmp 27]⟩, ⟨some 29, none, .pur .pick [.tmp 24, .tmp 28, .const (.bool false)]⟩]) [29])
  (.cond (.tmp 29) (.skip) (.exit 2)))
  (.seq (.block 3 (.seq (.reg (straight [⟨some 32, none, .pur .mov [.tmp 7]⟩, ⟨some 33, none, .pur .mov [.tmp 9]⟩, ⟨some 34, none, .eff (.call 101) [.tmp 32, .tmp 33]⟩, ⟨some 35, none, .pur .not [.tmp 34]⟩, ⟨some 10, none, .pur .mov [.tmp 35]⟩]) [10])
  (.seq (.seq (.reg (straight [⟨some 11, none, .pur .mov [.const (.int .i64 0)]⟩]) [11])
  (.block 4 (.loop S_forebayref41_Plan_L3)))
  (.seq (.reg (straight [⟨some 57, none, .pur .mov [.tmp 10]⟩]) [57])
  (.cond (.tmp 57) (.reg (straight [⟨some 58, none, .pur .mov [.tmp 8]⟩, ⟨some 59, none, .pur .mov [.tmp 9]⟩, ⟨some 60, none, .eff (.bsl 3 1) [.tmp 59]⟩, ⟨some 61, none, .eff (.app 3 1 8 [.int .i64 0]) [.tmp 58, .tmp 60]⟩, ⟨some 8, none, .pur .mov [.tmp 61]⟩]) [8]) (.skip))))))
  (.reg (straight [⟨some 30, none, .pur .mov [.tmp 9]⟩, ⟨some 31, none, .pur (.bin .add) [.tmp 30, .const (.int .i64 1)]⟩, ⟨some 9, none, .pur .mov [.tmp 31]⟩]) [9]))
def S_forebayref41_Plan_L1 : SCode :=
  .seq (.seq (.reg (straight [⟨some 15, none, .pur .mov [.tmp 7]⟩, ⟨some 16, none, .pur (.len false) [.tmp 15]⟩, ⟨some 17, none, .pur .mov [.tmp 0]⟩, ⟨some 18, none, .pur (.len false) [.tmp 17]⟩, ⟨some 19, none, .pur (.bin .lss) [.tmp 16, .tmp 18]⟩]) [19])
  (.cond (.tmp 19) (.skip) (.exit 0)))
  (.block 1 (.seq (.reg (straight [⟨some 8, none, .pur .mov [.const (.slice none 0 0)]⟩]) [8])
  (.seq (.seq (.reg (straight [⟨some 9, none, .pur .mov [.const (.int .i64 0)]⟩]) [9])
  (.block 2 (.loop S_forebayref41_Plan_L2)))
  (.seq (.reg (straight [⟨some 62, none, .pur .mov [.tmp 7]⟩, ⟨some 63, none, .pur .mov [.tmp 8]⟩, ⟨some 64, none, .eff (.app 3 1 8 [.int .i64 0]) [.tmp 62, .tmp 63]⟩, ⟨some 7, none, .pur .mov [.tmp 64]⟩]) [7])
  (.reg (straight [⟨some 65, none, .pur .mov [.tmp 6]⟩, ⟨some 66, none, .pur .mov [.tmp 8]⟩, ⟨some 67, none, .eff (.bsl 29 1) [.tmp 66]⟩, ⟨some 68, none, .eff (.app 29 1 24 [.slice none 0 0]) [.tmp 65, .tmp 67]⟩, ⟨some 6, none, .pur .mov [.tmp 68]⟩]) [6])))))
def S_forebayref41_Plan : Fun := ⟨70, [4, 1, 7, 0, 19, 9, 8, 5, 29, 11, 42, 10, 57, 6], [.tmp 4],
  .seq (.reg (straight [⟨some 4, none, .pur .mov [.const (.slice none 0 0)]⟩]) [4])
  (.seq (.reg (straight [⟨some 12, none, .pur .mov [.tmp 1]⟩, ⟨some 13, none, .pur (.minmax true) [.tmp 12, .const (.int .i64 1)]⟩, ⟨some 14, none, .pur (.minmax false) [.tmp 13, .const (.int .i64 64)]⟩, ⟨some 5, none, .pur .mov [.tmp 14]⟩]) [5])
  (.seq (.reg (straight [⟨some 6, none, .pur .mov [.const (.slice none 0 0)]⟩]) [6])
  (.seq (.reg (straight [⟨some 7, none, .pur .mov [.const (.slice none 0 0)]⟩]) [7])
  (.seq (.block 0 (.loop S_forebayref41_Plan_L1))
  (.seq (.reg (straight [⟨some 69, none, .pur .mov [.tmp 6]⟩, ⟨some 4, none, .pur .mov [.tmp 69]⟩]) [4])
  (.ret))))))⟩
theorem K_forebayref41_Plan : compF Try.prog 65 = some S_forebayref41_Plan := by kernel_rfl

-- 66
def S_forebaylaw05_Ints_L1 : SCode :=
  .seq (.seq (.reg (straight [⟨some 11, none, .pur .mov [.tmp 5]⟩, ⟨some 12, none, .pur .mov [.tmp 0]⟩, ⟨some 13, none, .pur (.len false) [.tmp 12]⟩, ⟨some 14, none, .pur (.bin .lss) [.tmp 11, .tmp 13]⟩, ⟨some 15, none, .pur .mov [.tmp 14]⟩, ⟨some 16, some (15, true), .pur .mov [.tmp 5]⟩, ⟨some 17, some (15, true), .pur .mov [.tmp 1]⟩, ⟨some 18, some (15, true), .pur (.len false) [.tmp 17]⟩, ⟨some 19, some (15, true), .pur (.bin .lss) [.tmp 16, .tmp 18]⟩, ⟨some 20, none, .pur .pick [.tmp 15, .tmp 19, .const (.bool false)]⟩]) [20])
  (.cond (.tmp 20) (.skip) (.exit 0)))
  (.seq (.block 1 (.seq (.reg (straight [⟨some 23, none, .pur .mov [.tmp 0]⟩, ⟨some 24, none, .pur .mov [.tmp 5]⟩, ⟨some 25, none, .pur (.ixa 1) [.tmp 23, .tmp 24]⟩, ⟨some 26, none, .ld none (.tmp 25)⟩, ⟨some 27, none, .pur .mov [.tmp 1]⟩, ⟨some 28, none, .pur .mov [.tmp 5]⟩, ⟨some 29, none, .pur (.ixa 1) [.tmp 27, .tmp 28]⟩, ⟨some 30, none, .ld none (.tmp 29)⟩, ⟨some 31, none, .pur (.bin .neq) [.tmp 26, .tmp 30]⟩]) [31])
  (.cond (.tmp 31) (.seq (.reg (straight [⟨some 4, none, .pur .mov [.const (.bool false)]⟩]) [4])
  (.ret)) (.skip))))
  (.reg (straight [⟨some 21, none, .pur .mov [.tmp 5]⟩, ⟨some 22, none, .pur (.bin .add) [.tmp 21, .const (.int .i64 1)]⟩, ⟨some 5, none, .pur .mov [.tmp 22]⟩]) [5]))
def S_forebaylaw05_Ints : Fun := ⟨32, [4, 0, 1, 10, 5, 20, 31], [.tmp 4],
  .seq (.reg (straight [⟨some 4, none, .pur .mov [.const (.bool false)]⟩]) [4])
  (.seq (.seq (.reg (straight [⟨some 6, none, .pur .mov [.tmp 0]⟩, ⟨some 7, none, .pur (.len false) [.tmp 6]⟩, ⟨some 8, none, .pur .mov [.tmp 1]⟩, ⟨some 9, none, .pur (.len false) [.tmp 8]⟩, ⟨some 10, none, .pur (.bin .neq) [.tmp 7, .tmp 9]⟩]) [10])
  (.cond (.tmp 10) (.seq (.reg (straight [⟨some 4, none, .pur .mov [.const (.bool false)]⟩]) [4])
  (.ret)) (.skip)))
  (.seq (.seq (.reg (straight [⟨some 5, none, .pur .mov [.const (.int .i64 0)]⟩]) [5])
  (.block 0 (.loop S_forebaylaw05_Ints_L1)))
  (.seq (.reg (straight [⟨some 4, none, .pur .mov [.const (.bool true)]⟩]) [4])
  (.ret))))⟩
theorem K_forebaylaw05_Ints : compF Try.prog 66 = some S_forebaylaw05_Ints := by kernel_rfl

-- 67
def S_span_Span_L2 : SCode :=
  .seq (.reg (straight [⟨some 31, none, .pur (.bin .lss) [.tmp 30, .tmp 29]⟩]) [31])
  (.seq (.cond (.tmp 31) (.skip) (.exit 2))
  (.seq (.block 3 (.seq (.reg (straight [⟨some 32, none, .pur (.ixa 1) [.tmp 28, .tmp 30]⟩, ⟨some 33, none, .ld none (.tmp 32)⟩, ⟨some 11, none, .pur .mov [.tmp 33]⟩]) [11])
  (.reg (straight [⟨some 34, none, .pur .mov [.tmp 9]⟩, ⟨some 35, none, .pur .mov [.tmp 4]⟩, ⟨some 36, none, .pur .mov [.tmp 11]⟩, ⟨some 37, none, .pur (.ixa 1) [.tmp 35, .tmp 36]⟩, ⟨some 38, none, .ld none (.tmp 37)⟩, ⟨some 39, none, .pur (.minmax true) [.tmp 34, .tmp 38]⟩, ⟨some 9, none, .pur .mov [.tmp 39]⟩]) [9])))
  (.reg (straight [⟨some 40, none, .pur (.bin .add) [.tmp 30, .const (.int .i64 1)]⟩, ⟨some 30, none, .pur .mov [.tmp 40]⟩]) [30])))
def S_span_Span_L1 : SCode :=
  .seq (.reg (straight [⟨some 24, none, .pur (.bin .lss) [.tmp 23, .tmp 22]⟩]) [24])
  (.seq (.cond (.tmp 24) (.skip) (.exit 0))
  (.seq (.block 1 (.seq (.reg (straight [⟨some 25, none, .pur .mov [.tmp 23]⟩, ⟨some 26, none, .pur (.ixa 1) [.tmp 21, .tmp 23]⟩, ⟨some 27, none, .ld none (.tmp 26)⟩, ⟨some 7, none, .pur .mov [.tmp 25]⟩, ⟨some 8, none, .pur .mov [.tmp 27]⟩]) [7, 8])
  (.seq (.reg (straight [⟨some 9, none, .pur .mov [.const (.int .i64 0)]⟩]) [9])
  (.seq (.seq (.reg (straight [⟨some 28, none, .pur .mov [.tmp 8]⟩, ⟨some 29, none, .pur (.len false) [.tmp 28]⟩, ⟨some 30, none, .pur .mov [.const (.int .i64 0)]⟩]) [28, 29, 30])
  (.block 2 (.loop S_span_Span_L2)))
  (.seq (.reg (straight [⟨some 41, none, .pur .mov [.tmp 4]⟩, ⟨some 42, none, .pur .mov [.tmp 7]⟩, ⟨some 43, none, .pur (.ixa 1) [.tmp 41, .tmp 42]⟩, ⟨some 44, none, .ld none (.tmp 43)⟩, ⟨some 45, none, .pur .mov [.tmp 9]⟩, ⟨some 46, none, .pur (.bin .add) [.tmp 44, .tmp 45]⟩, ⟨some 47, none, .pur (.ixa 1) [.tmp 41, .tmp 42]⟩, ⟨none, none, .eff (.st 1) [.tmp 47, .tmp 46]⟩]) [])
  (.reg (straight [⟨some 48, none, .pur .mov [.tmp 6]⟩, ⟨some 49, none, .pur .mov [.tmp 4]⟩, ⟨some 50, none, .pur .mov [.tmp 7]⟩, ⟨some 51, none, .pur (.ixa 1) [.tmp 49, .tmp 50]⟩, ⟨some 52, none, .ld none (.tmp 51)⟩, ⟨some 53, none, .pur (.minmax true) [.tmp 48, .tmp 52]⟩, ⟨some 6, none, .pur .mov [.tmp 53]⟩]) [6]))))))
  (.reg (straight [⟨some 54, none, .pur (.bin .add) [.tmp 23, .const (.int .i64 1)]⟩, ⟨some 23, none, .pur .mov [.tmp 54]⟩]) [23])))
def S_span_Span : Fun := ⟨56, [2, 3, 0, 1, 5, 18, 23, 22, 24, 21, 8, 30, 29, 31, 28, 9, 4, 11, 7, 6], [.tmp 2, .tmp 3],
  .seq (.reg (straight [⟨some 1, none, .eff (.box 98) [.tmp 0]⟩, ⟨some 2, none, .pur .mov [.const (.int .i64 0)]⟩, ⟨some 3, none, .pur .mov [.const (.int .i64 0)]⟩]) [1, 2, 3])
  (.seq (.reg (straight [⟨some 13, none, .ld (some 3) (.tmp 1)⟩, ⟨some 14, none, .eff (.call 68) [.tmp 13]⟩, ⟨some 12, none, .pur .mov [.tmp 14]⟩, ⟨some 15, none, .pur (.ext 0) [.tmp 12]⟩, ⟨some 16, none, .pur (.ext 1) [.tmp 12]⟩, ⟨some 4, none, .pur .mov [.tmp 15]⟩, ⟨some 5, none, .pur .mov [.tmp 16]⟩]) [4, 5])
  (.seq (.seq (.reg (straight [⟨some 17, none, .pur .mov [.tmp 5]⟩, ⟨some 18, none, .pur (.bin .neq) [.tmp 17, .const (.int .i64 0)]⟩]) [18])
  (.cond (.tmp 18) (.seq (.reg (straight [⟨some 19, none, .pur .mov [.tmp 5]⟩, ⟨some 2, none, .pur .mov [.const (.int .i64 0)]⟩, ⟨some 3, none, .pur .mov [.tmp 19]⟩]) [2, 3])
  (.ret)) (.skip)))
  (.seq (.reg (straight [⟨some 6, none, .pur .mov [.const (.int .i64 0)]⟩]) [6])
  (.seq (.seq (.reg (straight [⟨some 20, none, .pur (.fla 0) [.tmp 1]⟩, ⟨some 21, none, .ld none (.tmp 20)⟩, ⟨some 22, none, .pur (.len false) [.tmp 21]⟩, ⟨some 23, none, .pur .mov [.const (.int .i64 0)]⟩]) [21, 22, 23])
  (.block 0 (.loop S_span_Span_L1)))
  (.seq (.reg (straight [⟨some 55, none, .pur .mov [.tmp 6]⟩, ⟨some 2, none, .pur .mov [.tmp 55]⟩, ⟨some 3, none, .pur .mov [.const (.int .i64 0)]⟩]) [2, 3])
  (.ret))))))⟩
theorem K_span_Span : compF Try.prog 67 = some S_span_Span := by kernel_rfl

-- 68
def S_span_Weights_L1 : SCode :=
  .seq (.reg (straight [⟨some 22, none, .pur (.bin .lss) [.tmp 21, .tmp 20]⟩]) [22])
  (.seq (.cond (.tmp 22) (.skip) (.exit 0))
  (.seq (.block 1 (.seq (.reg (straight [⟨some 23, none, .pur .mov [.tmp 21]⟩, ⟨some 6, none, .pur .mov [.tmp 23]⟩]) [6])
  (.reg (straight [⟨some 24, none, .pur .mov [.tmp 5]⟩, ⟨some 25, none, .pur .mov [.tmp 6]⟩, ⟨some 26, none, .pur (.ixa 1) [.tmp 24, .tmp 25]⟩, ⟨none, none, .eff (.st 1) [.tmp 26, .const (.int .i64 1)]⟩]) [])))
  (.reg (straight [⟨some 27, none, .pur (.bin .add) [.tmp 21, .const (.int .i64 1)]⟩, ⟨some 21, none, .pur .mov [.tmp 27]⟩]) [21])))
def S_span_Weights_L2 : SCode :=
  .seq (.reg (straight [⟨some 32, none, .pur (.bin .lss) [.tmp 31, .tmp 30]⟩]) [32])
  (.seq (.cond (.tmp 32) (.skip) (.exit 2))
  (.seq (.block 3 (.seq (.reg (straight [⟨some 33, none, .pur (.ixa 3) [.tmp 29, .tmp 31]⟩, ⟨some 34, none, .ld (some 3) (.tmp 33)⟩, ⟨some 8, none, .eff (.new 114 [.int .i64 0, .int .i64 0, .bool false]) []⟩, ⟨none, none, .eff (.st 3) [.tmp 8, .tmp 34]⟩]) [8])
  (.seq (.seq (.reg (straight [⟨some 35, none, .pur (.fla 0) [.tmp 8]⟩, ⟨some 36, none, .ld none (.tmp 35)⟩, ⟨some 37, none, .pur (.bin .lss) [.tmp 36, .const (.int .i64 0)]⟩, ⟨some 38, none, .pur .mov [.tmp 37]⟩, ⟨some 39, some (38, false), .pur (.fla 0) [.tmp 8]⟩, ⟨some 40, some (38, false), .ld none (.tmp 39)⟩, ⟨some 41, some (38, false), .pur .mov [.tmp 5]⟩, ⟨some 42, some (38, false), .pur (.len false) [.tmp 41]⟩, ⟨some 43, some (38, false), .pur (.bin .geq) [.tmp 40, .tmp 42]⟩, ⟨some 44, none, .pur .pick [.tmp 38, .const (.bool true), .tmp 43]⟩]) [44])
  (.cond (.tmp 44) (.seq (.reg (straight [⟨some 2, none, .pur .mov [.const (.slice none 0 0)]⟩, ⟨some 3, none, .pur .mov [.const (.int .i64 3)]⟩]) [2, 3])
  (.ret)) (.skip)))
  (.reg (straight [⟨some 45, none, .pur .mov [.tmp 5]⟩, ⟨some 46, none, .pur (.fla 0) [.tmp 8]⟩, ⟨some 47, none, .ld none (.tmp 46)⟩, ⟨some 48, none, .pur (.ixa 1) [.tmp 45, .tmp 47]⟩, ⟨some 49, none, .ld none (.tmp 48)⟩, ⟨some 50, none, .pur (.bin .add) [.tmp 49, .const (.int .i64 1)]⟩, ⟨some 51, none, .pur (.ixa 1) [.tmp 45, .tmp 47]⟩, ⟨none, none, .eff (.st 1) [.tmp 51, .tmp 50]⟩]) []))))
  (.reg (straight [⟨some 52, none, .pur (.bin .add) [.tmp 31, .const (.int .i64 1)]⟩, ⟨some 31, none, .pur .mov [.tmp 52]⟩]) [31])))
def S_span_Weights : Fun := ⟨54, [2, 3, 0, 1, 4, 13, 5, 21, 20, 22, 6, 31, 30, 32, 29, 8, 44], [.tmp 2, .tmp 3],
  .seq (.reg (straight [⟨some 1, none, .eff (.box 98) [.tmp 0]⟩, ⟨some 2, none, .pur .mov [.const (.slice none 0 0)]⟩, ⟨some 3, none, .pur .mov [.const (.int .i64 0)]⟩]) [1, 2, 3])
  (.seq (.seq (.reg (straight [⟨some 9, none, .pur (.fla 0) [.tmp 1]⟩, ⟨some 10, none, .ld none (.tmp 9)⟩, ⟨some 11, none, .eff (.call 98) [.tmp 10]⟩, ⟨some 4, none, .pur .mov [.tmp 11]⟩]) [4])
  (.seq (.reg (straight [⟨some 12, none, .pur .mov [.tmp 4]⟩, ⟨some 13, none, .pur (.bin .neq) [.tmp 12, .const (.int .i64 0)]⟩]) [13])
  (.cond (.tmp 13) (.seq (.reg (straight [⟨some 14, none, .pur .mov [.tmp 4]⟩, ⟨some 2, none, .pur .mov [.const (.slice none 0 0)]⟩, ⟨some 3, none, .pur .mov [.tmp 14]⟩]) [2, 3])
  (.ret)) (.skip))))
  (.seq (.reg (straight [⟨some 15, none, .pur (.fla 0) [.tmp 1]⟩, ⟨some 16, none, .ld none (.tmp 15)⟩, ⟨some 17, none, .pur (.len false) [.tmp 16]⟩, ⟨some 18, none, .eff (.mks 3 1 8 [.int .i64 0]) [.tmp 17, .tmp 17]⟩, ⟨some 5, none, .pur .mov [.tmp 18]⟩]) [5])
  (.seq (.seq (.reg (straight [⟨some 19, none, .pur .mov [.tmp 5]⟩, ⟨some 20, none, .pur (.len false) [.tmp 19]⟩, ⟨some 21, none, .pur .mov [.const (.int .i64 0)]⟩]) [20, 21])
  (.block 0 (.loop S_span_Weights_L1)))
  (.seq (.seq (.reg (straight [⟨some 28, none, .pur (.fla 2) [.tmp 1]⟩, ⟨some 29, none, .ld none (.tmp 28)⟩, ⟨some 30, none, .pur (.len false) [.tmp 29]⟩, ⟨some 31, none, .pur .mov [.const (.int .i64 0)]⟩]) [29, 30, 31])
  (.block 2 (.loop S_span_Weights_L2)))
  (.seq (.reg (straight [⟨some 53, none, .pur .mov [.tmp 5]⟩, ⟨some 2, none, .pur .mov [.tmp 53]⟩, ⟨some 3, none, .pur .mov [.const (.int .i64 0)]⟩]) [2, 3])
  (.ret))))))⟩
theorem K_span_Weights : compF Try.prog 68 = some S_span_Weights := by kernel_rfl

-- 69
def S_span_Work_L1 : SCode :=
  .seq (.reg (straight [⟨some 17, none, .pur (.bin .lss) [.tmp 16, .tmp 15]⟩]) [17])
  (.seq (.cond (.tmp 17) (.skip) (.exit 0))
  (.seq (.block 1 (.seq (.reg (straight [⟨some 18, none, .pur (.ixa 1) [.tmp 14, .tmp 16]⟩, ⟨some 19, none, .ld none (.tmp 18)⟩, ⟨some 8, none, .pur .mov [.tmp 19]⟩]) [8])
  (.reg (straight [⟨some 20, none, .pur .mov [.tmp 6]⟩, ⟨some 21, none, .pur .mov [.tmp 8]⟩, ⟨some 22, none, .pur (.bin .add) [.tmp 20, .tmp 21]⟩, ⟨some 6, none, .pur .mov [.tmp 22]⟩]) [6])))
  (.reg (straight [⟨some 23, none, .pur (.bin .add) [.tmp 16, .const (.int .i64 1)]⟩, ⟨some 16, none, .pur .mov [.tmp 23]⟩]) [16])))
def S_span_Work : Fun := ⟨26, [2, 3, 0, 1, 4, 16, 15, 17, 14, 6, 8, 5], [.tmp 2, .tmp 3],
  .seq (.reg (straight [⟨some 1, none, .eff (.box 98) [.tmp 0]⟩, ⟨some 2, none, .pur .mov [.const (.int .i64 0)]⟩, ⟨some 3, none, .pur .mov [.const (.int .i64 0)]⟩]) [1, 2, 3])
  (.seq (.reg (straight [⟨some 10, none, .ld (some 3) (.tmp 1)⟩, ⟨some 11, none, .eff (.call 68) [.tmp 10]⟩, ⟨some 9, none, .pur .mov [.tmp 11]⟩, ⟨some 12, none, .pur (.ext 0) [.tmp 9]⟩, ⟨some 13, none, .pur (.ext 1) [.tmp 9]⟩, ⟨some 4, none, .pur .mov [.tmp 12]⟩, ⟨some 5, none, .pur .mov [.tmp 13]⟩]) [4, 5])
  (.seq (.reg (straight [⟨some 6, none, .pur .mov [.const (.int .i64 0)]⟩]) [6])
  (.seq (.seq (.reg (straight [⟨some 14, none, .pur .mov [.tmp 4]⟩, ⟨some 15, none, .pur (.len false) [.tmp 14]⟩, ⟨some 16, none, .pur .mov [.const (.int .i64 0)]⟩]) [14, 15, 16])
  (.block 0 (.loop S_span_Work_L1)))
  (.seq (.reg (straight [⟨some 24, none, .pur .mov [.tmp 6]⟩, ⟨some 25, none, .pur .mov [.tmp 5]⟩, ⟨some 2, none, .pur .mov [.tmp 24]⟩, ⟨some 3, none, .pur .mov [.tmp 25]⟩]) [2, 3])
  (.ret)))))⟩
theorem K_span_Work : compF Try.prog 69 = some S_span_Work := by kernel_rfl

-- 70
def S_forebayref41_Weights_L1 : SCode :=
  .seq (.seq (.reg (straight [⟨some 19, none, .pur .mov [.tmp 8]⟩, ⟨some 20, none, .pur .mov [.tmp 1]⟩, ⟨some 21, none, .pur (.len false) [.tmp 20]⟩, ⟨some 22, none, .pur (.bin .lss) [.tmp 19, .tmp 21]⟩]) [22])
  (.cond (.tmp 22) (.skip) (.exit 0)))
  (.seq (.block 1 (.seq (.reg (straight [⟨some 25, none, .pur .mov [.tmp 1]⟩, ⟨some 26, none, .pur .mov [.tmp 8]⟩, ⟨some 27, none, .pur (.ixa 3) [.tmp 25, .tmp 26]⟩, ⟨some 28, none, .pur (.fla 0) [.tmp 27]⟩, ⟨some 29, none, .ld none (.tmp 28)⟩, ⟨some 30, none, .pur (.bin .lss) [.tmp 29, .const (.int .i64 0)]⟩, ⟨some 31, none, .pur .mov [.tmp 30]⟩, ⟨some 32, some (31, false), .pur .mov [.tmp 1]⟩, ⟨some 33, some (31, false), .pur .mov [.tmp 8]⟩, ⟨some 34, some (31, false), .pur (.ixa 3) [.tmp 32, .tmp 33]⟩, ⟨some 35, some (31, false), .pur (.fla 0) [.tmp 34]⟩, ⟨some 36, some (31, false), .ld none (.tmp 35)⟩, ⟨some 37, some (31, false), .pur .mov [.tmp 0]⟩, ⟨some 38, some (31, false), .pur (.len false) [.tmp 37]⟩, ⟨some 39, some (31, false), .pur (.bin .geq) [.tmp 36, .tmp 38]⟩, ⟨some 40, none, .pur .pick [.tmp 31, .const (.bool true), .tmp 39]⟩]) [40])
  (.cond (.tmp 40) (.seq (.reg (straight [⟨some 4, none, .pur .mov [.const (.slice none 0 0)]⟩, ⟨some 5, none, .pur .mov [.const (.int .i64 3)]⟩]) [4, 5])
  (.ret)) (.skip))))
  (.reg (straight [⟨some 23, none, .pur .mov [.tmp 8]⟩, ⟨some 24, none, .pur (.bin .add) [.tmp 23, .const (.int .i64 1)]⟩, ⟨some 8, none, .pur .mov [.tmp 24]⟩]) [8]))
def S_forebayref41_Weights_L3 : SCode :=
  .seq (.seq (.reg (straight [⟨some 50, none, .pur .mov [.tmp 10]⟩, ⟨some 51, none, .pur .mov [.tmp 1]⟩, ⟨some 52, none, .pur (.len false) [.tmp 51]⟩, ⟨some 53, none, .pur (.bin .lss) [.tmp 50, .tmp 52]⟩]) [53])
  (.cond (.tmp 53) (.skip) (.exit 4)))
  (.seq (.block 5 (.seq (.reg (straight [⟨some 56, none, .pur .mov [.tmp 1]⟩, ⟨some 57, none, .pur .mov [.tmp 10]⟩, ⟨some 58, none, .pur (.ixa 3) [.tmp 56, .tmp 57]⟩, ⟨some 59, none, .pur (.fla 0) [.tmp 58]⟩, ⟨some 60, none, .ld none (.tmp 59)⟩, ⟨some 61, none, .pur .mov [.tmp 9]⟩, ⟨some 62, none, .pur (.bin .eql) [.tmp 60, .tmp 61]⟩]) [62])
  (.cond (.tmp 62) (.reg (straight [⟨some 63, none, .pur .mov [.tmp 7]⟩, ⟨some 64, none, .pur .mov [.tmp 9]⟩, ⟨some 65, none, .pur (.ixa 1) [.tmp 63, .tmp 64]⟩, ⟨some 66, none, .ld none (.tmp 65)⟩, ⟨some 67, none, .pur (.bin .add) [.tmp 66, .const (.int .i64 1)]⟩, ⟨some 68, none, .pur (.ixa 1) [.tmp 63, .tmp 64]⟩, ⟨none, none, .eff (.st 1) [.tmp 68, .tmp 67]⟩]) []) (.skip))))
  (.reg (straight [⟨some 54, none, .pur .mov [.tmp 10]⟩, ⟨some 55, none, .pur (.bin .add) [.tmp 54, .const (.int .i64 1)]⟩, ⟨some 10, none, .pur .mov [.tmp 55]⟩]) [10]))
def S_forebayref41_Weights_L2 : SCode :=
  .seq (.seq (.reg (straight [⟨some 41, none, .pur .mov [.tmp 9]⟩, ⟨some 42, none, .pur .mov [.tmp 0]⟩, ⟨some 43, none, .pur (.len false) [.tmp 42]⟩, ⟨some 44, none, .pur (.bin .lss) [.tmp 41, .tmp 43]⟩]) [44])
  (.cond (.tmp 44) (.skip) (.exit 2)))
  (.seq (.block 3 (.seq (.reg (straight [⟨some 47, none, .pur .mov [.tmp 7]⟩, ⟨some 48, none, .pur .mov [.tmp 9]⟩, ⟨some 49, none, .pur (.ixa 1) [.tmp 47, .tmp 48]⟩, ⟨none, none, .eff (.st 1) [.tmp 49, .const (.int .i64 1)]⟩]) [])
  (.seq (.reg (straight [⟨some 10, none, .pur .mov [.const (.int .i64 0)]⟩]) [10])
  (.block 4 (.loop S_forebayref41_Weights_L3)))))
  (.reg (straight [⟨some 45, none, .pur .mov [.tmp 9]⟩, ⟨some 46, none, .pur (.bin .add) [.tmp 45, .const (.int .i64 1)]⟩, ⟨some 9, none, .pur .mov [.tmp 46]⟩]) [9]))
def S_forebayref41_Weights : Fun := ⟨70, [4, 5, 0, 6, 14, 8, 1, 22, 40, 9, 44, 7, 10, 53, 62], [.tmp 4, .tmp 5],
  .seq (.reg (straight [⟨some 4, none, .pur .mov [.const (.slice none 0 0)]⟩, ⟨some 5, none, .pur .mov [.const (.int .i64 0)]⟩]) [4, 5])
  (.seq (.reg (straight [⟨some 11, none, .pur .mov [.tmp 0]⟩, ⟨some 12, none, .eff (.call 47) [.tmp 11]⟩, ⟨some 6, none, .pur .mov [.tmp 12]⟩]) [6])
  (.seq (.seq (.reg (straight [⟨some 13, none, .pur .mov [.tmp 6]⟩, ⟨some 14, none, .pur (.bin .neq) [.tmp 13, .const (.int .i64 0)]⟩]) [14])
  (.cond (.tmp 14) (.seq (.reg (straight [⟨some 15, none, .pur .mov [.tmp 6]⟩, ⟨some 4, none, .pur .mov [.const (.slice none 0 0)]⟩, ⟨some 5, none, .pur .mov [.tmp 15]⟩]) [4, 5])
  (.ret)) (.skip)))
  (.seq (.reg (straight [⟨some 16, none, .pur .mov [.tmp 0]⟩, ⟨some 17, none, .pur (.len false) [.tmp 16]⟩, ⟨some 18, none, .eff (.mks 3 1 8 [.int .i64 0]) [.tmp 17, .tmp 17]⟩, ⟨some 7, none, .pur .mov [.tmp 18]⟩]) [7])
  (.seq (.seq (.reg (straight [⟨some 8, none, .pur .mov [.const (.int .i64 0)]⟩]) [8])
  (.block 0 (.loop S_forebayref41_Weights_L1)))
  (.seq (.seq (.reg (straight [⟨some 9, none, .pur .mov [.const (.int .i64 0)]⟩]) [9])
  (.block 2 (.loop S_forebayref41_Weights_L2)))
  (.seq (.reg (straight [⟨some 69, none, .pur .mov [.tmp 7]⟩, ⟨some 4, none, .pur .mov [.tmp 69]⟩, ⟨some 5, none, .pur .mov [.const (.int .i64 0)]⟩]) [4, 5])
  (.ret)))))))⟩
theorem K_forebayref41_Weights : compF Try.prog 70 = some S_forebayref41_Weights := by kernel_rfl

-- 71
def S_forebayref41_Span_L1 : SCode :=
  .seq (.seq (.reg (straight [⟨some 11, none, .pur .mov [.tmp 7]⟩, ⟨some 12, none, .pur .mov [.tmp 0]⟩, ⟨some 13, none, .pur (.len false) [.tmp 12]⟩, ⟨some 14, none, .pur (.bin .lss) [.tmp 11, .tmp 13]⟩]) [14])
  (.cond (.tmp 14) (.skip) (.exit 0)))
  (.seq (.block 1 (.reg (straight [⟨some 17, none, .pur .mov [.tmp 6]⟩, ⟨some 18, none, .pur .mov [.tmp 0]⟩, ⟨some 19, none, .pur .mov [.tmp 1]⟩, ⟨some 20, none, .pur .mov [.tmp 7]⟩, ⟨some 21, none, .pur .mov [.tmp 5]⟩, ⟨some 22, none, .eff (.call 100) [.tmp 18, .tmp 19, .tmp 20, .tmp 21]⟩, ⟨some 23, none, .pur (.minmax true) [.tmp 17, .tmp 22]⟩, ⟨some 6, none, .pur .mov [.tmp 23]⟩]) [6]))
  (.reg (straight [⟨some 15, none, .pur .mov [.tmp 7]⟩, ⟨some 16, none, .pur (.bin .add) [.tmp 15, .const (.int .i64 1)]⟩, ⟨some 7, none, .pur .mov [.tmp 16]⟩]) [7]))
def S_forebayref41_Span : Fun := ⟨25, [4, 0, 7, 14, 6, 1, 5], [.tmp 4],
  .seq (.reg (straight [⟨some 4, none, .pur .mov [.const (.int .i64 0)]⟩]) [4])
  (.seq (.reg (straight [⟨some 8, none, .pur .mov [.tmp 0]⟩, ⟨some 9, none, .pur (.len false) [.tmp 8]⟩, ⟨some 10, none, .eff (.mks 3 1 8 [.int .i64 0]) [.tmp 9, .tmp 9]⟩, ⟨some 5, none, .pur .mov [.tmp 10]⟩]) [5])
  (.seq (.reg (straight [⟨some 6, none, .pur .mov [.const (.int .i64 0)]⟩]) [6])
  (.seq (.seq (.reg (straight [⟨some 7, none, .pur .mov [.const (.int .i64 0)]⟩]) [7])
  (.block 0 (.loop S_forebayref41_Span_L1)))
  (.seq (.reg (straight [⟨some 24, none, .pur .mov [.tmp 6]⟩, ⟨some 4, none, .pur .mov [.tmp 24]⟩]) [4])
  (.ret)))))⟩
theorem K_forebayref41_Span : compF Try.prog 71 = some S_forebayref41_Span := by kernel_rfl

-- 98
def S_span_right : Fun := ⟨11, [2, 0, 4], [.tmp 2],
  .seq (.reg (straight [⟨some 2, none, .pur .mov [.const (.int .i64 0)]⟩]) [2])
  (.seq (.reg (straight [⟨some 6, none, .pur .mov [.tmp 0]⟩, ⟨some 7, none, .eff (.call 48) [.tmp 6]⟩, ⟨some 5, none, .pur .mov [.tmp 7]⟩, ⟨some 8, none, .pur (.ext 0) [.tmp 5]⟩, ⟨some 9, none, .pur (.ext 1) [.tmp 5]⟩, ⟨some 3, none, .pur .mov [.tmp 8]⟩, ⟨some 4, none, .pur .mov [.tmp 9]⟩]) [4])
  (.seq (.reg (straight [⟨some 10, none, .pur .mov [.tmp 4]⟩, ⟨some 2, none, .pur .mov [.tmp 10]⟩]) [2])
  (.ret)))⟩
theorem K_span_right : compF Try.prog 98 = some S_span_right := by kernel_rfl

-- 99
def S_span_plan_next_L1 : SCode :=
  .seq (.reg (straight [⟨some 17, none, .pur (.bin .lss) [.tmp 16, .tmp 15]⟩]) [17])
  (.seq (.cond (.tmp 17) (.skip) (.exit 0))
  (.seq (.block 1 (.seq (.reg (straight [⟨some 18, none, .pur .mov [.tmp 16]⟩, ⟨some 8, none, .pur .mov [.tmp 18]⟩]) [8])
  (.seq (.reg (straight [⟨some 19, none, .pur .mov [.tmp 7]⟩, ⟨some 20, none, .pur (.len false) [.tmp 19]⟩, ⟨some 21, none, .pur .mov [.tmp 2]⟩, ⟨some 22, none, .pur (.bin .lss) [.tmp 20, .tmp 21]⟩, ⟨some 23, none, .pur .mov [.tmp 22]⟩, ⟨some 24, some (23, true), .pur .mov [.tmp 0]⟩, ⟨some 25, some (23, true), .pur .mov [.tmp 8]⟩, ⟨some 26, some (23, true), .pur .mov [.tmp 1]⟩, ⟨some 27, some (23, true), .eff (.call 114) [.tmp 24, .tmp 25, .tmp 26]⟩, ⟨some 28, none, .pur .pick [.tmp 23, .tmp 27, .const (.bool false)]⟩]) [28])
  (.cond (.tmp 28) (.reg (straight [⟨some 29, none, .pur .mov [.tmp 7]⟩, ⟨some 30, none, .pur .mov [.tmp 8]⟩, ⟨some 31, none, .eff (.bsl 3 1) [.tmp 30]⟩, ⟨some 32, none, .eff (.app 3 1 8 [.int .i64 0]) [.tmp 29, .tmp 31]⟩, ⟨some 7, none, .pur .mov [.tmp 32]⟩]) [7]) (.skip)))))
  (.reg (straight [⟨some 33, none, .pur (.bin .add) [.tmp 16, .const (.int .i64 1)]⟩, ⟨some 16, none, .pur .mov [.tmp 33]⟩]) [16])))
def S_span_plan_next_L2 : SCode :=
  .seq (.reg (straight [⟨some 37, none, .pur (.bin .lss) [.tmp 36, .tmp 35]⟩]) [37])
  (.seq (.cond (.tmp 37) (.skip) (.exit 2))
  (.seq (.block 3 (.seq (.reg (straight [⟨some 38, none, .pur (.ixa 1) [.tmp 34, .tmp 36]⟩, ⟨some 39, none, .ld none (.tmp 38)⟩, ⟨some 10, none, .pur .mov [.tmp 39]⟩]) [10])
  (.reg (straight [⟨some 40, none, .pur .mov [.tmp 0]⟩, ⟨some 41, none, .pur .nilc [.tmp 40]⟩, ⟨some 42, none, .pur (.fla 1) [.tmp 41]⟩, ⟨some 43, none, .ld none (.tmp 42)⟩, ⟨some 44, none, .pur .mov [.tmp 10]⟩, ⟨some 45, none, .pur .mov [.tmp 1]⟩, ⟨some 46, none, .pur (.bin .add) [.tmp 45, .const (.int .i64 1)]⟩, ⟨some 47, none, .pur (.ixa 1) [.tmp 43, .tmp 44]⟩, ⟨none, none, .eff (.st 1) [.tmp 47, .tmp 46]⟩]) [])))
  (.reg (straight [⟨some 48, none, .pur (.bin .add) [.tmp 36, .const (.int .i64 1)]⟩, ⟨some 36, none, .pur .mov [.tmp 48]⟩]) [36])))
def S_span_plan_next : Fun := ⟨50, [6, 0, 16, 15, 17, 7, 2, 8, 1, 28, 36, 35, 37, 34, 10], [.tmp 6],
  .seq (.reg (straight [⟨some 6, none, .pur .mov [.const (.slice none 0 0)]⟩]) [6])
  (.seq (.reg (straight [⟨some 7, none, .pur .mov [.const (.slice none 0 0)]⟩]) [7])
  (.seq (.seq (.reg (straight [⟨some 11, none, .pur .mov [.tmp 0]⟩, ⟨some 12, none, .pur .nilc [.tmp 11]⟩, ⟨some 13, none, .pur (.fla 0) [.tmp 12]⟩, ⟨some 14, none, .ld none (.tmp 13)⟩, ⟨some 15, none, .pur (.len false) [.tmp 14]⟩, ⟨some 16, none, .pur .mov [.const (.int .i64 0)]⟩]) [15, 16])
  (.block 0 (.loop S_span_plan_next_L1)))
  (.seq (.seq (.reg (straight [⟨some 34, none, .pur .mov [.tmp 7]⟩, ⟨some 35, none, .pur (.len false) [.tmp 34]⟩, ⟨some 36, none, .pur .mov [.const (.int .i64 0)]⟩]) [34, 35, 36])
  (.block 2 (.loop S_span_plan_next_L2)))
  (.seq (.reg (straight [⟨some 49, none, .pur .mov [.tmp 7]⟩, ⟨some 6, none, .pur .mov [.tmp 49]⟩]) [6])
  (.ret)))))⟩
theorem K_span_plan_next : compF Try.prog 99 = some S_span_plan_next := by kernel_rfl

-- 100
def S_forebayref41_path_L1 : SCode :=
  .seq (.seq (.reg (straight [⟨some 20, none, .pur .mov [.tmp 10]⟩, ⟨some 21, none, .pur .mov [.tmp 0]⟩, ⟨some 22, none, .pur .mov [.tmp 2]⟩, ⟨some 23, none, .pur (.ixa 1) [.tmp 21, .tmp 22]⟩, ⟨some 24, none, .ld none (.tmp 23)⟩, ⟨some 25, none, .pur (.len false) [.tmp 24]⟩, ⟨some 26, none, .pur (.bin .lss) [.tmp 20, .tmp 25]⟩]) [26])
  (.cond (.tmp 26) (.skip) (.exit 0)))
  (.seq (.block 1 (.reg (straight [⟨some 29, none, .pur .mov [.tmp 9]⟩, ⟨some 30, none, .pur .mov [.tmp 0]⟩, ⟨some 31, none, .pur .mov [.tmp 1]⟩, ⟨some 32, none, .pur .mov [.tmp 0]⟩, ⟨some 33, none, .pur .mov [.tmp 2]⟩, ⟨some 34, none, .pur (.ixa 1) [.tmp 32, .tmp 33]⟩, ⟨some 35, none, .ld none (.tmp 34)⟩, ⟨some 36, none, .pur .mov [.tmp 10]⟩, ⟨some 37, none, .pur (.ixa 1) [.tmp 35, .tmp 36]⟩, ⟨some 38, none, .ld none (.tmp 37)⟩, ⟨some 39, none, .pur .mov [.tmp 3]⟩, ⟨some 40, none, .eff (.call 100) [.tmp 30, .tmp 31, .tmp 38, .tmp 39]⟩, ⟨some 41, none, .pur (.minmax true) [.tmp 29, .tmp 40]⟩, ⟨some 9, none, .pur .mov [.tmp 41]⟩]) [9]))
  (.reg (straight [⟨some 27, none, .pur .mov [.tmp 10]⟩, ⟨some 28, none, .pur (.bin .add) [.tmp 27, .const (.int .i64 1)]⟩, ⟨some 10, none, .pur .mov [.tmp 28]⟩]) [10]))
def S_forebayref41_path : Fun := ⟨55, [8, 3, 2, 15, 10, 0, 26, 9, 1], [.tmp 8],
  .seq (.reg (straight [⟨some 8, none, .pur .mov [.const (.int .i64 0)]⟩]) [8])
  (.seq (.seq (.reg (straight [⟨some 11, none, .pur .mov [.tmp 3]⟩, ⟨some 12, none, .pur .mov [.tmp 2]⟩, ⟨some 13, none, .pur (.ixa 1) [.tmp 11, .tmp 12]⟩, ⟨some 14, none, .ld none (.tmp 13)⟩, ⟨some 15, none, .pur (.bin .gtr) [.tmp 14, .const (.int .i64 0)]⟩]) [15])
  (.cond (.tmp 15) (.seq (.reg (straight [⟨some 16, none, .pur .mov [.tmp 3]⟩, ⟨some 17, none, .pur .mov [.tmp 2]⟩, ⟨some 18, none, .pur (.ixa 1) [.tmp 16, .tmp 17]⟩, ⟨some 19, none, .ld none (.tmp 18)⟩, ⟨some 8, none, .pur .mov [.tmp 19]⟩]) [8])
  (.ret)) (.skip)))
  (.seq (.reg (straight [⟨some 9, none, .pur .mov [.const (.int .i64 0)]⟩]) [9])
  (.seq (.seq (.reg (straight [⟨some 10, none, .pur .mov [.const (.int .i64 0)]⟩]) [10])
  (.block 0 (.loop S_forebayref41_path_L1)))
  (.seq (.reg (straight [⟨some 42, none, .pur .mov [.tmp 3]⟩, ⟨some 43, none, .pur .mov [.tmp 2]⟩, ⟨some 44, none, .pur .mov [.tmp 9]⟩, ⟨some 45, none, .pur .mov [.tmp 1]⟩, ⟨some 46, none, .pur .mov [.tmp 2]⟩, ⟨some 47, none, .pur (.ixa 1) [.tmp 45, .tmp 46]⟩, ⟨some 48, none, .ld none (.tmp 47)⟩, ⟨some 49, none, .pur (.bin .add) [.tmp 44, .tmp 48]⟩, ⟨some 50, none, .pur (.ixa 1) [.tmp 42, .tmp 43]⟩, ⟨none, none, .eff (.st 1) [.tmp 50, .tmp 49]⟩]) [])
  (.seq (.reg (straight [⟨some 51, none, .pur .mov [.tmp 3]⟩, ⟨some 52, none, .pur .mov [.tmp 2]⟩, ⟨some 53, none, .pur (.ixa 1) [.tmp 51, .tmp 52]⟩, ⟨some 54, none, .ld none (.tmp 53)⟩, ⟨some 8, none, .pur .mov [.tmp 54]⟩]) [8])
  (.ret))))))⟩
theorem K_forebayref41_path : compF Try.prog 100 = some S_forebayref41_path := by kernel_rfl

-- 101
def S_forebayref41_has_L1 : SCode :=
  .seq (.seq (.reg (straight [⟨some 6, none, .pur .mov [.tmp 5]⟩, ⟨some 7, none, .pur .mov [.tmp 0]⟩, ⟨some 8, none, .pur (.len false) [.tmp 7]⟩, ⟨some 9, none, .pur (.bin .lss) [.tmp 6, .tmp 8]⟩]) [9])
  (.cond (.tmp 9) (.skip) (.exit 0)))
  (.seq (.block 1 (.seq (.reg (straight [⟨some 12, none, .pur .mov [.tmp 0]⟩, ⟨some 13, none, .pur .mov [.tmp 5]⟩, ⟨some 14, none, .pur (.ixa 1) [.tmp 12, .tmp 13]⟩, ⟨some 15, none, .ld none (.tmp 14)⟩, ⟨some 16, none, .pur .mov [.tmp 1]⟩, ⟨some 17, none, .pur (.bin .eql) [.tmp 15, .tmp 16]⟩]) [17])
  (.cond (.tmp 17) (.seq (.reg (straight [⟨some 4, none, .pur .mov [.const (.bool true)]⟩]) [4])
  (.ret)) (.skip))))
  (.reg (straight [⟨some 10, none, .pur .mov [.tmp 5]⟩, ⟨some 11, none, .pur (.bin .add) [.tmp 10, .const (.int .i64 1)]⟩, ⟨some 5, none, .pur .mov [.tmp 11]⟩]) [5]))
def S_forebayref41_has : Fun := ⟨18, [4, 5, 0, 9, 1, 17], [.tmp 4],
  .seq (.reg (straight [⟨some 4, none, .pur .mov [.const (.bool false)]⟩]) [4])
  (.seq (.seq (.reg (straight [⟨some 5, none, .pur .mov [.const (.int .i64 0)]⟩]) [5])
  (.block 0 (.loop S_forebayref41_has_L1)))
  (.seq (.reg (straight [⟨some 4, none, .pur .mov [.const (.bool false)]⟩]) [4])
  (.ret)))⟩
theorem K_forebayref41_has : compF Try.prog 101 = some S_forebayref41_has := by kernel_rfl

-- 114
def S_span_plan_ready_L1 : SCode :=
  .seq (.reg (straight [⟨some 26, none, .pur (.bin .lss) [.tmp 25, .tmp 24]⟩]) [26])
  (.seq (.cond (.tmp 26) (.skip) (.exit 0))
  (.seq (.block 1 (.seq (.reg (straight [⟨some 27, none, .pur (.ixa 1) [.tmp 23, .tmp 25]⟩, ⟨some 28, none, .ld none (.tmp 27)⟩, ⟨some 8, none, .pur .mov [.tmp 28]⟩]) [8])
  (.seq (.reg (straight [⟨some 29, none, .pur .mov [.tmp 0]⟩, ⟨some 30, none, .pur .nilc [.tmp 29]⟩, ⟨some 31, none, .pur (.fla 1) [.tmp 30]⟩, ⟨some 32, none, .ld none (.tmp 31)⟩, ⟨some 33, none, .pur .mov [.tmp 8]⟩, ⟨some 34, none, .pur (.ixa 1) [.tmp 32, .tmp 33]⟩, ⟨some 35, none, .ld none (.tmp 34)⟩, ⟨some 36, none, .pur (.bin .eql) [.tmp 35, .const (.int .i64 0)]⟩, ⟨some 37, none, .pur .mov [.tmp 36]⟩, ⟨some 38, some (37, false), .pur .mov [.tmp 0]⟩, ⟨some 39, some (37, false), .pur .nilc [.tmp 38]⟩, ⟨some 40, some (37, false), .pur (.fla 1) [.tmp 39]⟩, ⟨some 41, some (37, false), .ld none (.tmp 40)⟩, ⟨some 42, some (37, false), .pur .mov [.tmp 8]⟩, ⟨some 43, some (37, false), .pur (.ixa 1) [.tmp 41, .tmp 42]⟩, ⟨some 44, some (37, false), .ld none (.tmp 43)⟩, ⟨some 45, some (37, false), .pur .mov [.tmp 2]⟩, ⟨some 46, some (37, false), .pur (.bin .gtr) [.tmp 44, .tmp 45]⟩, ⟨some 47, none, .pur .pick [.tmp 37, .const (.bool true), .tmp 46]⟩]) [47])
  (.cond (.tmp 47) (.seq (.reg (straight [⟨some 6, none, .pur .mov [.const (.bool false)]⟩]) [6])
  (.ret)) (.skip)))))
  (.reg (straight [⟨some 48, none, .pur (.bin .add) [.tmp 25, .const (.int .i64 1)]⟩, ⟨some 25, none, .pur .mov [.tmp 48]⟩]) [25])))
def S_span_plan_ready : Fun := ⟨49, [6, 0, 1, 16, 25, 24, 26, 23, 8, 2, 47], [.tmp 6],
  .seq (.reg (straight [⟨some 6, none, .pur .mov [.const (.bool false)]⟩]) [6])
  (.seq (.seq (.reg (straight [⟨some 9, none, .pur .mov [.tmp 0]⟩, ⟨some 10, none, .pur .nilc [.tmp 9]⟩, ⟨some 11, none, .pur (.fla 1) [.tmp 10]⟩, ⟨some 12, none, .ld none (.tmp 11)⟩, ⟨some 13, none, .pur .mov [.tmp 1]⟩, ⟨some 14, none, .pur (.ixa 1) [.tmp 12, .tmp 13]⟩, ⟨some 15, none, .ld none (.tmp 14)⟩, ⟨some 16, none, .pur (.bin .gtr) [.tmp 15, .const (.int .i64 0)]⟩]) [16])
  (.cond (.tmp 16) (.seq (.reg (straight [⟨some 6, none, .pur .mov [.const (.bool false)]⟩]) [6])
  (.ret)) (.skip)))
  (.seq (.seq (.reg (straight [⟨some 17, none, .pur .mov [.tmp 0]⟩, ⟨some 18, none, .pur .nilc [.tmp 17]⟩, ⟨some 19, none, .pur (.fla 0) [.tmp 18]⟩, ⟨some 20, none, .ld none (.tmp 19)⟩, ⟨some 21, none, .pur .mov [.tmp 1]⟩, ⟨some 22, none, .pur (.ixa 1) [.tmp 20, .tmp 21]⟩, ⟨some 23, none, .ld none (.tmp 22)⟩, ⟨some 24, none, .pur (.len false) [.tmp 23]⟩, ⟨some 25, none, .pur .mov [.const (.int .i64 0)]⟩]) [23, 24, 25])
  (.block 0 (.loop S_span_plan_ready_L1)))
  (.seq (.reg (straight [⟨some 6, none, .pur .mov [.const (.bool true)]⟩]) [6])
  (.ret))))⟩
theorem K_span_plan_ready : compF Try.prog 114 = some S_span_plan_ready := by kernel_rfl

end Go.Proofs.Ytilofhocodbknaa
