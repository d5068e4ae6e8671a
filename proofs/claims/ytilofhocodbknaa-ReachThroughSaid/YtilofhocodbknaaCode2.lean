import Derived.Test.YtilofhocodbknaaKj
import Derived.Test.YtilofhocodbknaaProg
import Derived.KernelRfl
namespace Go.Proofs.Ytilofhocodbknaa
open Go Go.Kx Go.Proofs
set_option maxRecDepth 100000

-- 5
def S_forebaylaw33_GridEdges_L1 : SCode :=
  .seq (.seq (.reg (straight [⟨some 42, none, .pur .mov [.tmp 7]⟩, ⟨some 43, none, .pur .mov [.tmp 3]⟩, ⟨some 44, none, .pur (.len false) [.tmp 43]⟩, ⟨some 45, none, .pur (.bin .lss) [.tmp 42, .tmp 44]⟩]) [45])
  (.cond (.tmp 45) (.skip) (.exit 0)))
  (.seq (.block 1 (.seq (.reg (.run ⟨some 48, none, .pur .mov [.tmp 3]⟩ (.run ⟨some 49, none, .pur .mov [.tmp 7]⟩ (.run ⟨some 50, none, .pur (.ixa 2) [.tmp 48, .tmp 49]⟩ (.run ⟨some 51, none, .pur (.ixaA 2 1) [.tmp 50, .const (.int .i64 0)]⟩ (.run ⟨some 52, none, .ld none (.tmp 51)⟩ (.run ⟨some 53, none, .pur .mov [.tmp 6]⟩ (.run ⟨some 54, none, .pur .mov [.tmp 7]⟩ (.run ⟨some 55, none, .pur (.ixa 4) [.tmp 53, .tmp 54]⟩ (.run ⟨some 56, none, .pur (.ixaA 4 1) [.tmp 55, .const (.int .i64 0)]⟩ (.run ⟨some 57, none, .ld none (.tmp 56)⟩ (.run ⟨some 58, none, .pur .mov [.tmp 6]⟩ (.run ⟨some 59, none, .pur .mov [.tmp 7]⟩ (.run ⟨some 60, none, .pur (.ixa 4) [.tmp 58, .tmp 59]⟩ (.run ⟨some 61, none, .pur (.ixaA 4 1) [.tmp 60, .const (.int .i64 1)]⟩ (.run ⟨some 62, none, .ld none (.tmp 61)⟩ (.eff ⟨some 63, none, .eff (.call 35) [.tmp 57, .tmp 62]⟩ [⟨some 52, none, .ld none (.tmp 51)⟩] (.run ⟨some 64, none, .pur (.bin .neq) [.tmp 52, .tmp 63]⟩ (.run ⟨some 65, none, .pur .mov [.tmp 64]⟩ (.run ⟨some 66, some (65, false), .pur .mov [.tmp 3]⟩ (.run ⟨some 67, some (65, false), .pur .mov [.tmp 7]⟩ (.run ⟨some 68, some (65, false), .pur (.ixa 2) [.tmp 66, .tmp 67]⟩ (.run ⟨some 69, some (65, false), .pur (.ixaA 2 1) [.tmp 68, .const (.int .i64 1)]⟩ (.run ⟨some 70, some (65, false), .ld none (.tmp 69)⟩ (.run ⟨some 71, some (65, false), .pur .mov [.tmp 6]⟩ (.run ⟨some 72, some (65, false), .pur .mov [.tmp 7]⟩ (.run ⟨some 73, some (65, false), .pur (.ixa 4) [.tmp 71, .tmp 72]⟩ (.run ⟨some 74, some (65, false), .pur (.ixaA 4 1) [.tmp 73, .const (.int .i64 2)]⟩ (.run ⟨some 75, some (65, false), .ld none (.tmp 74)⟩ (.run ⟨some 76, some (65, false), .pur .mov [.tmp 6]⟩ (.run ⟨some 77, some (65, false), .pur .mov [.tmp 7]⟩ (.run ⟨some 78, some (65, false), .pur (.ixa 4) [.tmp 76, .tmp 77]⟩ (.run ⟨some 79, some (65, false), .pur (.ixaA 4 1) [.tmp 78, .const (.int .i64 3)]⟩ (.run ⟨some 80, some (65, false), .ld none (.tmp 79)⟩ (.eff ⟨some 81, some (65, false), .eff (.call 35) [.tmp 75, .tmp 80]⟩ [⟨some 70, some (65, false), .ld none (.tmp 69)⟩] (.run ⟨some 82, some (65, false), .pur (.bin .neq) [.tmp 70, .tmp 81]⟩ (.run ⟨some 83, none, .pur .pick [.tmp 65, .const (.bool true), .tmp 82]⟩ .done)))))))))))))))))))))))))))))))))))) [83])
  (.cond (.tmp 83) (.seq (.reg (straight [⟨some 2, none, .pur .mov [.const (.bool false)]⟩]) [2])
  (.ret)) (.skip))))
  (.reg (straight [⟨some 46, none, .pur .mov [.tmp 7]⟩, ⟨some 47, none, .pur (.bin .add) [.tmp 46, .const (.int .i64 1)]⟩, ⟨some 7, none, .pur .mov [.tmp 47]⟩]) [7]))
def S_forebaylaw33_GridEdges : Fun := ⟨84, [2, 9, 0, 11, 4, 5, 29, 31, 3, 6, 41, 7, 45, 83], [.tmp 2],
  .seq (.reg (straight [⟨some 2, none, .pur .mov [.const (.bool false)]⟩]) [2])
  (.seq (.seq (.reg (straight [⟨some 8, none, .eff (.call 28) []⟩, ⟨some 9, none, .pur .not [.tmp 8]⟩]) [9])
  (.cond (.tmp 9) (.seq (.reg (straight [⟨some 2, none, .pur .mov [.const (.bool false)]⟩]) [2])
  (.ret)) (.skip)))
  (.seq (.seq (.reg (straight [⟨some 10, none, .pur .mov [.tmp 0]⟩, ⟨some 11, none, .eff (.call 29) [.tmp 10]⟩]) [11])
  (.cond (.tmp 11) (.seq (.reg (straight [⟨some 2, none, .pur .mov [.const (.bool true)]⟩]) [2])
  (.ret)) (.skip)))
  (.seq (.reg (straight [⟨some 13, none, .pur .mov [.tmp 0]⟩, ⟨some 14, none, .eff (.call 31) [.tmp 13]⟩, ⟨some 15, none, .eff (.call 30) [.tmp 14]⟩, ⟨some 12, none, .pur .mov [.tmp 15]⟩, ⟨some 16, none, .pur (.ext 0) [.tmp 12]⟩, ⟨some 17, none, .pur (.ext 1) [.tmp 12]⟩, ⟨some 3, none, .pur .mov [.tmp 16]⟩, ⟨some 4, none, .pur .mov [.tmp 17]⟩]) [3, 4])
  (.seq (.reg (straight [⟨some 18, none, .pur .mov [.tmp 0]⟩, ⟨some 19, none, .eff (.call 32) [.tmp 18]⟩, ⟨some 5, none, .pur .mov [.tmp 19]⟩]) [5])
  (.seq (.seq (.reg (straight [⟨some 20, none, .pur .mov [.tmp 4]⟩, ⟨some 21, none, .pur .mov [.tmp 5]⟩, ⟨some 22, none, .pur (.bin .neq) [.tmp 20, .tmp 21]⟩, ⟨some 23, none, .pur .mov [.tmp 22]⟩, ⟨some 24, some (23, false), .pur .mov [.tmp 0]⟩, ⟨some 25, some (23, false), .eff (.call 31) [.tmp 24]⟩, ⟨some 26, some (23, false), .eff (.call 33) [.tmp 25]⟩, ⟨some 27, some (23, false), .pur .mov [.tmp 5]⟩, ⟨some 28, some (23, false), .pur (.bin .neq) [.tmp 26, .tmp 27]⟩, ⟨some 29, none, .pur .pick [.tmp 23, .const (.bool true), .tmp 28]⟩]) [29])
  (.cond (.tmp 29) (.seq (.reg (straight [⟨some 2, none, .pur .mov [.const (.bool false)]⟩]) [2])
  (.ret)) (.skip)))
  (.seq (.seq (.reg (straight [⟨some 30, none, .pur .mov [.tmp 5]⟩, ⟨some 31, none, .pur (.bin .neq) [.tmp 30, .const (.int .i64 0)]⟩]) [31])
  (.cond (.tmp 31) (.seq (.reg (straight [⟨some 32, none, .pur .mov [.tmp 3]⟩, ⟨some 33, none, .pur (.len false) [.tmp 32]⟩, ⟨some 34, none, .pur (.bin .eql) [.tmp 33, .const (.int .i64 0)]⟩, ⟨some 2, none, .pur .mov [.tmp 34]⟩]) [2])
  (.ret)) (.skip)))
  (.seq (.reg (straight [⟨some 35, none, .pur .mov [.tmp 0]⟩, ⟨some 36, none, .eff (.call 34) [.tmp 35]⟩, ⟨some 6, none, .pur .mov [.tmp 36]⟩]) [6])
  (.seq (.seq (.reg (straight [⟨some 37, none, .pur .mov [.tmp 3]⟩, ⟨some 38, none, .pur (.len false) [.tmp 37]⟩, ⟨some 39, none, .pur .mov [.tmp 6]⟩, ⟨some 40, none, .pur (.len false) [.tmp 39]⟩, ⟨some 41, none, .pur (.bin .neq) [.tmp 38, .tmp 40]⟩]) [41])
  (.cond (.tmp 41) (.seq (.reg (straight [⟨some 2, none, .pur .mov [.const (.bool false)]⟩]) [2])
  (.ret)) (.skip)))
  (.seq (.seq (.reg (straight [⟨some 7, none, .pur .mov [.const (.int .i64 0)]⟩]) [7])
  (.block 0 (.loop S_forebaylaw33_GridEdges_L1)))
  (.seq (.reg (straight [⟨some 2, none, .pur .mov [.const (.bool true)]⟩]) [2])
  (.ret)))))))))))⟩
theorem K_forebaylaw33_GridEdges : compF Try.prog 5 = some S_forebaylaw33_GridEdges := by kernel_rfl

-- 14
def S_forebaylaw41_SpanGreedy_L3 : SCode :=
  .seq (.seq (.reg (straight [⟨some 136, none, .pur .mov [.tmp 16]⟩, ⟨some 137, none, .pur .mov [.tmp 0]⟩, ⟨some 138, none, .pur .mov [.tmp 15]⟩, ⟨some 139, none, .pur (.ixa 1) [.tmp 137, .tmp 138]⟩, ⟨some 140, none, .ld none (.tmp 139)⟩, ⟨some 141, none, .pur (.len false) [.tmp 140]⟩, ⟨some 142, none, .pur (.bin .lss) [.tmp 136, .tmp 141]⟩]) [142])
  (.cond (.tmp 142) (.skip) (.exit 4)))
  (.seq (.block 5 (.seq (.reg (straight [⟨some 145, none, .pur .mov [.tmp 12]⟩, ⟨some 146, none, .pur .mov [.tmp 0]⟩, ⟨some 147, none, .pur .mov [.tmp 15]⟩, ⟨some 148, none, .pur (.ixa 1) [.tmp 146, .tmp 147]⟩, ⟨some 149, none, .ld none (.tmp 148)⟩, ⟨some 150, none, .pur .mov [.tmp 16]⟩, ⟨some 151, none, .pur (.ixa 1) [.tmp 149, .tmp 150]⟩, ⟨some 152, none, .ld none (.tmp 151)⟩, ⟨some 153, none, .pur (.ixa 1) [.tmp 145, .tmp 152]⟩, ⟨some 154, none, .ld none (.tmp 153)⟩, ⟨some 155, none, .pur (.bin .eql) [.tmp 154, .const (.int .i64 0)]⟩, ⟨some 156, none, .pur .mov [.tmp 155]⟩, ⟨some 157, some (156, false), .pur .mov [.tmp 12]⟩, ⟨some 158, some (156, false), .pur .mov [.tmp 0]⟩, ⟨some 159, some (156, false), .pur .mov [.tmp 15]⟩, ⟨some 160, some (156, false), .pur (.ixa 1) [.tmp 158, .tmp 159]⟩, ⟨some 161, some (156, false), .ld none (.tmp 160)⟩, ⟨some 162, some (156, false), .pur .mov [.tmp 16]⟩, ⟨some 163, some (156, false), .pur (.ixa 1) [.tmp 161, .tmp 162]⟩, ⟨some 164, some (156, false), .ld none (.tmp 163)⟩, ⟨some 165, some (156, false), .pur (.ixa 1) [.tmp 157, .tmp 164]⟩, ⟨some 166, some (156, false), .ld none (.tmp 165)⟩, ⟨some 167, some (156, false), .pur .mov [.tmp 13]⟩, ⟨some 168, some (156, false), .pur (.bin .add) [.tmp 167, .const (.int .i64 1)]⟩, ⟨some 169, some (156, false), .pur (.bin .eql) [.tmp 166, .tmp 168]⟩, ⟨some 170, none, .pur .pick [.tmp 156, .const (.bool true), .tmp 169]⟩]) [170])
  (.cond (.tmp 170) (.seq (.reg (straight [⟨some 4, none, .pur .mov [.const (.bool false)]⟩]) [4])
  (.ret)) (.skip))))
  (.reg (straight [⟨some 143, none, .pur .mov [.tmp 16]⟩, ⟨some 144, none, .pur (.bin .add) [.tmp 143, .const (.int .i64 1)]⟩, ⟨some 16, none, .pur .mov [.tmp 144]⟩]) [16]))
def S_forebaylaw41_SpanGreedy_L2 : SCode :=
  .seq (.seq (.reg (straight [⟨some 106, none, .pur .mov [.tmp 14]⟩, ⟨some 107, none, .pur .mov [.tmp 6]⟩, ⟨some 108, none, .pur .mov [.tmp 13]⟩, ⟨some 109, none, .pur (.ixa 1) [.tmp 107, .tmp 108]⟩, ⟨some 110, none, .ld none (.tmp 109)⟩, ⟨some 111, none, .pur (.len false) [.tmp 110]⟩, ⟨some 112, none, .pur (.bin .lss) [.tmp 106, .tmp 111]⟩]) [112])
  (.cond (.tmp 112) (.skip) (.exit 2)))
  (.seq (.block 3 (.seq (.reg (straight [⟨some 115, none, .pur .mov [.tmp 6]⟩, ⟨some 116, none, .pur .mov [.tmp 13]⟩, ⟨some 117, none, .pur (.ixa 1) [.tmp 115, .tmp 116]⟩, ⟨some 118, none, .ld none (.tmp 117)⟩, ⟨some 119, none, .pur .mov [.tmp 14]⟩, ⟨some 120, none, .pur (.ixa 1) [.tmp 118, .tmp 119]⟩, ⟨some 121, none, .ld none (.tmp 120)⟩, ⟨some 15, none, .pur .mov [.tmp 121]⟩]) [15])
  (.seq (.seq (.reg (straight [⟨some 122, none, .pur .mov [.tmp 15]⟩, ⟨some 123, none, .pur (.bin .lss) [.tmp 122, .const (.int .i64 0)]⟩, ⟨some 124, none, .pur .mov [.tmp 123]⟩, ⟨some 125, some (124, false), .pur .mov [.tmp 15]⟩, ⟨some 126, some (124, false), .pur .mov [.tmp 11]⟩, ⟨some 127, some (124, false), .pur (.bin .geq) [.tmp 125, .tmp 126]⟩, ⟨some 128, none, .pur .pick [.tmp 124, .const (.bool true), .tmp 127]⟩, ⟨some 129, none, .pur .mov [.tmp 128]⟩, ⟨some 130, some (129, false), .pur .mov [.tmp 12]⟩, ⟨some 131, some (129, false), .pur .mov [.tmp 15]⟩, ⟨some 132, some (129, false), .pur (.ixa 1) [.tmp 130, .tmp 131]⟩, ⟨some 133, some (129, false), .ld none (.tmp 132)⟩, ⟨some 134, some (129, false), .pur (.bin .neq) [.tmp 133, .const (.int .i64 0)]⟩, ⟨some 135, none, .pur .pick [.tmp 129, .const (.bool true), .tmp 134]⟩]) [135])
  (.cond (.tmp 135) (.seq (.reg (straight [⟨some 4, none, .pur .mov [.const (.bool false)]⟩]) [4])
  (.ret)) (.skip)))
  (.seq (.seq (.reg (straight [⟨some 16, none, .pur .mov [.const (.int .i64 0)]⟩]) [16])
  (.block 4 (.loop S_forebaylaw41_SpanGreedy_L3)))
  (.reg (straight [⟨some 171, none, .pur .mov [.tmp 12]⟩, ⟨some 172, none, .pur .mov [.tmp 15]⟩, ⟨some 173, none, .pur .mov [.tmp 13]⟩, ⟨some 174, none, .pur (.bin .add) [.tmp 173, .const (.int .i64 1)]⟩, ⟨some 175, none, .pur (.ixa 1) [.tmp 171, .tmp 172]⟩, ⟨none, none, .eff (.st 1) [.tmp 175, .tmp 174]⟩]) [])))))
  (.reg (straight [⟨some 113, none, .pur .mov [.tmp 14]⟩, ⟨some 114, none, .pur (.bin .add) [.tmp 113, .const (.int .i64 1)]⟩, ⟨some 14, none, .pur .mov [.tmp 114]⟩]) [14]))
def S_forebaylaw41_SpanGreedy_L1 : SCode :=
  .seq (.seq (.reg (straight [⟨some 85, none, .pur .mov [.tmp 13]⟩, ⟨some 86, none, .pur .mov [.tmp 6]⟩, ⟨some 87, none, .pur (.len false) [.tmp 86]⟩, ⟨some 88, none, .pur (.bin .lss) [.tmp 85, .tmp 87]⟩]) [88])
  (.cond (.tmp 88) (.skip) (.exit 0)))
  (.seq (.block 1 (.seq (.seq (.reg (straight [⟨some 91, none, .pur .mov [.tmp 6]⟩, ⟨some 92, none, .pur .mov [.tmp 13]⟩, ⟨some 93, none, .pur (.ixa 1) [.tmp 91, .tmp 92]⟩, ⟨some 94, none, .ld none (.tmp 93)⟩, ⟨some 95, none, .pur (.len false) [.tmp 94]⟩, ⟨some 96, none, .pur (.bin .lss) [.tmp 95, .const (.int .i64 1)]⟩, ⟨some 97, none, .pur .mov [.tmp 96]⟩, ⟨some 98, some (97, false), .pur .mov [.tmp 6]⟩, ⟨some 99, some (97, false), .pur .mov [.tmp 13]⟩, ⟨some 100, some (97, false), .pur (.ixa 1) [.tmp 98, .tmp 99]⟩, ⟨some 101, some (97, false), .ld none (.tmp 100)⟩, ⟨some 102, some (97, false), .pur (.len false) [.tmp 101]⟩, ⟨some 103, some (97, false), .pur .mov [.tmp 5]⟩, ⟨some 104, some (97, false), .pur (.bin .gtr) [.tmp 102, .tmp 103]⟩, ⟨some 105, none, .pur .pick [.tmp 97, .const (.bool true), .tmp 104]⟩]) [105])
  (.cond (.tmp 105) (.seq (.reg (straight [⟨some 4, none, .pur .mov [.const (.bool false)]⟩]) [4])
  (.ret)) (.skip)))
  (.seq (.reg (straight [⟨some 14, none, .pur .mov [.const (.int .i64 0)]⟩]) [14])
  (.block 2 (.loop S_forebaylaw41_SpanGreedy_L2)))))
  (.reg (straight [⟨some 89, none, .pur .mov [.tmp 13]⟩, ⟨some 90, none, .pur (.bin .add) [.tmp 89, .const (.int .i64 1)]⟩, ⟨some 13, none, .pur .mov [.tmp 90]⟩]) [13]))
def S_forebaylaw41_SpanGreedy_L4 : SCode :=
  .seq (.seq (.reg (straight [⟨some 176, none, .pur .mov [.tmp 18]⟩, ⟨some 177, none, .pur .mov [.tmp 11]⟩, ⟨some 178, none, .pur (.bin .lss) [.tmp 176, .tmp 177]⟩]) [178])
  (.cond (.tmp 178) (.skip) (.exit 6)))
  (.seq (.block 7 (.seq (.reg (straight [⟨some 181, none, .pur .mov [.tmp 12]⟩, ⟨some 182, none, .pur .mov [.tmp 18]⟩, ⟨some 183, none, .pur (.ixa 1) [.tmp 181, .tmp 182]⟩, ⟨some 184, none, .ld none (.tmp 183)⟩, ⟨some 185, none, .pur (.bin .gtr) [.tmp 184, .const (.int .i64 0)]⟩]) [185])
  (.cond (.tmp 185) (.reg (straight [⟨some 186, none, .pur .mov [.tmp 17]⟩, ⟨some 187, none, .pur (.bin .add) [.tmp 186, .const (.int .i64 1)]⟩, ⟨some 17, none, .pur .mov [.tmp 187]⟩]) [17]) (.skip))))
  (.reg (straight [⟨some 179, none, .pur .mov [.tmp 18]⟩, ⟨some 180, none, .pur (.bin .add) [.tmp 179, .const (.int .i64 1)]⟩, ⟨some 18, none, .pur .mov [.tmp 180]⟩]) [18]))
def S_forebaylaw41_SpanGreedy : Fun := ⟨191, [4, 20, 0, 27, 1, 5, 7, 9, 51, 6, 10, 8, 11, 82, 13, 88, 105, 14, 112, 15, 12, 135, 16, 142, 170, 18, 178, 185, 17], [.tmp 4],
  .seq (.reg (straight [⟨some 4, none, .pur .mov [.const (.bool false)]⟩]) [4])
  (.seq (.seq (.reg (straight [⟨some 19, none, .eff (.call 57) []⟩, ⟨some 20, none, .pur .not [.tmp 19]⟩]) [20])
  (.cond (.tmp 20) (.seq (.reg (straight [⟨some 4, none, .pur .mov [.const (.bool false)]⟩]) [4])
  (.ret)) (.skip)))
  (.seq (.seq (.reg (straight [⟨some 21, none, .pur .mov [.tmp 0]⟩, ⟨some 22, none, .eff (.call 58) [.tmp 21, .const (.slice none 0 0)]⟩, ⟨some 23, none, .pur .mov [.tmp 22]⟩, ⟨some 24, some (23, false), .pur .mov [.tmp 0]⟩, ⟨some 25, some (23, false), .eff (.call 47) [.tmp 24]⟩, ⟨some 26, some (23, false), .pur (.bin .neq) [.tmp 25, .const (.int .i64 0)]⟩, ⟨some 27, none, .pur .pick [.tmp 23, .const (.bool true), .tmp 26]⟩]) [27])
  (.cond (.tmp 27) (.seq (.reg (straight [⟨some 4, none, .pur .mov [.const (.bool true)]⟩]) [4])
  (.ret)) (.skip)))
  (.seq (.reg (straight [⟨some 28, none, .pur .mov [.tmp 1]⟩, ⟨some 29, none, .pur (.toInt .i64) [.tmp 28]⟩, ⟨some 30, none, .pur (.bin .rem) [.tmp 29, .const (.int .i64 64)]⟩, ⟨some 31, none, .pur (.bin .add) [.tmp 30, .const (.int .i64 1)]⟩, ⟨some 5, none, .pur .mov [.tmp 31]⟩]) [5])
  (.seq (.reg (straight [⟨some 33, none, .pur .mov [.tmp 0]⟩, ⟨some 34, none, .eff (.call 60) [.tmp 33]⟩, ⟨some 35, none, .pur .mov [.tmp 5]⟩, ⟨some 36, none, .eff (.call 62) [.tmp 34, .tmp 35]⟩, ⟨some 32, none, .pur .mov [.tmp 36]⟩, ⟨some 37, none, .pur (.ext 0) [.tmp 32]⟩, ⟨some 38, none, .pur (.ext 1) [.tmp 32]⟩, ⟨some 6, none, .pur .mov [.tmp 37]⟩, ⟨some 7, none, .pur .mov [.tmp 38]⟩]) [6, 7])
  (.seq (.reg (straight [⟨some 40, none, .pur .mov [.tmp 0]⟩, ⟨some 41, none, .eff (.call 60) [.tmp 40]⟩, ⟨some 42, none, .pur (.bld [.slice none 0 0, .slice none 0 0, .slice none 0 0] [(0, 1)]) [.tmp 41]⟩, ⟨some 43, none, .eff (.call 67) [.tmp 42]⟩, ⟨some 39, none, .pur .mov [.tmp 43]⟩, ⟨some 44, none, .pur (.ext 0) [.tmp 39]⟩, ⟨some 45, none, .pur (.ext 1) [.tmp 39]⟩, ⟨some 8, none, .pur .mov [.tmp 44]⟩, ⟨some 9, none, .pur .mov [.tmp 45]⟩]) [8, 9])
  (.seq (.seq (.reg (straight [⟨some 46, none, .pur .mov [.tmp 7]⟩, ⟨some 47, none, .pur (.bin .neq) [.tmp 46, .const (.int .i64 0)]⟩, ⟨some 48, none, .pur .mov [.tmp 47]⟩, ⟨some 49, some (48, false), .pur .mov [.tmp 9]⟩, ⟨some 50, some (48, false), .pur (.bin .neq) [.tmp 49, .const (.int .i64 0)]⟩, ⟨some 51, none, .pur .pick [.tmp 48, .const (.bool true), .tmp 50]⟩]) [51])
  (.cond (.tmp 51) (.seq (.reg (straight [⟨some 4, none, .pur .mov [.const (.bool false)]⟩]) [4])
  (.ret)) (.skip)))
  (.seq (.reg (straight [⟨some 52, none, .pur .mov [.tmp 6]⟩, ⟨some 53, none, .pur (.len false) [.tmp 52]⟩, ⟨some 54, none, .pur .mov [.tmp 0]⟩, ⟨some 55, none, .pur (.len false) [.tmp 54]⟩, ⟨some 10, none, .pur .mov [.tmp 53]⟩, ⟨some 11, none, .pur .mov [.tmp 55]⟩]) [10, 11])
  (.seq (.seq (.reg (straight [⟨some 56, none, .pur .mov [.tmp 10]⟩, ⟨some 57, none, .pur .mov [.tmp 8]⟩, ⟨some 58, none, .pur (.bin .lss) [.tmp 56, .tmp 57]⟩, ⟨some 59, none, .pur .mov [.tmp 58]⟩, ⟨some 60, some (59, false), .pur .mov [.tmp 10]⟩, ⟨some 61, some (59, false), .pur .mov [.tmp 11]⟩, ⟨some 62, some (59, false), .pur .mov [.tmp 5]⟩, ⟨some 63, some (59, false), .pur (.bin .add) [.tmp 61, .tmp 62]⟩, ⟨some 64, some (59, false), .pur (.bin .sub) [.tmp 63, .const (.int .i64 1)]⟩, ⟨some 65, some (59, false), .pur .mov [.tmp 5]⟩, ⟨some 66, some (59, false), .pur (.bin .quo) [.tmp 64, .tmp 65]⟩, ⟨some 67, some (59, false), .pur (.bin .lss) [.tmp 60, .tmp 66]⟩, ⟨some 68, none, .pur .pick [.tmp 59, .const (.bool true), .tmp 67]⟩, ⟨some 69, none, .pur .mov [.tmp 68]⟩, ⟨some 70, some (69, false), .pur .mov [.tmp 10]⟩, ⟨some 71, some (69, false), .pur .mov [.tmp 8]⟩, ⟨some 72, some (69, false), .pur .mov [.tmp 11]⟩, ⟨some 73, some (69, false), .pur .mov [.tmp 8]⟩, ⟨some 74, some (69, false), .pur (.bin .sub) [.tmp 72, .tmp 73]⟩, ⟨some 75, some (69, false), .pur .mov [.tmp 5]⟩, ⟨some 76, some (69, false), .pur (.bin .add) [.tmp 74, .tmp 75]⟩, ⟨some 77, some (69, false), .pur (.bin .sub) [.tmp 76, .const (.int .i64 1)]⟩, ⟨some 78, some (69, false), .pur .mov [.tmp 5]⟩, ⟨some 79, some (69, false), .pur (.bin .quo) [.tmp 77, .tmp 78]⟩, ⟨some 80, some (69, false), .pur (.bin .add) [.tmp 71, .tmp 79]⟩, ⟨some 81, some (69, false), .pur (.bin .gtr) [.tmp 70, .tmp 80]⟩, ⟨some 82, none, .pur .pick [.tmp 69, .const (.bool true), .tmp 81]⟩]) [82])
  (.cond (.tmp 82) (.seq (.reg (straight [⟨some 4, none, .pur .mov [.const (.bool false)]⟩]) [4])
  (.ret)) (.skip)))
  (.seq (.reg (straight [⟨some 83, none, .pur .mov [.tmp 11]⟩, ⟨some 84, none, .eff (.mks 3 1 8 [.int .i64 0]) [.tmp 83, .tmp 83]⟩, ⟨some 12, none, .pur .mov [.tmp 84]⟩]) [12])
  (.seq (.seq (.reg (straight [⟨some 13, none, .pur .mov [.const (.int .i64 0)]⟩]) [13])
  (.block 0 (.loop S_forebaylaw41_SpanGreedy_L1)))
  (.seq (.reg (straight [⟨some 17, none, .pur .mov [.const (.int .i64 0)]⟩]) [17])
  (.seq (.seq (.reg (straight [⟨some 18, none, .pur .mov [.const (.int .i64 0)]⟩]) [18])
  (.block 6 (.loop S_forebaylaw41_SpanGreedy_L4)))
  (.seq (.reg (straight [⟨some 188, none, .pur .mov [.tmp 17]⟩, ⟨some 189, none, .pur .mov [.tmp 11]⟩, ⟨some 190, none, .pur (.bin .eql) [.tmp 188, .tmp 189]⟩, ⟨some 4, none, .pur .mov [.tmp 190]⟩]) [4])
  (.ret))))))))))))))⟩
theorem K_forebaylaw41_SpanGreedy : compF Try.prog 14 = some S_forebaylaw41_SpanGreedy := by kernel_rfl

-- 15
def S_forebaylaw41_SpanTells : Fun := ⟨92, [4, 15, 0, 1, 18, 5, 7, 13, 9, 11, 6, 12, 64, 66, 8, 10], [.tmp 4],
  .seq (.reg (straight [⟨some 4, none, .pur .mov [.const (.bool false)]⟩]) [4])
  (.seq (.seq (.reg (straight [⟨some 14, none, .eff (.call 57) []⟩, ⟨some 15, none, .pur .not [.tmp 14]⟩]) [15])
  (.cond (.tmp 15) (.seq (.reg (straight [⟨some 4, none, .pur .mov [.const (.bool false)]⟩]) [4])
  (.ret)) (.skip)))
  (.seq (.seq (.reg (straight [⟨some 16, none, .pur .mov [.tmp 0]⟩, ⟨some 17, none, .pur .mov [.tmp 1]⟩, ⟨some 18, none, .eff (.call 58) [.tmp 16, .tmp 17]⟩]) [18])
  (.cond (.tmp 18) (.seq (.reg (straight [⟨some 4, none, .pur .mov [.const (.bool true)]⟩]) [4])
  (.ret)) (.skip)))
  (.seq (.reg (straight [⟨some 19, none, .pur .mov [.tmp 0]⟩, ⟨some 20, none, .eff (.call 60) [.tmp 19]⟩, ⟨some 21, none, .eff (.bsl 114 3) []⟩, ⟨some 22, none, .pur .mov [.tmp 1]⟩, ⟨some 23, none, .eff (.app 114 3 24 [.int .i64 0, .int .i64 0, .bool false]) [.tmp 21, .tmp 22]⟩, ⟨some 24, none, .pur (.bld [.slice none 0 0, .slice none 0 0, .slice none 0 0] [(0, 1), (2, 1)]) [.tmp 20, .tmp 23]⟩, ⟨some 5, none, .eff (.new 98 [.slice none 0 0, .slice none 0 0, .slice none 0 0]) []⟩, ⟨none, none, .eff (.st 3) [.tmp 5, .tmp 24]⟩]) [5])
  (.seq (.reg (straight [⟨some 26, none, .ld (some 3) (.tmp 5)⟩, ⟨some 27, none, .eff (.call 68) [.tmp 26]⟩, ⟨some 25, none, .pur .mov [.tmp 27]⟩, ⟨some 28, none, .pur (.ext 0) [.tmp 25]⟩, ⟨some 29, none, .pur (.ext 1) [.tmp 25]⟩, ⟨some 6, none, .pur .mov [.tmp 28]⟩, ⟨some 7, none, .pur .mov [.tmp 29]⟩]) [6, 7])
  (.seq (.reg (straight [⟨some 31, none, .ld (some 3) (.tmp 5)⟩, ⟨some 32, none, .eff (.call 69) [.tmp 31]⟩, ⟨some 30, none, .pur .mov [.tmp 32]⟩, ⟨some 33, none, .pur (.ext 0) [.tmp 30]⟩, ⟨some 34, none, .pur (.ext 1) [.tmp 30]⟩, ⟨some 8, none, .pur .mov [.tmp 33]⟩, ⟨some 9, none, .pur .mov [.tmp 34]⟩]) [8, 9])
  (.seq (.reg (straight [⟨some 36, none, .ld (some 3) (.tmp 5)⟩, ⟨some 37, none, .eff (.call 67) [.tmp 36]⟩, ⟨some 35, none, .pur .mov [.tmp 37]⟩, ⟨some 38, none, .pur (.ext 0) [.tmp 35]⟩, ⟨some 39, none, .pur (.ext 1) [.tmp 35]⟩, ⟨some 10, none, .pur .mov [.tmp 38]⟩, ⟨some 11, none, .pur .mov [.tmp 39]⟩]) [10, 11])
  (.seq (.reg (straight [⟨some 41, none, .pur .mov [.tmp 0]⟩, ⟨some 42, none, .pur .mov [.tmp 1]⟩, ⟨some 43, none, .eff (.call 70) [.tmp 41, .tmp 42]⟩, ⟨some 40, none, .pur .mov [.tmp 43]⟩, ⟨some 44, none, .pur (.ext 0) [.tmp 40]⟩, ⟨some 45, none, .pur (.ext 1) [.tmp 40]⟩, ⟨some 12, none, .pur .mov [.tmp 44]⟩, ⟨some 13, none, .pur .mov [.tmp 45]⟩]) [12, 13])
  (.seq (.seq (.reg (straight [⟨some 46, none, .pur .mov [.tmp 7]⟩, ⟨some 47, none, .pur .mov [.tmp 13]⟩, ⟨some 48, none, .pur (.bin .neq) [.tmp 46, .tmp 47]⟩, ⟨some 49, none, .pur .mov [.tmp 48]⟩, ⟨some 50, some (49, false), .pur .mov [.tmp 9]⟩, ⟨some 51, some (49, false), .pur .mov [.tmp 13]⟩, ⟨some 52, some (49, false), .pur (.bin .neq) [.tmp 50, .tmp 51]⟩, ⟨some 53, none, .pur .pick [.tmp 49, .const (.bool true), .tmp 52]⟩, ⟨some 54, none, .pur .mov [.tmp 53]⟩, ⟨some 55, some (54, false), .pur .mov [.tmp 11]⟩, ⟨some 56, some (54, false), .pur .mov [.tmp 13]⟩, ⟨some 57, some (54, false), .pur (.bin .neq) [.tmp 55, .tmp 56]⟩, ⟨some 58, none, .pur .pick [.tmp 54, .const (.bool true), .tmp 57]⟩, ⟨some 59, none, .pur .mov [.tmp 58]⟩, ⟨some 60, some (59, false), .pur .mov [.tmp 6]⟩, ⟨some 61, some (59, false), .pur .mov [.tmp 12]⟩, ⟨some 62, some (59, false), .eff (.call 66) [.tmp 60, .tmp 61]⟩, ⟨some 63, some (59, false), .pur .not [.tmp 62]⟩, ⟨some 64, none, .pur .pick [.tmp 59, .const (.bool true), .tmp 63]⟩]) [64])
  (.cond (.tmp 64) (.seq (.reg (straight [⟨some 4, none, .pur .mov [.const (.bool false)]⟩]) [4])
  (.ret)) (.skip)))
  (.seq (.seq (.reg (straight [⟨some 65, none, .pur .mov [.tmp 13]⟩, ⟨some 66, none, .pur (.bin .neq) [.tmp 65, .const (.int .i64 0)]⟩]) [66])
  (.cond (.tmp 66) (.seq (.reg (straight [⟨some 67, none, .pur .mov [.tmp 8]⟩, ⟨some 68, none, .pur (.bin .eql) [.tmp 67, .const (.int .i64 0)]⟩, ⟨some 69, none, .pur .mov [.tmp 68]⟩, ⟨some 70, some (69, true), .pur .mov [.tmp 10]⟩, ⟨some 71, some (69, true), .pur (.bin .eql) [.tmp 70, .const (.int .i64 0)]⟩, ⟨some 72, none, .pur .pick [.tmp 69, .tmp 71, .const (.bool false)]⟩, ⟨some 4, none, .pur .mov [.tmp 72]⟩]) [4])
  (.ret)) (.skip)))
  (.seq (.reg (straight [⟨some 73, none, .pur .mov [.tmp 8]⟩, ⟨some 74, none, .pur .mov [.tmp 0]⟩, ⟨some 75, none, .pur (.len false) [.tmp 74]⟩, ⟨some 76, none, .pur .mov [.tmp 1]⟩, ⟨some 77, none, .pur (.len false) [.tmp 76]⟩, ⟨some 78, none, .pur (.bin .add) [.tmp 75, .tmp 77]⟩, ⟨some 79, none, .pur (.bin .eql) [.tmp 73, .tmp 78]⟩, ⟨some 80, none, .pur .mov [.tmp 79]⟩, ⟨some 81, some (80, true), .pur .mov [.tmp 10]⟩, ⟨some 82, some (80, true), .pur .mov [.tmp 0]⟩, ⟨some 83, some (80, true), .pur .mov [.tmp 12]⟩, ⟨some 84, some (80, true), .eff (.call 71) [.tmp 82, .tmp 83]⟩, ⟨some 85, some (80, true), .pur (.bin .eql) [.tmp 81, .tmp 84]⟩, ⟨some 86, none, .pur .pick [.tmp 80, .tmp 85, .const (.bool false)]⟩, ⟨some 87, none, .pur .mov [.tmp 86]⟩, ⟨some 88, some (87, true), .pur .mov [.tmp 10]⟩, ⟨some 89, some (87, true), .pur .mov [.tmp 8]⟩, ⟨some 90, some (87, true), .pur (.bin .leq) [.tmp 88, .tmp 89]⟩, ⟨some 91, none, .pur .pick [.tmp 87, .tmp 90, .const (.bool false)]⟩, ⟨some 4, none, .pur .mov [.tmp 91]⟩]) [4])
  (.ret)))))))))))⟩
theorem K_forebaylaw41_SpanTells : compF Try.prog 15 = some S_forebaylaw41_SpanTells := by kernel_rfl

-- 18
def S_forebaylaw30_StrandMany_L1 : SCode :=
  .seq (.seq (.reg (straight [⟨some 24, none, .pur .mov [.tmp 8]⟩, ⟨some 25, none, .pur .mov [.tmp 0]⟩, ⟨some 26, none, .pur (.len false) [.tmp 25]⟩, ⟨some 27, none, .pur (.bin .lss) [.tmp 24, .tmp 26]⟩]) [27])
  (.cond (.tmp 27) (.skip) (.exit 0)))
  (.seq (.block 1 (.seq (.reg (straight [⟨some 30, none, .pur .mov [.tmp 0]⟩, ⟨some 31, none, .pur .mov [.tmp 8]⟩, ⟨some 32, none, .pur (.ixa 3) [.tmp 30, .tmp 31]⟩, ⟨some 33, none, .pur (.fla 0) [.tmp 32]⟩, ⟨some 34, none, .ld none (.tmp 33)⟩]) [34])
  (.block 2 (.seq (.seq (.reg (straight [⟨some 36, none, .pur (.bin .eql) [.tmp 34, .const (.int .i64 4)]⟩, ⟨some 35, none, .pur .mov [.tmp 36]⟩]) [35])
  (.cond (.tmp 35) (.skip) (.seq (.reg (straight [⟨some 37, none, .pur (.bin .eql) [.tmp 34, .const (.int .i64 5)]⟩, ⟨some 35, none, .pur .mov [.tmp 37]⟩]) [35])
  (.cond (.tmp 35) (.skip) (.seq (.reg (straight [⟨some 38, none, .pur (.bin .eql) [.tmp 34, .const (.int .i64 6)]⟩, ⟨some 35, none, .pur .mov [.tmp 38]⟩]) [35])
  (.cond (.tmp 35) (.skip) (.seq (.reg (straight [⟨some 39, none, .pur (.bin .eql) [.tmp 34, .const (.int .i64 9)]⟩, ⟨some 35, none, .pur .mov [.tmp 39]⟩]) [35])
  (.cond (.tmp 35) (.skip) (.seq (.reg (straight [⟨some 40, none, .pur (.bin .eql) [.tmp 34, .const (.int .i64 11)]⟩, ⟨some 35, none, .pur .mov [.tmp 40]⟩]) [35])
  (.cond (.tmp 35) (.skip) (.seq (.reg (straight [⟨some 41, none, .pur (.bin .eql) [.tmp 34, .const (.int .i64 12)]⟩, ⟨some 35, none, .pur .mov [.tmp 41]⟩]) [35])
  (.cond (.tmp 35) (.skip) (.reg (straight [⟨some 42, none, .pur (.bin .eql) [.tmp 34, .const (.int .i64 8)]⟩, ⟨some 35, none, .pur .mov [.tmp 42]⟩]) [35])))))))))))))
  (.cond (.tmp 35) (.reg (straight [⟨some 43, none, .pur .mov [.tmp 5]⟩, ⟨some 44, none, .pur (.bin .add) [.tmp 43, .const (.int .i64 1)]⟩, ⟨some 5, none, .pur .mov [.tmp 44]⟩]) [5]) (.seq (.seq (.reg (straight [⟨some 46, none, .pur (.bin .eql) [.tmp 34, .const (.int .i64 1)]⟩, ⟨some 45, none, .pur .mov [.tmp 46]⟩]) [45])
  (.cond (.tmp 45) (.skip) (.reg (straight [⟨some 47, none, .pur (.bin .eql) [.tmp 34, .const (.int .i64 2)]⟩, ⟨some 45, none, .pur .mov [.tmp 47]⟩]) [45])))
  (.cond (.tmp 45) (.reg (straight [⟨some 48, none, .pur .mov [.tmp 6]⟩, ⟨some 49, none, .pur .mov [.tmp 0]⟩, ⟨some 50, none, .pur .mov [.tmp 8]⟩, ⟨some 51, none, .pur (.ixa 3) [.tmp 49, .tmp 50]⟩, ⟨some 52, none, .pur (.fla 1) [.tmp 51]⟩, ⟨some 53, none, .ld none (.tmp 52)⟩, ⟨some 54, none, .eff (.bsl 3 1) [.tmp 53]⟩, ⟨some 55, none, .eff (.app 3 1 8 [.int .i64 0]) [.tmp 48, .tmp 54]⟩, ⟨some 6, none, .pur .mov [.tmp 55]⟩]) [6]) (.seq (.reg (straight [⟨some 57, none, .pur (.bin .eql) [.tmp 34, .const (.int .i64 3)]⟩, ⟨some 56, none, .pur .mov [.tmp 57]⟩]) [56])
  (.cond (.tmp 56) (.reg (straight [⟨some 58, none, .pur .mov [.tmp 6]⟩, ⟨some 59, none, .eff (.bsl 3 1) [.const (.int .i64 (-1))]⟩, ⟨some 60, none, .eff (.app 3 1 8 [.int .i64 0]) [.tmp 58, .tmp 59]⟩, ⟨some 6, none, .pur .mov [.tmp 60]⟩]) [6]) (.skip))))))))))
  (.reg (straight [⟨some 28, none, .pur .mov [.tmp 8]⟩, ⟨some 29, none, .pur (.bin .add) [.tmp 28, .const (.int .i64 1)]⟩, ⟨some 8, none, .pur .mov [.tmp 29]⟩]) [8]))
def S_forebaylaw30_StrandMany_L2 : SCode :=
  .seq (.seq (.reg (straight [⟨some 61, none, .pur .mov [.tmp 10]⟩, ⟨some 62, none, .pur (.fla 2) [.tmp 3]⟩, ⟨some 63, none, .ld none (.tmp 62)⟩, ⟨some 64, none, .pur (.len false) [.tmp 63]⟩, ⟨some 65, none, .pur (.bin .lss) [.tmp 61, .tmp 64]⟩]) [65])
  (.cond (.tmp 65) (.skip) (.exit 3)))
  (.seq (.block 4 (.seq (.reg (straight [⟨some 68, none, .pur .mov [.tmp 7]⟩, ⟨some 69, none, .pur (.fla 2) [.tmp 3]⟩, ⟨some 70, none, .ld none (.tmp 69)⟩, ⟨some 71, none, .pur .mov [.tmp 10]⟩, ⟨some 72, none, .pur (.ixa 3) [.tmp 70, .tmp 71]⟩, ⟨some 73, none, .pur (.fla 1) [.tmp 72]⟩, ⟨some 74, none, .ld none (.tmp 73)⟩, ⟨some 75, none, .eff (.bsl 3 1) [.tmp 74]⟩, ⟨some 76, none, .eff (.app 3 1 8 [.int .i64 0]) [.tmp 68, .tmp 75]⟩, ⟨some 7, none, .pur .mov [.tmp 76]⟩]) [7])
  (.reg (straight [⟨some 77, none, .pur .mov [.tmp 9]⟩, ⟨some 78, none, .pur (.fla 2) [.tmp 3]⟩, ⟨some 79, none, .ld none (.tmp 78)⟩, ⟨some 80, none, .pur .mov [.tmp 10]⟩, ⟨some 81, none, .pur (.ixa 3) [.tmp 79, .tmp 80]⟩, ⟨some 82, none, .pur (.fla 0) [.tmp 81]⟩, ⟨some 83, none, .ld none (.tmp 82)⟩, ⟨some 84, none, .pur (.minmax true) [.tmp 77, .tmp 83]⟩, ⟨some 9, none, .pur .mov [.tmp 84]⟩]) [9])))
  (.reg (straight [⟨some 66, none, .pur .mov [.tmp 10]⟩, ⟨some 67, none, .pur (.bin .add) [.tmp 66, .const (.int .i64 1)]⟩, ⟨some 10, none, .pur .mov [.tmp 67]⟩]) [10]))
def S_forebaylaw30_StrandMany : Fun := ⟨100, [2, 12, 0, 15, 4, 23, 8, 27, 34, 35, 5, 45, 6, 56, 10, 3, 65, 7, 9], [.tmp 2],
  .seq (.reg (straight [⟨some 2, none, .pur .mov [.const (.bool false)]⟩]) [2])
  (.seq (.seq (.reg (straight [⟨some 11, none, .eff (.call 72) []⟩, ⟨some 12, none, .pur .not [.tmp 11]⟩]) [12])
  (.cond (.tmp 12) (.seq (.reg (straight [⟨some 2, none, .pur .mov [.const (.bool false)]⟩]) [2])
  (.ret)) (.skip)))
  (.seq (.seq (.reg (straight [⟨some 13, none, .pur .mov [.tmp 0]⟩, ⟨some 14, none, .pur (.len false) [.tmp 13]⟩, ⟨some 15, none, .pur (.bin .gtr) [.tmp 14, .const (.int .i64 2000)]⟩]) [15])
  (.cond (.tmp 15) (.seq (.reg (straight [⟨some 2, none, .pur .mov [.const (.bool true)]⟩]) [2])
  (.ret)) (.skip)))
  (.seq (.reg (straight [⟨some 17, none, .pur .mov [.tmp 0]⟩, ⟨some 18, none, .eff (.call 74) [.tmp 17]⟩, ⟨some 19, none, .eff (.call 73) [.tmp 18]⟩, ⟨some 16, none, .pur .mov [.tmp 19]⟩, ⟨some 20, none, .pur (.ext 0) [.tmp 16]⟩, ⟨some 21, none, .pur (.ext 1) [.tmp 16]⟩, ⟨some 3, none, .eff (.new 98 [.slice none 0 0, .slice none 0 0, .slice none 0 0]) []⟩, ⟨none, none, .eff (.st 3) [.tmp 3, .tmp 20]⟩, ⟨some 4, none, .pur .mov [.tmp 21]⟩]) [3, 4])
  (.seq (.seq (.reg (straight [⟨some 22, none, .pur .mov [.tmp 4]⟩, ⟨some 23, none, .pur (.bin .neq) [.tmp 22, .const (.int .i64 0)]⟩]) [23])
  (.cond (.tmp 23) (.seq (.reg (straight [⟨some 2, none, .pur .mov [.const (.bool true)]⟩]) [2])
  (.ret)) (.skip)))
  (.seq (.reg (straight [⟨some 5, none, .pur .mov [.const (.int .i64 1)]⟩]) [5])
  (.seq (.reg (straight [⟨some 6, none, .pur .mov [.const (.slice none 0 0)]⟩, ⟨some 7, none, .pur .mov [.const (.slice none 0 0)]⟩]) [6, 7])
  (.seq (.seq (.reg (straight [⟨some 8, none, .pur .mov [.const (.int .i64 0)]⟩]) [8])
  (.block 0 (.loop S_forebaylaw30_StrandMany_L1)))
  (.seq (.reg (straight [⟨some 9, none, .pur .mov [.const (.int .i64 0)]⟩]) [9])
  (.seq (.seq (.reg (straight [⟨some 10, none, .pur .mov [.const (.int .i64 0)]⟩]) [10])
  (.block 3 (.loop S_forebaylaw30_StrandMany_L2)))
  (.seq (.reg (straight [⟨some 85, none, .pur (.fla 0) [.tmp 3]⟩, ⟨some 86, none, .ld none (.tmp 85)⟩, ⟨some 87, none, .pur (.len false) [.tmp 86]⟩, ⟨some 88, none, .pur .mov [.tmp 5]⟩, ⟨some 89, none, .pur (.bin .eql) [.tmp 87, .tmp 88]⟩, ⟨some 90, none, .pur .mov [.tmp 89]⟩, ⟨some 91, some (90, true), .pur .mov [.tmp 7]⟩, ⟨some 92, some (90, true), .pur .mov [.tmp 6]⟩, ⟨some 93, some (90, true), .eff (.call 66) [.tmp 91, .tmp 92]⟩, ⟨some 94, none, .pur .pick [.tmp 90, .tmp 93, .const (.bool false)]⟩, ⟨some 95, none, .pur .mov [.tmp 94]⟩, ⟨some 96, some (95, true), .pur .mov [.tmp 9]⟩, ⟨some 97, some (95, true), .pur .mov [.tmp 5]⟩, ⟨some 98, some (95, true), .pur (.bin .lss) [.tmp 96, .tmp 97]⟩, ⟨some 99, none, .pur .pick [.tmp 95, .tmp 98, .const (.bool false)]⟩, ⟨some 2, none, .pur .mov [.tmp 99]⟩]) [2])
  (.ret)))))))))))⟩
theorem K_forebaylaw30_StrandMany : compF Try.prog 18 = some S_forebaylaw30_StrandMany := by kernel_rfl

-- 23
def S_forebaylaw24_of : Fun := ⟨21, [6, 7, 2, 0, 1, 10, 15, 8, 9, 5], [.tmp 6, .tmp 7],
  .seq (.reg (straight [⟨some 5, none, .eff (.box 3) [.tmp 2]⟩, ⟨some 6, none, .pur .mov [.const (.slice none 0 0)]⟩, ⟨some 7, none, .pur .mov [.const (.slice none 0 0)]⟩]) [5, 6, 7])
  (.seq (.reg (straight [⟨some 8, none, .eff (.new 22 [.slice none 0 0]) []⟩]) [8])
  (.seq (.reg (straight [⟨some 9, none, .eff (.new 29 [.slice none 0 0]) []⟩]) [9])
  (.seq (.reg (straight [⟨some 11, none, .pur .mov [.tmp 0]⟩, ⟨some 12, none, .pur .mov [.tmp 1]⟩, ⟨some 13, none, .eff (.call 82) [.tmp 11, .tmp 12]⟩, ⟨some 10, none, .pur .mov [.tmp 13]⟩]) [10])
  (.seq (.seq (.reg (straight [⟨some 14, none, .pur .mov [.tmp 10]⟩, ⟨some 15, none, .pur (.eqn false 2) [.tmp 14]⟩]) [15])
  (.cond (.tmp 15) (.seq (.reg (straight [⟨some 6, none, .pur .mov [.const (.slice none 0 0)]⟩, ⟨some 7, none, .pur .mov [.const (.slice none 0 0)]⟩]) [6, 7])
  (.ret)) (.skip)))
  (.seq (.reg (straight [⟨some 16, none, .pur .mov [.tmp 10]⟩, ⟨some 17, none, .pur (.mkf (.func 83) 0) [.tmp 8, .tmp 9, .tmp 5]⟩, ⟨some 18, none, .eff .callv [.tmp 16, .tmp 17]⟩]) [])
  (.seq (.reg (straight [⟨some 19, none, .ld none (.tmp 8)⟩, ⟨some 20, none, .ld none (.tmp 9)⟩, ⟨some 6, none, .pur .mov [.tmp 19]⟩, ⟨some 7, none, .pur .mov [.tmp 20]⟩]) [6, 7])
  (.ret)))))))⟩
theorem K_forebaylaw24_of : compF Try.prog 23 = some S_forebaylaw24_of := by kernel_rfl

-- 24
def S_forebaylaw40_works : Fun := ⟨39, [0, 1, 2, 3], [.tmp 0],
  .seq (.reg (straight [⟨some 0, none, .pur .mov [.const (.bool false)]⟩]) [0])
  (.seq (.reg (straight [⟨some 4, none, .eff (.bsl 3 1) [.const (.int .i64 1)]⟩, ⟨some 5, none, .eff (.bsl 3 1) [.const (.int .i64 2)]⟩, ⟨some 6, none, .pur (.bld [.int .i64 0, .int .i64 0, .slice none 0 0, .slice none 0 0, .int .i64 0, .int .i64 0, .int .i64 0, .int .i64 0, .int .i64 0, .int .i64 0, .int .i64 0] [(0, 1), (2, 1), (3, 1)]) [.const (.int .i64 1), .tmp 4, .tmp 5]⟩, ⟨some 1, none, .eff (.new 129 [.int .i64 0, .int .i64 0, .slice none 0 0, .slice none 0 0, .int .i64 0, .int .i64 0, .int .i64 0, .int .i64 0, .int .i64 0, .int .i64 0, .int .i64 0]) []⟩, ⟨none, none, .eff (.st 11) [.tmp 1, .tmp 6]⟩]) [1])
  (.seq (.reg (straight [⟨some 7, none, .eff (.bsl 3 1) [.const (.int .i64 1)]⟩, ⟨some 8, none, .eff (.bsl 3 1) [.const (.int .i64 2)]⟩, ⟨some 9, none, .pur (.bld [.int .i64 0, .int .i64 0, .int .i64 0, .int .i64 0, .int .i64 0, .int .i64 0, .int .i64 0] [(0, 1)]) [.const (.int .i64 9)]⟩, ⟨some 10, none, .pur (.bld [.int .i64 0, .int .i64 0, .slice none 0 0, .slice none 0 0, .int .i64 0, .int .i64 0, .int .i64 0, .int .i64 0, .int .i64 0, .int .i64 0, .int .i64 0] [(0, 1), (2, 1), (3, 1), (4, 7)]) [.const (.int .i64 1), .tmp 7, .tmp 8, .tmp 9]⟩, ⟨some 2, none, .eff (.new 129 [.int .i64 0, .int .i64 0, .slice none 0 0, .slice none 0 0, .int .i64 0, .int .i64 0, .int .i64 0, .int .i64 0, .int .i64 0, .int .i64 0, .int .i64 0]) []⟩, ⟨none, none, .eff (.st 11) [.tmp 2, .tmp 10]⟩]) [2])
  (.seq (.reg (straight [⟨some 11, none, .eff (.bsl 3 1) [.const (.int .i64 1)]⟩, ⟨some 12, none, .eff (.bsl 3 1) [.const (.int .i64 2)]⟩, ⟨some 13, none, .pur (.bld [.int .i64 0, .int .i64 0, .slice none 0 0, .slice none 0 0, .int .i64 0, .int .i64 0, .int .i64 0] [(0, 1), (2, 1), (3, 1)]) [.const (.int .i64 1), .tmp 11, .tmp 12]⟩, ⟨some 3, none, .eff (.new 131 [.int .i64 0, .int .i64 0, .slice none 0 0, .slice none 0 0, .int .i64 0, .int .i64 0, .int .i64 0]) []⟩, ⟨none, none, .eff (.st 7) [.tmp 3, .tmp 13]⟩]) [3])
  (.seq (.reg (straight [⟨some 14, none, .ld (some 11) (.tmp 1)⟩, ⟨some 15, none, .ld (some 11) (.tmp 2)⟩, ⟨some 16, none, .eff (.bsl 129 11) [.tmp 14, .tmp 15]⟩, ⟨some 17, none, .eff (.call 26) [.tmp 16]⟩, ⟨some 18, none, .pur (.bld [.int .i64 0, .int .i64 0, .int .i64 0, .int .i64 0, .int .i64 0, .int .i64 0] [(0, 1), (1, 1), (5, 1)]) [.const (.int .i64 2), .const (.int .i64 2), .const (.int .i64 1)]⟩, ⟨some 19, none, .pur (.eqs false [.int .i64, .int .i64, .int .i64, .int .i64, .int .i64, .int .i64]) [.tmp 17, .tmp 18]⟩, ⟨some 20, none, .pur .mov [.tmp 19]⟩, ⟨some 21, some (20, true), .ld (some 11) (.tmp 1)⟩, ⟨some 22, some (20, true), .ld (some 7) (.tmp 3)⟩, ⟨some 23, some (20, true), .eff (.call 84) [.tmp 21, .tmp 22]⟩, ⟨some 24, some (20, true), .pur (.bin .eql) [.tmp 23, .const (.int .i64 0)]⟩, ⟨some 25, none, .pur .pick [.tmp 20, .tmp 24, .const (.bool false)]⟩, ⟨some 26, none, .pur .mov [.tmp 25]⟩, ⟨some 27, some (26, true), .pur (.bld [.int .i64 0, .int .i64 0, .slice none 0 0, .slice none 0 0, .int .i64 0, .int .i64 0, .int .i64 0, .int .i64 0, .int .i64 0, .int .i64 0, .int .i64 0] []) []⟩, ⟨some 28, some (26, true), .ld (some 7) (.tmp 3)⟩, ⟨some 29, some (26, true), .eff (.call 84) [.tmp 27, .tmp 28]⟩, ⟨some 30, some (26, true), .pur (.bin .eql) [.tmp 29, .const (.int .i64 8)]⟩, ⟨some 31, none, .pur .pick [.tmp 26, .tmp 30, .const (.bool false)]⟩, ⟨some 32, none, .pur .mov [.tmp 31]⟩, ⟨some 33, some (32, true), .ld (some 7) (.tmp 3)⟩, ⟨some 34, some (32, true), .ld (some 11) (.tmp 2)⟩, ⟨some 35, some (32, true), .eff (.bsl 129 11) [.tmp 34]⟩, ⟨some 36, some (32, true), .eff (.call 85) [.tmp 33, .tmp 35]⟩, ⟨some 37, some (32, true), .pur (.bin .eql) [.tmp 36, .const (.int .i64 9)]⟩, ⟨some 38, none, .pur .pick [.tmp 32, .tmp 37, .const (.bool false)]⟩, ⟨some 0, none, .pur .mov [.tmp 38]⟩]) [0])
  (.ret)))))⟩
theorem K_forebaylaw40_works : compF Try.prog 24 = some S_forebaylaw40_works := by kernel_rfl

-- 42
def S_grid_Step : Fun := ⟨10, [4, 1, 5, 0], [.tmp 4],
  .seq (.reg (straight [⟨some 4, none, .pur .mov [.const (.complex .f64 0 0)]⟩]) [4])
  (.seq (.seq (.reg (straight [⟨some 5, none, .pur .mov [.tmp 1]⟩]) [5])
  (.cond (.tmp 5) (.seq (.reg (straight [⟨some 6, none, .pur .mov [.tmp 0]⟩, ⟨some 7, none, .pur (.bin .add) [.tmp 6, .const (.complex .f64 0 4607182418800017408)]⟩, ⟨some 4, none, .pur .mov [.tmp 7]⟩]) [4])
  (.ret)) (.skip)))
  (.seq (.reg (straight [⟨some 8, none, .pur .mov [.tmp 0]⟩, ⟨some 9, none, .pur (.bin .add) [.tmp 8, .const (.complex .f64 4607182418800017408 0)]⟩, ⟨some 4, none, .pur .mov [.tmp 9]⟩]) [4])
  (.ret)))⟩
theorem K_grid_Step : compF Try.prog 42 = some S_grid_Step := by kernel_rfl

-- 49
def S_forebayref31_Longest_L1 : SCode :=
  .seq (.seq (.reg (straight [⟨some 16, none, .pur .mov [.tmp 7]⟩, ⟨some 17, none, .pur .mov [.tmp 0]⟩, ⟨some 18, none, .pur (.len false) [.tmp 17]⟩, ⟨some 19, none, .pur (.bin .lss) [.tmp 16, .tmp 18]⟩]) [19])
  (.cond (.tmp 19) (.skip) (.exit 0)))
  (.seq (.block 1 (.reg (straight [⟨some 22, none, .pur .mov [.tmp 6]⟩, ⟨some 23, none, .pur .mov [.tmp 0]⟩, ⟨some 24, none, .pur .mov [.tmp 7]⟩, ⟨some 25, none, .pur .mov [.tmp 5]⟩, ⟨some 26, none, .eff (.call 95) [.tmp 23, .tmp 24, .tmp 25]⟩, ⟨some 27, none, .pur (.minmax true) [.tmp 22, .tmp 26]⟩, ⟨some 6, none, .pur .mov [.tmp 27]⟩]) [6]))
  (.reg (straight [⟨some 20, none, .pur .mov [.tmp 7]⟩, ⟨some 21, none, .pur (.bin .add) [.tmp 20, .const (.int .i64 1)]⟩, ⟨some 7, none, .pur .mov [.tmp 21]⟩]) [7]))
def S_forebayref31_Longest : Fun := ⟨29, [2, 3, 0, 4, 11, 7, 19, 6, 5], [.tmp 2, .tmp 3],
  .seq (.reg (straight [⟨some 2, none, .pur .mov [.const (.int .i64 0)]⟩, ⟨some 3, none, .pur .mov [.const (.int .i64 0)]⟩]) [2, 3])
  (.seq (.reg (straight [⟨some 8, none, .pur .mov [.tmp 0]⟩, ⟨some 9, none, .eff (.call 47) [.tmp 8]⟩, ⟨some 4, none, .pur .mov [.tmp 9]⟩]) [4])
  (.seq (.seq (.reg (straight [⟨some 10, none, .pur .mov [.tmp 4]⟩, ⟨some 11, none, .pur (.bin .neq) [.tmp 10, .const (.int .i64 0)]⟩]) [11])
  (.cond (.tmp 11) (.seq (.reg (straight [⟨some 12, none, .pur .mov [.tmp 4]⟩, ⟨some 2, none, .pur .mov [.const (.int .i64 0)]⟩, ⟨some 3, none, .pur .mov [.tmp 12]⟩]) [2, 3])
  (.ret)) (.skip)))
  (.seq (.reg (straight [⟨some 13, none, .pur .mov [.tmp 0]⟩, ⟨some 14, none, .pur (.len false) [.tmp 13]⟩, ⟨some 15, none, .eff (.mks 3 1 8 [.int .i64 0]) [.tmp 14, .tmp 14]⟩, ⟨some 5, none, .pur .mov [.tmp 15]⟩]) [5])
  (.seq (.reg (straight [⟨some 6, none, .pur .mov [.const (.int .i64 0)]⟩]) [6])
  (.seq (.seq (.reg (straight [⟨some 7, none, .pur .mov [.const (.int .i64 0)]⟩]) [7])
  (.block 0 (.loop S_forebayref31_Longest_L1)))
  (.seq (.reg (straight [⟨some 28, none, .pur .mov [.tmp 6]⟩, ⟨some 2, none, .pur .mov [.tmp 28]⟩, ⟨some 3, none, .pur .mov [.const (.int .i64 0)]⟩]) [2, 3])
  (.ret)))))))⟩
theorem K_forebayref31_Longest : compF Try.prog 49 = some S_forebayref31_Longest := by kernel_rfl

-- 51
def S_reach_Reach_Before : Fun := ⟨38, [6, 0, 1, 2], [.tmp 6],
  .seq (.reg (straight [⟨some 6, none, .pur .mov [.const (.bool false)]⟩]) [6])
  (.seq (.reg (straight [⟨some 7, none, .pur .mov [.tmp 0]⟩, ⟨some 8, none, .pur .mov [.tmp 1]⟩, ⟨some 9, none, .eff (.call 96) [.tmp 7, .tmp 8]⟩, ⟨some 10, none, .pur .mov [.tmp 9]⟩, ⟨some 11, some (10, true), .pur .mov [.tmp 0]⟩, ⟨some 12, some (10, true), .pur .mov [.tmp 2]⟩, ⟨some 13, some (10, true), .eff (.call 96) [.tmp 11, .tmp 12]⟩, ⟨some 14, none, .pur .pick [.tmp 10, .tmp 13, .const (.bool false)]⟩, ⟨some 15, none, .pur .mov [.tmp 14]⟩, ⟨some 16, some (15, true), .pur .mov [.tmp 1]⟩, ⟨some 17, some (15, true), .pur .mov [.tmp 2]⟩, ⟨some 18, some (15, true), .pur (.bin .lss) [.tmp 16, .tmp 17]⟩, ⟨some 19, none, .pur .pick [.tmp 15, .tmp 18, .const (.bool false)]⟩, ⟨some 20, none, .pur .mov [.tmp 19]⟩, ⟨some 21, some (20, true), .pur .mov [.tmp 0]⟩, ⟨some 22, some (20, true), .pur .nilc [.tmp 21]⟩, ⟨some 23, some (20, true), .pur (.fla 0) [.tmp 22]⟩, ⟨some 24, some (20, true), .ld none (.tmp 23)⟩, ⟨some 25, some (20, true), .pur .mov [.tmp 2]⟩, ⟨some 26, some (20, true), .pur (.ixa 1) [.tmp 24, .tmp 25]⟩, ⟨some 27, some (20, true), .ld none (.tmp 26)⟩, ⟨some 28, some (20, true), .pur .mov [.tmp 1]⟩, ⟨some 29, some (20, true), .pur (.bin .quo) [.tmp 28, .const (.int .i64 64)]⟩, ⟨some 30, some (20, true), .pur (.ixa 1) [.tmp 27, .tmp 29]⟩, ⟨some 31, some (20, true), .ld none (.tmp 30)⟩, ⟨some 32, some (20, true), .pur .mov [.tmp 1]⟩, ⟨some 33, some (20, true), .pur (.bin .rem) [.tmp 32, .const (.int .i64 64)]⟩, ⟨some 34, some (20, true), .pur (.bin .shr) [.tmp 31, .tmp 33]⟩, ⟨some 35, some (20, true), .pur (.bin .and) [.tmp 34, .const (.int .u64 1)]⟩, ⟨some 36, some (20, true), .pur (.bin .eql) [.tmp 35, .const (.int .u64 1)]⟩, ⟨some 37, none, .pur .pick [.tmp 20, .tmp 36, .const (.bool false)]⟩, ⟨some 6, none, .pur .mov [.tmp 37]⟩]) [6])
  (.ret))⟩
theorem K_reach_Reach_Before : compF Try.prog 51 = some S_reach_Reach_Before := by kernel_rfl

-- 57
def S_forebaylaw41_works : Fun := ⟨52, [0, 1, 2, 3, 4, 5, 6, 7], [.tmp 0],
  .seq (.reg (straight [⟨some 0, none, .pur .mov [.const (.bool false)]⟩]) [0])
  (.seq (.reg (straight [⟨some 8, none, .eff (.bsl 3 1) [.const (.int .i64 0)]⟩, ⟨some 9, none, .eff (.bsl 3 1) [.const (.int .i64 0)]⟩, ⟨some 10, none, .eff (.bsl 3 1) [.const (.int .i64 0)]⟩, ⟨some 11, none, .eff (.bsl 29 1) [.const (.slice none 0 0), .tmp 8, .tmp 9, .tmp 10]⟩, ⟨some 1, none, .pur .mov [.tmp 11]⟩]) [1])
  (.seq (.reg (straight [⟨some 13, none, .pur .mov [.tmp 1]⟩, ⟨some 14, none, .eff (.call 63) [.tmp 13, .const (.int .i64 2)]⟩, ⟨some 12, none, .pur .mov [.tmp 14]⟩, ⟨some 15, none, .pur (.ext 0) [.tmp 12]⟩, ⟨some 16, none, .pur (.ext 1) [.tmp 12]⟩, ⟨some 2, none, .pur .mov [.tmp 15]⟩, ⟨some 3, none, .pur .mov [.tmp 16]⟩]) [2, 3])
  (.seq (.reg (straight [⟨some 18, none, .pur .mov [.tmp 1]⟩, ⟨some 19, none, .pur (.bld [.int .i64 0, .int .i64 0, .bool false] [(0, 1)]) [.const (.int .i64 2)]⟩, ⟨some 20, none, .eff (.bsl 114 3) [.tmp 19]⟩, ⟨some 21, none, .pur (.bld [.slice none 0 0, .slice none 0 0, .slice none 0 0] [(0, 1), (2, 1)]) [.tmp 18, .tmp 20]⟩, ⟨some 22, none, .eff (.call 67) [.tmp 21]⟩, ⟨some 17, none, .pur .mov [.tmp 22]⟩, ⟨some 23, none, .pur (.ext 0) [.tmp 17]⟩, ⟨some 24, none, .pur (.ext 1) [.tmp 17]⟩, ⟨some 4, none, .pur .mov [.tmp 23]⟩, ⟨some 5, none, .pur .mov [.tmp 24]⟩]) [4, 5])
  (.seq (.reg (straight [⟨some 26, none, .pur .mov [.tmp 1]⟩, ⟨some 27, none, .eff (.call 61) [.tmp 26]⟩, ⟨some 25, none, .pur .mov [.tmp 27]⟩, ⟨some 28, none, .pur (.ext 0) [.tmp 25]⟩, ⟨some 29, none, .pur (.ext 1) [.tmp 25]⟩, ⟨some 6, none, .pur .mov [.tmp 28]⟩, ⟨some 7, none, .pur .mov [.tmp 29]⟩]) [6, 7])
  (.seq (.reg (straight [⟨some 30, none, .pur .mov [.tmp 2]⟩, ⟨some 31, none, .pur (.bin .eql) [.tmp 30, .const (.int .i64 3)]⟩, ⟨some 32, none, .pur .mov [.tmp 31]⟩, ⟨some 33, some (32, true), .pur .mov [.tmp 3]⟩, ⟨some 34, some (32, true), .pur (.bin .eql) [.tmp 33, .const (.int .i64 0)]⟩, ⟨some 35, none, .pur .pick [.tmp 32, .tmp 34, .const (.bool false)]⟩, ⟨some 36, none, .pur .mov [.tmp 35]⟩, ⟨some 37, some (36, true), .pur .mov [.tmp 4]⟩, ⟨some 38, some (36, true), .pur (.bin .eql) [.tmp 37, .const (.int .i64 3)]⟩, ⟨some 39, none, .pur .pick [.tmp 36, .tmp 38, .const (.bool false)]⟩, ⟨some 40, none, .pur .mov [.tmp 39]⟩, ⟨some 41, some (40, true), .pur .mov [.tmp 5]⟩, ⟨some 42, some (40, true), .pur (.bin .eql) [.tmp 41, .const (.int .i64 0)]⟩, ⟨some 43, none, .pur .pick [.tmp 40, .tmp 42, .const (.bool false)]⟩, ⟨some 44, none, .pur .mov [.tmp 43]⟩, ⟨some 45, some (44, true), .pur .mov [.tmp 6]⟩, ⟨some 46, some (44, true), .pur (.bin .eql) [.tmp 45, .const (.int .i64 3)]⟩, ⟨some 47, none, .pur .pick [.tmp 44, .tmp 46, .const (.bool false)]⟩, ⟨some 48, none, .pur .mov [.tmp 47]⟩, ⟨some 49, some (48, true), .pur .mov [.tmp 7]⟩, ⟨some 50, some (48, true), .pur (.bin .eql) [.tmp 49, .const (.int .i64 0)]⟩, ⟨some 51, none, .pur .pick [.tmp 48, .tmp 50, .const (.bool false)]⟩, ⟨some 0, none, .pur .mov [.tmp 51]⟩]) [0])
  (.ret))))))⟩
theorem K_forebaylaw41_works : compF Try.prog 57 = some S_forebaylaw41_works := by kernel_rfl

-- 68
def S_span_Weights_L1 : SCode :=
  .seq (.reg (straight [⟨some 22, none, .pur (.bin .lss) [.tmp 21, .tmp 20]⟩]) [22])
  (.seq (.cond (.tmp 22) (.skip) (.exit 0))
  (.seq (.block 1 (.seq (.reg (straight [⟨some 23, none, .pur .mov [.tmp 21]⟩, ⟨some 6, none, .pur .mov [.tmp 23]⟩]) [6])
  (.reg (straight [⟨some 24, none, .pur .mov [.tmp 5]⟩, ⟨some 25, none, .pur .mov [.tmp 6]⟩, ⟨some 26, none, .pur (.ixa 1) [.tmp 24, .tmp 25]⟩, ⟨none, none, .eff (.st 1) [.tmp 26, .const (.int .i64 1)]⟩]) [])))
  (.reg (straight [⟨some 27, none, .pur (.bin .add) [.tmp 21, .const (.int .i64 1)]⟩, ⟨some 21, none, .pur .mov [.tmp 27]⟩]) [21])))
def S_span_Weights_L2 : SCode :=
  .seq (.reg (straight [⟨some 32, none, .pur (.bin .lss) [.tmp 31, .tmp 30]⟩]) [32])
  (.seq (.cond (.tmp 32) (.skip) (.exit 2))
  (.seq (.block 3 (.seq (.reg (straight [⟨some 33, none, .pur (.ixa 3) [.tmp 29, .tmp 31]⟩, ⟨some 34, none, .ld (some 3) (.tmp 33)⟩, ⟨some 8, none, .eff (.new 114 [.int .i64 0, .int .i64 0, .bool false]) []⟩, ⟨none, none, .eff (.st 3) [.tmp 8, .tmp 34]⟩]) [8])
  (.seq (.seq (.reg (straight [⟨some 35, none, .pur (.fla 0) [.tmp 8]⟩, ⟨some 36, none, .ld none (.tmp 35)⟩, ⟨some 37, none, .pur (.bin .lss) [.tmp 36, .const (.int .i64 0)]⟩, ⟨some 38, none, .pur .mov [.tmp 37]⟩, ⟨some 39, some (38, false), .pur (.fla 0) [.tmp 8]⟩, ⟨some 40, some (38, false), .ld none (.tmp 39)⟩, ⟨some 41, some (38, false), .pur .mov [.tmp 5]⟩, ⟨some 42, some (38, false), .pur (.len false) [.tmp 41]⟩, ⟨some 43, some (38, false), .pur (.bin .geq) [.tmp 40, .tmp 42]⟩, ⟨some 44, none, .pur .pick [.tmp 38, .const (.bool true), .tmp 43]⟩]) [44])
  (.cond (.tmp 44) (.seq (.reg (straight [⟨some 2, none, .pur .mov [.const (.slice none 0 0)]⟩, ⟨some 3, none, .pur .mov [.const (.int .i64 3)]⟩]) [2, 3])
  (.ret)) (.skip)))
  (.reg (straight [⟨some 45, none, .pur .mov [.tmp 5]⟩, ⟨some 46, none, .pur (.fla 0) [.tmp 8]⟩, ⟨some 47, none, .ld none (.tmp 46)⟩, ⟨some 48, none, .pur (.ixa 1) [.tmp 45, .tmp 47]⟩, ⟨some 49, none, .ld none (.tmp 48)⟩, ⟨some 50, none, .pur (.bin .add) [.tmp 49, .const (.int .i64 1)]⟩, ⟨some 51, none, .pur (.ixa 1) [.tmp 45, .tmp 47]⟩, ⟨none, none, .eff (.st 1) [.tmp 51, .tmp 50]⟩]) []))))
  (.reg (straight [⟨some 52, none, .pur (.bin .add) [.tmp 31, .const (.int .i64 1)]⟩, ⟨some 31, none, .pur .mov [.tmp 52]⟩]) [31])))
def S_span_Weights : Fun := ⟨54, [2, 3, 0, 1, 4, 13, 5, 21, 20, 22, 6, 31, 30, 32, 29, 8, 44], [.tmp 2, .tmp 3],
  .seq (.reg (straight [⟨some 1, none, .eff (.box 98) [.tmp 0]⟩, ⟨some 2, none, .pur .mov [.const (.slice none 0 0)]⟩, ⟨some 3, none, .pur .mov [.const (.int .i64 0)]⟩]) [1, 2, 3])
  (.seq (.seq (.reg (straight [⟨some 9, none, .pur (.fla 0) [.tmp 1]⟩, ⟨some 10, none, .ld none (.tmp 9)⟩, ⟨some 11, none, .eff (.call 98) [.tmp 10]⟩, ⟨some 4, none, .pur .mov [.tmp 11]⟩]) [4])
  (.seq (.reg (straight [⟨some 12, none, .pur .mov [.tmp 4]⟩, ⟨some 13, none, .pur (.bin .neq) [.tmp 12, .const (.int .i64 0)]⟩]) [13])
  (.cond (.tmp 13) (.seq (.reg (straight [⟨some 14, none, .pur .mov [.tmp 4]⟩, ⟨some 2, none, .pur .mov [.const (.slice none 0 0)]⟩, ⟨some 3, none, .pur .mov [.tmp 14]⟩]) [2, 3])
  (.ret)) (.skip))))
  (.seq (.reg (straight [⟨some 15, none, .pur (.fla 0) [.tmp 1]⟩, ⟨some 16, none, .ld none (.tmp 15)⟩, ⟨some 17, none, .pur (.len false) [.tmp 16]⟩, ⟨some 18, none, .eff (.mks 3 1 8 [.int .i64 0]) [.tmp 17, .tmp 17]⟩, ⟨some 5, none, .pur .mov [.tmp 18]⟩]) [5])
  (.seq (.seq (.reg (straight [⟨some 19, none, .pur .mov [.tmp 5]⟩, ⟨some 20, none, .pur (.len false) [.tmp 19]⟩, ⟨some 21, none, .pur .mov [.const (.int .i64 0)]⟩]) [20, 21])
  (.block 0 (.loop S_span_Weights_L1)))
  (.seq (.seq (.reg (straight [⟨some 28, none, .pur (.fla 2) [.tmp 1]⟩, ⟨some 29, none, .ld none (.tmp 28)⟩, ⟨some 30, none, .pur (.len false) [.tmp 29]⟩, ⟨some 31, none, .pur .mov [.const (.int .i64 0)]⟩]) [29, 30, 31])
  (.block 2 (.loop S_span_Weights_L2)))
  (.seq (.reg (straight [⟨some 53, none, .pur .mov [.tmp 5]⟩, ⟨some 2, none, .pur .mov [.tmp 53]⟩, ⟨some 3, none, .pur .mov [.const (.int .i64 0)]⟩]) [2, 3])
  (.ret))))))⟩
theorem K_span_Weights : compF Try.prog 68 = some S_span_Weights := by kernel_rfl

-- 78
def S_log_Log_Len : Fun := ⟨6, [2, 0], [.tmp 2],
  .seq (.reg (straight [⟨some 2, none, .pur .mov [.const (.int .i64 0)]⟩]) [2])
  (.seq (.reg (straight [⟨some 3, none, .pur .mov [.tmp 0]⟩, ⟨some 4, none, .eff (.call 80) [.tmp 3]⟩, ⟨some 5, none, .pur (.len false) [.tmp 4]⟩, ⟨some 2, none, .pur .mov [.tmp 5]⟩]) [2])
  (.ret))⟩
theorem K_log_Log_Len : compF Try.prog 78 = some S_log_Log_Len := by kernel_rfl

-- 88
def S_compare_alike : Fun := ⟨30, [4, 0, 1, 2, 3], [.tmp 4],
  .seq (.reg (straight [⟨some 2, none, .eff (.box 129) [.tmp 0]⟩, ⟨some 3, none, .eff (.box 129) [.tmp 1]⟩, ⟨some 4, none, .pur .mov [.const (.bool false)]⟩]) [2, 3, 4])
  (.seq (.reg (straight [⟨some 5, none, .pur (.fla 0) [.tmp 2]⟩, ⟨some 6, none, .ld none (.tmp 5)⟩, ⟨some 7, none, .pur (.fla 1) [.tmp 2]⟩, ⟨some 8, none, .ld none (.tmp 7)⟩, ⟨some 9, none, .pur (.bld [.int .i64 0, .int .i64 0] [(0, 1), (1, 1)]) [.tmp 6, .tmp 8]⟩, ⟨some 10, none, .pur (.fla 0) [.tmp 3]⟩, ⟨some 11, none, .ld none (.tmp 10)⟩, ⟨some 12, none, .pur (.fla 1) [.tmp 3]⟩, ⟨some 13, none, .ld none (.tmp 12)⟩, ⟨some 14, none, .pur (.bld [.int .i64 0, .int .i64 0] [(0, 1), (1, 1)]) [.tmp 11, .tmp 13]⟩, ⟨some 15, none, .pur (.eqs false [.int .i64, .int .i64]) [.tmp 9, .tmp 14]⟩, ⟨some 16, none, .pur .mov [.tmp 15]⟩, ⟨some 17, some (16, true), .pur (.fla 2) [.tmp 2]⟩, ⟨some 18, some (16, true), .ld none (.tmp 17)⟩, ⟨some 19, some (16, true), .pur (.fla 2) [.tmp 3]⟩, ⟨some 20, some (16, true), .ld none (.tmp 19)⟩, ⟨some 21, some (16, true), .eff (.call 112) [.tmp 18, .tmp 20]⟩, ⟨some 22, none, .pur .pick [.tmp 16, .tmp 21, .const (.bool false)]⟩, ⟨some 23, none, .pur .mov [.tmp 22]⟩, ⟨some 24, some (23, true), .pur (.fla 3) [.tmp 2]⟩, ⟨some 25, some (23, true), .ld none (.tmp 24)⟩, ⟨some 26, some (23, true), .pur (.fla 3) [.tmp 3]⟩, ⟨some 27, some (23, true), .ld none (.tmp 26)⟩, ⟨some 28, some (23, true), .eff (.call 112) [.tmp 25, .tmp 27]⟩, ⟨some 29, none, .pur .pick [.tmp 23, .tmp 28, .const (.bool false)]⟩, ⟨some 4, none, .pur .mov [.tmp 29]⟩]) [4])
  (.ret))⟩
theorem K_compare_alike : compF Try.prog 88 = some S_compare_alike := by kernel_rfl

-- 95
def S_forebayref31_row_L1 : SCode :=
  .seq (.seq (.reg (straight [⟨some 18, none, .pur .mov [.tmp 8]⟩, ⟨some 19, none, .pur .mov [.tmp 0]⟩, ⟨some 20, none, .pur .mov [.tmp 1]⟩, ⟨some 21, none, .pur (.ixa 1) [.tmp 19, .tmp 20]⟩, ⟨some 22, none, .ld none (.tmp 21)⟩, ⟨some 23, none, .pur (.len false) [.tmp 22]⟩, ⟨some 24, none, .pur (.bin .lss) [.tmp 18, .tmp 23]⟩]) [24])
  (.cond (.tmp 24) (.skip) (.exit 0)))
  (.seq (.block 1 (.reg (straight [⟨some 27, none, .pur .mov [.tmp 7]⟩, ⟨some 28, none, .pur .mov [.tmp 0]⟩, ⟨some 29, none, .pur .mov [.tmp 0]⟩, ⟨some 30, none, .pur .mov [.tmp 1]⟩, ⟨some 31, none, .pur (.ixa 1) [.tmp 29, .tmp 30]⟩, ⟨some 32, none, .ld none (.tmp 31)⟩, ⟨some 33, none, .pur .mov [.tmp 8]⟩, ⟨some 34, none, .pur (.ixa 1) [.tmp 32, .tmp 33]⟩, ⟨some 35, none, .ld none (.tmp 34)⟩, ⟨some 36, none, .pur .mov [.tmp 2]⟩, ⟨some 37, none, .eff (.call 95) [.tmp 28, .tmp 35, .tmp 36]⟩, ⟨some 38, none, .pur (.minmax true) [.tmp 27, .tmp 37]⟩, ⟨some 7, none, .pur .mov [.tmp 38]⟩]) [7]))
  (.reg (straight [⟨some 25, none, .pur .mov [.tmp 8]⟩, ⟨some 26, none, .pur (.bin .add) [.tmp 25, .const (.int .i64 1)]⟩, ⟨some 8, none, .pur .mov [.tmp 26]⟩]) [8]))
def S_forebayref31_row : Fun := ⟨46, [6, 2, 1, 13, 8, 0, 24, 7], [.tmp 6],
  .seq (.reg (straight [⟨some 6, none, .pur .mov [.const (.int .i64 0)]⟩]) [6])
  (.seq (.seq (.reg (straight [⟨some 9, none, .pur .mov [.tmp 2]⟩, ⟨some 10, none, .pur .mov [.tmp 1]⟩, ⟨some 11, none, .pur (.ixa 1) [.tmp 9, .tmp 10]⟩, ⟨some 12, none, .ld none (.tmp 11)⟩, ⟨some 13, none, .pur (.bin .gtr) [.tmp 12, .const (.int .i64 0)]⟩]) [13])
  (.cond (.tmp 13) (.seq (.reg (straight [⟨some 14, none, .pur .mov [.tmp 2]⟩, ⟨some 15, none, .pur .mov [.tmp 1]⟩, ⟨some 16, none, .pur (.ixa 1) [.tmp 14, .tmp 15]⟩, ⟨some 17, none, .ld none (.tmp 16)⟩, ⟨some 6, none, .pur .mov [.tmp 17]⟩]) [6])
  (.ret)) (.skip)))
  (.seq (.reg (straight [⟨some 7, none, .pur .mov [.const (.int .i64 0)]⟩]) [7])
  (.seq (.seq (.reg (straight [⟨some 8, none, .pur .mov [.const (.int .i64 0)]⟩]) [8])
  (.block 0 (.loop S_forebayref31_row_L1)))
  (.seq (.reg (straight [⟨some 39, none, .pur .mov [.tmp 2]⟩, ⟨some 40, none, .pur .mov [.tmp 1]⟩, ⟨some 41, none, .pur .mov [.tmp 7]⟩, ⟨some 42, none, .pur (.bin .add) [.tmp 41, .const (.int .i64 1)]⟩, ⟨some 43, none, .pur (.ixa 1) [.tmp 39, .tmp 40]⟩, ⟨none, none, .eff (.st 1) [.tmp 43, .tmp 42]⟩]) [])
  (.seq (.reg (straight [⟨some 44, none, .pur .mov [.tmp 7]⟩, ⟨some 45, none, .pur (.bin .add) [.tmp 44, .const (.int .i64 1)]⟩, ⟨some 6, none, .pur .mov [.tmp 45]⟩]) [6])
  (.ret))))))⟩
theorem K_forebayref31_row : compF Try.prog 95 = some S_forebayref31_row := by kernel_rfl

-- 97
def S_math_bits_OnesCount64 : Fun := ⟨35, [2, 0], [.tmp 2],
  .seq (.reg (straight [⟨some 2, none, .pur .mov [.const (.int .i64 0)]⟩]) [2])
  (.seq (.reg (straight [⟨some 3, none, .pur .mov [.tmp 0]⟩, ⟨some 4, none, .pur (.bin .shr) [.tmp 3, .const (.int .u64 1)]⟩, ⟨some 5, none, .pur (.bin .and) [.tmp 4, .const (.int .u64 6148914691236517205)]⟩, ⟨some 6, none, .pur .mov [.tmp 0]⟩, ⟨some 7, none, .pur (.bin .and) [.tmp 6, .const (.int .u64 6148914691236517205)]⟩, ⟨some 8, none, .pur (.bin .add) [.tmp 5, .tmp 7]⟩, ⟨some 0, none, .pur .mov [.tmp 8]⟩]) [0])
  (.seq (.reg (straight [⟨some 9, none, .pur .mov [.tmp 0]⟩, ⟨some 10, none, .pur (.bin .shr) [.tmp 9, .const (.int .u64 2)]⟩, ⟨some 11, none, .pur (.bin .and) [.tmp 10, .const (.int .u64 3689348814741910323)]⟩, ⟨some 12, none, .pur .mov [.tmp 0]⟩, ⟨some 13, none, .pur (.bin .and) [.tmp 12, .const (.int .u64 3689348814741910323)]⟩, ⟨some 14, none, .pur (.bin .add) [.tmp 11, .tmp 13]⟩, ⟨some 0, none, .pur .mov [.tmp 14]⟩]) [0])
  (.seq (.reg (straight [⟨some 15, none, .pur .mov [.tmp 0]⟩, ⟨some 16, none, .pur (.bin .shr) [.tmp 15, .const (.int .u64 4)]⟩, ⟨some 17, none, .pur .mov [.tmp 0]⟩, ⟨some 18, none, .pur (.bin .add) [.tmp 16, .tmp 17]⟩, ⟨some 19, none, .pur (.bin .and) [.tmp 18, .const (.int .u64 1085102592571150095)]⟩, ⟨some 0, none, .pur .mov [.tmp 19]⟩]) [0])
  (.seq (.reg (straight [⟨some 20, none, .pur .mov [.tmp 0]⟩, ⟨some 21, none, .pur .mov [.tmp 0]⟩, ⟨some 22, none, .pur (.bin .shr) [.tmp 21, .const (.int .u64 8)]⟩, ⟨some 23, none, .pur (.bin .add) [.tmp 20, .tmp 22]⟩, ⟨some 0, none, .pur .mov [.tmp 23]⟩]) [0])
  (.seq (.reg (straight [⟨some 24, none, .pur .mov [.tmp 0]⟩, ⟨some 25, none, .pur .mov [.tmp 0]⟩, ⟨some 26, none, .pur (.bin .shr) [.tmp 25, .const (.int .u64 16)]⟩, ⟨some 27, none, .pur (.bin .add) [.tmp 24, .tmp 26]⟩, ⟨some 0, none, .pur .mov [.tmp 27]⟩]) [0])
  (.seq (.reg (straight [⟨some 28, none, .pur .mov [.tmp 0]⟩, ⟨some 29, none, .pur .mov [.tmp 0]⟩, ⟨some 30, none, .pur (.bin .shr) [.tmp 29, .const (.int .u64 32)]⟩, ⟨some 31, none, .pur (.bin .add) [.tmp 28, .tmp 30]⟩, ⟨some 0, none, .pur .mov [.tmp 31]⟩]) [0])
  (.seq (.reg (straight [⟨some 32, none, .pur .mov [.tmp 0]⟩, ⟨some 33, none, .pur (.toInt .i64) [.tmp 32]⟩, ⟨some 34, none, .pur (.bin .and) [.tmp 33, .const (.int .i64 127)]⟩, ⟨some 2, none, .pur .mov [.tmp 34]⟩]) [2])
  (.ret))))))))⟩
theorem K_math_bits_OnesCount64 : compF Try.prog 97 = some S_math_bits_OnesCount64 := by kernel_rfl

-- 109
def S_log_Log_Count_1 : Fun := ⟨8, [3, 0, 2, 1], [.tmp 3],
  .seq (.reg (straight [⟨some 2, none, .eff (.box 28) [.tmp 0]⟩, ⟨some 3, none, .pur .mov [.const (.bool false)]⟩]) [2, 3])
  (.seq (.reg (straight [⟨some 4, none, .pur (.fla 0) [.tmp 2]⟩, ⟨some 5, none, .ld none (.tmp 4)⟩, ⟨some 6, none, .ld none (.tmp 1)⟩, ⟨some 7, none, .pur (.bin .eql) [.tmp 5, .tmp 6]⟩, ⟨some 3, none, .pur .mov [.tmp 7]⟩]) [3])
  (.ret))⟩
theorem K_log_Log_Count_1 : compF Try.prog 109 = some S_log_Log_Count_1 := by kernel_rfl

-- 110
def S_slices_Index_int_int_L1 : SCode :=
  .seq (.reg (straight [⟨some 9, none, .pur (.bin .lss) [.tmp 8, .tmp 7]⟩]) [9])
  (.seq (.cond (.tmp 9) (.skip) (.exit 0))
  (.seq (.block 1 (.seq (.reg (straight [⟨some 10, none, .pur .mov [.tmp 8]⟩, ⟨some 5, none, .pur .mov [.tmp 10]⟩]) [5])
  (.seq (.reg (straight [⟨some 11, none, .pur .mov [.tmp 1]⟩, ⟨some 12, none, .pur .mov [.tmp 0]⟩, ⟨some 13, none, .pur .mov [.tmp 5]⟩, ⟨some 14, none, .pur (.ixa 1) [.tmp 12, .tmp 13]⟩, ⟨some 15, none, .ld none (.tmp 14)⟩, ⟨some 16, none, .pur (.bin .eql) [.tmp 11, .tmp 15]⟩]) [16])
  (.cond (.tmp 16) (.seq (.reg (straight [⟨some 17, none, .pur .mov [.tmp 5]⟩, ⟨some 4, none, .pur .mov [.tmp 17]⟩]) [4])
  (.ret)) (.skip)))))
  (.reg (straight [⟨some 18, none, .pur (.bin .add) [.tmp 8, .const (.int .i64 1)]⟩, ⟨some 8, none, .pur .mov [.tmp 18]⟩]) [8])))
def S_slices_Index_int_int : Fun := ⟨19, [4, 0, 8, 7, 9, 1, 5, 16], [.tmp 4],
  .seq (.reg (straight [⟨some 4, none, .pur .mov [.const (.int .i64 0)]⟩]) [4])
  (.seq (.seq (.reg (straight [⟨some 6, none, .pur .mov [.tmp 0]⟩, ⟨some 7, none, .pur (.len false) [.tmp 6]⟩, ⟨some 8, none, .pur .mov [.const (.int .i64 0)]⟩]) [7, 8])
  (.block 0 (.loop S_slices_Index_int_int_L1)))
  (.seq (.reg (straight [⟨some 4, none, .pur .mov [.const (.int .i64 (-1))]⟩]) [4])
  (.ret)))⟩
theorem K_slices_Index_int_int : compF Try.prog 110 = some S_slices_Index_int_int := by kernel_rfl

end Go.Proofs.Ytilofhocodbknaa
