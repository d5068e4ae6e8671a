import Derived.Test.YthgmfjkbgacfaaaKj
import Derived.Test.YthgmfjkbgacfaaaProg
import Derived.KernelRfl
namespace Go.Proofs.Ythgmfjkbgacfaaa
open Go Go.Kx Go.Proofs
set_option linter.unusedVariables false
set_option maxRecDepth 100000

-- 8
def S_forebaylaw33_GridStrands_L2 : SCode :=
  .seq (.seq (.reg (straight [⟨some 52, none, .pur .mov [.tmp 6]⟩, ⟨some 53, none, .pur .mov [.tmp 0]⟩, ⟨some 54, none, .pur .mov [.tmp 5]⟩, ⟨some 55, none, .pur (.ixa 1) [.tmp 53, .tmp 54]⟩, ⟨some 56, none, .ld none (.tmp 55)⟩, ⟨some 57, none, .pur (.len false) [.tmp 56]⟩, ⟨some 58, none, .pur (.bin .lss) [.tmp 52, .tmp 57]⟩]) [58])
  (.cond (.tmp 58) (.skip) (.exit 2)))
  (.seq (.block 3 (.seq (.reg (straight [⟨some 61, none, .pur .mov [.tmp 4]⟩, ⟨some 62, none, .pur .mov [.tmp 5]⟩, ⟨some 63, none, .pur .mov [.tmp 0]⟩, ⟨some 64, none, .pur .mov [.tmp 5]⟩, ⟨some 65, none, .pur (.ixa 1) [.tmp 63, .tmp 64]⟩, ⟨some 66, none, .ld none (.tmp 65)⟩, ⟨some 67, none, .pur .mov [.tmp 6]⟩, ⟨some 68, none, .pur (.ixa 2) [.tmp 66, .tmp 67]⟩, ⟨some 69, none, .pur (.fla 0) [.tmp 68]⟩, ⟨some 70, none, .ld none (.tmp 69)⟩, ⟨some 71, none, .eff (.call 24) [.tmp 62, .tmp 70]⟩, ⟨some 72, none, .eff (.bsl 48 1) [.tmp 71]⟩, ⟨some 73, none, .eff (.app 48 1 16 [.complex .f64 0 0]) [.tmp 61, .tmp 72]⟩, ⟨some 4, none, .pur .mov [.tmp 73]⟩]) [4])
  (.seq (.seq (.reg (straight [⟨some 74, none, .pur .mov [.tmp 6]⟩, ⟨some 75, none, .pur (.bin .gtr) [.tmp 74, .const (.int .i64 0)]⟩, ⟨some 76, none, .pur .mov [.tmp 75]⟩, ⟨some 77, some (76, true), .pur .mov [.tmp 0]⟩, ⟨some 78, some (76, true), .pur .mov [.tmp 5]⟩, ⟨some 79, some (76, true), .pur (.ixa 1) [.tmp 77, .tmp 78]⟩, ⟨some 80, some (76, true), .ld none (.tmp 79)⟩, ⟨some 81, some (76, true), .pur .mov [.tmp 6]⟩, ⟨some 82, some (76, true), .pur (.ixa 2) [.tmp 80, .tmp 81]⟩, ⟨some 83, some (76, true), .pur (.fla 1) [.tmp 82]⟩, ⟨some 84, some (76, true), .ld none (.tmp 83)⟩, ⟨some 85, none, .pur .pick [.tmp 76, .tmp 84, .const (.bool false)]⟩]) [85])
  (.cond (.tmp 85) (.reg (straight [⟨some 86, none, .pur .mov [.tmp 3]⟩, ⟨some 87, none, .pur .mov [.tmp 0]⟩, ⟨some 88, none, .pur .mov [.tmp 5]⟩, ⟨some 89, none, .pur (.ixa 1) [.tmp 87, .tmp 88]⟩, ⟨some 90, none, .ld none (.tmp 89)⟩, ⟨some 91, none, .pur .mov [.tmp 6]⟩, ⟨some 92, none, .pur (.ixa 2) [.tmp 90, .tmp 91]⟩, ⟨some 93, none, .pur (.fla 0) [.tmp 92]⟩, ⟨some 94, none, .ld none (.tmp 93)⟩, ⟨some 95, none, .pur (.bld [.int .i64 0, .int .i64 0, .int .i64 0] [(0, 1), (1, 1)]) [.const (.int .i64 11), .tmp 94]⟩, ⟨some 96, none, .eff (.bsl 65 3) [.tmp 95]⟩, ⟨some 97, none, .eff (.app 65 3 24 [.int .i64 0, .int .i64 0, .int .i64 0]) [.tmp 86, .tmp 96]⟩, ⟨some 3, none, .pur .mov [.tmp 97]⟩]) [3]) (.skip)))
  (.seq (.reg (straight [⟨some 98, none, .pur .mov [.tmp 6]⟩, ⟨some 99, none, .pur (.bin .gtr) [.tmp 98, .const (.int .i64 0)]⟩, ⟨some 100, none, .pur .mov [.tmp 99]⟩, ⟨some 101, some (100, true), .pur .mov [.tmp 0]⟩, ⟨some 102, some (100, true), .pur .mov [.tmp 5]⟩, ⟨some 103, some (100, true), .pur (.ixa 1) [.tmp 101, .tmp 102]⟩, ⟨some 104, some (100, true), .ld none (.tmp 103)⟩, ⟨some 105, some (100, true), .pur .mov [.tmp 6]⟩, ⟨some 106, some (100, true), .pur (.ixa 2) [.tmp 104, .tmp 105]⟩, ⟨some 107, some (100, true), .pur (.fla 1) [.tmp 106]⟩, ⟨some 108, some (100, true), .ld none (.tmp 107)⟩, ⟨some 109, some (100, true), .pur .not [.tmp 108]⟩, ⟨some 110, none, .pur .pick [.tmp 100, .tmp 109, .const (.bool false)]⟩]) [110])
  (.cond (.tmp 110) (.reg (straight [⟨some 111, none, .pur .mov [.tmp 3]⟩, ⟨some 112, none, .pur .mov [.tmp 0]⟩, ⟨some 113, none, .pur .mov [.tmp 5]⟩, ⟨some 114, none, .pur (.ixa 1) [.tmp 112, .tmp 113]⟩, ⟨some 115, none, .ld none (.tmp 114)⟩, ⟨some 116, none, .pur .mov [.tmp 6]⟩, ⟨some 117, none, .pur (.ixa 2) [.tmp 115, .tmp 116]⟩, ⟨some 118, none, .pur (.fla 0) [.tmp 117]⟩, ⟨some 119, none, .ld none (.tmp 118)⟩, ⟨some 120, none, .pur (.bld [.int .i64 0, .int .i64 0, .int .i64 0] [(0, 1), (1, 1)]) [.const (.int .i64 12), .tmp 119]⟩, ⟨some 121, none, .eff (.bsl 65 3) [.tmp 120]⟩, ⟨some 122, none, .eff (.app 65 3 24 [.int .i64 0, .int .i64 0, .int .i64 0]) [.tmp 111, .tmp 121]⟩, ⟨some 3, none, .pur .mov [.tmp 122]⟩]) [3]) (.skip))))))
  (.reg (straight [⟨some 59, none, .pur .mov [.tmp 6]⟩, ⟨some 60, none, .pur (.bin .add) [.tmp 59, .const (.int .i64 1)]⟩, ⟨some 6, none, .pur .mov [.tmp 60]⟩]) [6]))
def S_forebaylaw33_GridStrands_L1 : SCode :=
  .seq (.seq (.reg (straight [⟨some 35, none, .pur .mov [.tmp 5]⟩, ⟨some 36, none, .pur .mov [.tmp 0]⟩, ⟨some 37, none, .pur (.len false) [.tmp 36]⟩, ⟨some 38, none, .pur (.bin .lss) [.tmp 35, .tmp 37]⟩]) [38])
  (.cond (.tmp 38) (.skip) (.exit 0)))
  (.seq (.block 1 (.seq (.seq (.reg (straight [⟨some 41, none, .pur .mov [.tmp 0]⟩, ⟨some 42, none, .pur .mov [.tmp 5]⟩, ⟨some 43, none, .pur (.ixa 1) [.tmp 41, .tmp 42]⟩, ⟨some 44, none, .ld none (.tmp 43)⟩, ⟨some 45, none, .pur (.len false) [.tmp 44]⟩, ⟨some 46, none, .pur (.bin .gtr) [.tmp 45, .const (.int .i64 12)]⟩]) [46])
  (.cond (.tmp 46) (.seq (.reg (straight [⟨some 2, none, .pur .mov [.const (.bool true)]⟩]) [2])
  (.ret)) (.skip)))
  (.seq (.reg (straight [⟨some 47, none, .pur .mov [.tmp 3]⟩, ⟨some 48, none, .pur .mov [.tmp 5]⟩, ⟨some 49, none, .pur (.bld [.int .i64 0, .int .i64 0, .int .i64 0] [(0, 1), (1, 1)]) [.const (.int .i64 9), .tmp 48]⟩, ⟨some 50, none, .eff (.bsl 65 3) [.tmp 49]⟩, ⟨some 51, none, .eff (.app 65 3 24 [.int .i64 0, .int .i64 0, .int .i64 0]) [.tmp 47, .tmp 50]⟩, ⟨some 3, none, .pur .mov [.tmp 51]⟩]) [3])
  (.seq (.seq (.reg (straight [⟨some 6, none, .pur .mov [.const (.int .i64 0)]⟩]) [6])
  (.block 2 (.loop S_forebaylaw33_GridStrands_L2)))
  (.reg (straight [⟨some 123, none, .pur .mov [.tmp 3]⟩, ⟨some 124, none, .pur .mov [.tmp 5]⟩, ⟨some 125, none, .pur (.bld [.int .i64 0, .int .i64 0, .int .i64 0] [(0, 1), (1, 1)]) [.const (.int .i64 10), .tmp 124]⟩, ⟨some 126, none, .eff (.bsl 65 3) [.tmp 125]⟩, ⟨some 127, none, .eff (.app 65 3 24 [.int .i64 0, .int .i64 0, .int .i64 0]) [.tmp 123, .tmp 126]⟩, ⟨some 3, none, .pur .mov [.tmp 127]⟩]) [3])))))
  (.reg (straight [⟨some 39, none, .pur .mov [.tmp 5]⟩, ⟨some 40, none, .pur (.bin .add) [.tmp 39, .const (.int .i64 1)]⟩, ⟨some 5, none, .pur .mov [.tmp 40]⟩]) [5]))
def S_forebaylaw33_GridStrands_L4 : SCode :=
  .seq (.seq (.reg (straight [⟨some 182, none, .pur .mov [.tmp 13]⟩, ⟨some 183, none, .pur .mov [.tmp 4]⟩, ⟨some 184, none, .pur (.len false) [.tmp 183]⟩, ⟨some 185, none, .pur (.bin .lss) [.tmp 182, .tmp 184]⟩, ⟨some 186, none, .pur .mov [.tmp 185]⟩, ⟨some 187, some (186, true), .pur .mov [.tmp 4]⟩, ⟨some 188, some (186, true), .pur (.len false) [.tmp 187]⟩, ⟨some 189, some (186, true), .pur (.bin .leq) [.tmp 188, .const (.int .i64 24)]⟩, ⟨some 190, none, .pur .pick [.tmp 186, .tmp 189, .const (.bool false)]⟩]) [190])
  (.cond (.tmp 190) (.skip) (.exit 6)))
  (.seq (.block 7 (.seq (.reg (.run ⟨some 193, none, .pur .mov [.tmp 9]⟩ (.run ⟨some 194, none, .pur .mov [.tmp 11]⟩ (.run ⟨some 195, none, .pur (.bin .add) [.tmp 194, .const (.int .i64 1)]⟩ (.run ⟨some 196, none, .pur .mov [.tmp 13]⟩ (.run ⟨some 197, none, .pur (.bin .add) [.tmp 196, .const (.int .i64 1)]⟩ (.run ⟨some 199, none, .pur .mov [.tmp 0]⟩ (.run ⟨some 201, none, .pur .mov [.tmp 4]⟩ (.run ⟨some 202, none, .pur .mov [.tmp 11]⟩ (.run ⟨some 203, none, .pur (.ixa 1) [.tmp 201, .tmp 202]⟩ (.run ⟨some 204, none, .ld none (.tmp 203)⟩ (.run ⟨some 205, none, .pur .mov [.tmp 4]⟩ (.run ⟨some 206, none, .pur .mov [.tmp 13]⟩ (.run ⟨some 207, none, .pur (.ixa 1) [.tmp 205, .tmp 206]⟩ (.run ⟨some 208, none, .ld none (.tmp 207)⟩ (.eff ⟨some 198, none, .eff (.call 38) [.tmp 193, .tmp 195, .tmp 197]⟩ [⟨some 208, none, .ld none (.tmp 207)⟩, ⟨some 204, none, .ld none (.tmp 203)⟩] (.eff ⟨some 200, none, .eff (.call 40) [.tmp 199]⟩ [⟨some 208, none, .ld none (.tmp 207)⟩, ⟨some 204, none, .ld none (.tmp 203)⟩] (.eff ⟨some 209, none, .eff (.call 39) [.tmp 200, .tmp 204, .tmp 208]⟩ [] (.run ⟨some 210, none, .pur (.eqb true) [.tmp 198, .tmp 209]⟩ .done)))))))))))))))))) [210])
  (.cond (.tmp 210) (.seq (.reg (straight [⟨some 2, none, .pur .mov [.const (.bool false)]⟩]) [2])
  (.ret)) (.skip))))
  (.reg (straight [⟨some 191, none, .pur .mov [.tmp 13]⟩, ⟨some 192, none, .pur (.bin .add) [.tmp 191, .const (.int .i64 1)]⟩, ⟨some 13, none, .pur .mov [.tmp 192]⟩]) [13]))
def S_forebaylaw33_GridStrands_L3 : SCode :=
  .seq (.seq (.reg (straight [⟨some 155, none, .pur .mov [.tmp 11]⟩, ⟨some 156, none, .pur .mov [.tmp 4]⟩, ⟨some 157, none, .pur (.len false) [.tmp 156]⟩, ⟨some 158, none, .pur (.bin .lss) [.tmp 155, .tmp 157]⟩]) [158])
  (.cond (.tmp 158) (.skip) (.exit 4)))
  (.seq (.block 5 (.seq (.reg (straight [⟨some 161, none, .pur (.fla 1) [.tmp 7]⟩, ⟨some 162, none, .ld none (.tmp 161)⟩, ⟨some 163, none, .pur .mov [.tmp 11]⟩, ⟨some 164, none, .pur (.bin .add) [.tmp 163, .const (.int .i64 1)]⟩, ⟨some 165, none, .pur (.ixa 3) [.tmp 162, .tmp 164]⟩, ⟨some 166, none, .ld (some 3) (.tmp 165)⟩, ⟨some 12, none, .eff (.new 78 [.int .i64 0, .int .i64 0, .int .i64 0]) []⟩, ⟨none, none, .eff (.st 3) [.tmp 12, .tmp 166]⟩]) [12])
  (.seq (.seq (.reg (.run ⟨some 167, none, .pur (.fla 0) [.tmp 12]⟩ (.run ⟨some 168, none, .ld none (.tmp 167)⟩ (.run ⟨some 169, none, .pur (.bin .neq) [.tmp 168, .const (.int .i64 1)]⟩ (.run ⟨some 170, none, .pur .mov [.tmp 169]⟩ (.run ⟨some 171, some (170, false), .pur (.fla 1) [.tmp 12]⟩ (.run ⟨some 172, some (170, false), .ld none (.tmp 171)⟩ (.run ⟨some 173, some (170, false), .pur (.fla 2) [.tmp 12]⟩ (.run ⟨some 174, some (170, false), .ld none (.tmp 173)⟩ (.run ⟨some 176, some (170, false), .pur .mov [.tmp 4]⟩ (.run ⟨some 177, some (170, false), .pur .mov [.tmp 11]⟩ (.run ⟨some 178, some (170, false), .pur (.ixa 1) [.tmp 176, .tmp 177]⟩ (.run ⟨some 179, some (170, false), .ld none (.tmp 178)⟩ (.eff ⟨some 175, some (170, false), .eff (.call 24) [.tmp 172, .tmp 174]⟩ [⟨some 179, some (170, false), .ld none (.tmp 178)⟩] (.run ⟨some 180, some (170, false), .pur (.bin .neq) [.tmp 175, .tmp 179]⟩ (.run ⟨some 181, none, .pur .pick [.tmp 170, .const (.bool true), .tmp 180]⟩ .done))))))))))))))) [181])
  (.cond (.tmp 181) (.seq (.reg (straight [⟨some 2, none, .pur .mov [.const (.bool false)]⟩]) [2])
  (.ret)) (.skip)))
  (.seq (.reg (straight [⟨some 13, none, .pur .mov [.const (.int .i64 0)]⟩]) [13])
  (.block 6 (.loop S_forebaylaw33_GridStrands_L4))))))
  (.reg (straight [⟨some 159, none, .pur .mov [.tmp 11]⟩, ⟨some 160, none, .pur (.bin .add) [.tmp 159, .const (.int .i64 1)]⟩, ⟨some 11, none, .pur .mov [.tmp 160]⟩]) [11]))
def S_forebaylaw33_GridStrands : Fun := ⟨220, [2, 15, 0, 32, 5, 38, 46, 3, 6, 58, 4, 85, 110, 8, 7, 146, 10, 154, 11, 158, 12, 181, 13, 190, 9, 210], [.tmp 2],
  .seq (.reg (straight [⟨some 2, none, .pur .mov [.const (.bool false)]⟩]) [2])
  (.seq (.seq (.reg (straight [⟨some 14, none, .eff (.call 33) []⟩, ⟨some 15, none, .pur .not [.tmp 14]⟩]) [15])
  (.cond (.tmp 15) (.seq (.reg (straight [⟨some 2, none, .pur .mov [.const (.bool false)]⟩]) [2])
  (.ret)) (.skip)))
  (.seq (.seq (.reg (straight [⟨some 16, none, .pur .mov [.tmp 0]⟩, ⟨some 17, none, .eff (.call 34) [.tmp 16]⟩, ⟨some 18, none, .pur .mov [.tmp 17]⟩, ⟨some 19, some (18, false), .pur .mov [.tmp 0]⟩, ⟨some 20, some (18, false), .eff (.call 35) [.tmp 19]⟩, ⟨some 21, some (18, false), .pur (.bin .neq) [.tmp 20, .const (.int .i64 0)]⟩, ⟨some 22, none, .pur .pick [.tmp 18, .const (.bool true), .tmp 21]⟩, ⟨some 23, none, .pur .mov [.tmp 22]⟩, ⟨some 24, some (23, false), .pur .mov [.tmp 0]⟩, ⟨some 25, some (23, false), .pur (.len false) [.tmp 24]⟩, ⟨some 26, some (23, false), .pur (.bin .eql) [.tmp 25, .const (.int .i64 0)]⟩, ⟨some 27, none, .pur .pick [.tmp 23, .const (.bool true), .tmp 26]⟩, ⟨some 28, none, .pur .mov [.tmp 27]⟩, ⟨some 29, some (28, false), .pur .mov [.tmp 0]⟩, ⟨some 30, some (28, false), .pur (.len false) [.tmp 29]⟩, ⟨some 31, some (28, false), .pur (.bin .gtr) [.tmp 30, .const (.int .i64 12)]⟩, ⟨some 32, none, .pur .pick [.tmp 28, .const (.bool true), .tmp 31]⟩]) [32])
  (.cond (.tmp 32) (.seq (.reg (straight [⟨some 2, none, .pur .mov [.const (.bool true)]⟩]) [2])
  (.ret)) (.skip)))
  (.seq (.reg (straight [⟨some 33, none, .pur (.bld [.int .i64 0, .int .i64 0, .int .i64 0] [(0, 1), (1, 1)]) [.const (.int .i64 7), .const (.int .i64 1)]⟩, ⟨some 34, none, .eff (.bsl 65 3) [.tmp 33]⟩, ⟨some 3, none, .pur .mov [.tmp 34]⟩]) [3])
  (.seq (.reg (straight [⟨some 4, none, .pur .mov [.const (.slice none 0 0)]⟩]) [4])
  (.seq (.seq (.reg (straight [⟨some 5, none, .pur .mov [.const (.int .i64 0)]⟩]) [5])
  (.block 0 (.loop S_forebaylaw33_GridStrands_L1)))
  (.seq (.reg (straight [⟨some 129, none, .pur .mov [.tmp 3]⟩, ⟨some 130, none, .pur (.bld [.int .i64 0, .int .i64 0, .int .i64 0] [(0, 1), (1, 1)]) [.const (.int .i64 8), .const (.int .i64 1)]⟩, ⟨some 131, none, .eff (.bsl 65 3) [.tmp 130]⟩, ⟨some 132, none, .eff (.app 65 3 24 [.int .i64 0, .int .i64 0, .int .i64 0]) [.tmp 129, .tmp 131]⟩, ⟨some 133, none, .eff (.call 36) [.tmp 132]⟩, ⟨some 128, none, .pur .mov [.tmp 133]⟩, ⟨some 134, none, .pur (.ext 0) [.tmp 128]⟩, ⟨some 135, none, .pur (.ext 1) [.tmp 128]⟩, ⟨some 7, none, .eff (.new 71 [.slice none 0 0, .slice none 0 0, .slice none 0 0]) []⟩, ⟨none, none, .eff (.st 3) [.tmp 7, .tmp 134]⟩, ⟨some 8, none, .pur .mov [.tmp 135]⟩]) [7, 8])
  (.seq (.seq (.reg (straight [⟨some 136, none, .pur .mov [.tmp 8]⟩, ⟨some 137, none, .pur (.bin .neq) [.tmp 136, .const (.int .i64 0)]⟩, ⟨some 138, none, .pur .mov [.tmp 137]⟩, ⟨some 139, some (138, false), .pur (.fla 0) [.tmp 7]⟩, ⟨some 140, some (138, false), .ld none (.tmp 139)⟩, ⟨some 141, some (138, false), .pur (.len false) [.tmp 140]⟩, ⟨some 142, some (138, false), .pur .mov [.tmp 4]⟩, ⟨some 143, some (138, false), .pur (.len false) [.tmp 142]⟩, ⟨some 144, some (138, false), .pur (.bin .add) [.tmp 143, .const (.int .i64 2)]⟩, ⟨some 145, some (138, false), .pur (.bin .neq) [.tmp 141, .tmp 144]⟩, ⟨some 146, none, .pur .pick [.tmp 138, .const (.bool true), .tmp 145]⟩]) [146])
  (.cond (.tmp 146) (.seq (.reg (straight [⟨some 2, none, .pur .mov [.const (.bool false)]⟩]) [2])
  (.ret)) (.skip)))
  (.seq (.reg (straight [⟨some 148, none, .pur (.fla 0) [.tmp 7]⟩, ⟨some 149, none, .ld none (.tmp 148)⟩, ⟨some 150, none, .eff (.call 37) [.tmp 149]⟩, ⟨some 147, none, .pur .mov [.tmp 150]⟩, ⟨some 151, none, .pur (.ext 0) [.tmp 147]⟩, ⟨some 152, none, .pur (.ext 1) [.tmp 147]⟩, ⟨some 9, none, .pur .mov [.tmp 151]⟩, ⟨some 10, none, .pur .mov [.tmp 152]⟩]) [9, 10])
  (.seq (.seq (.reg (straight [⟨some 153, none, .pur .mov [.tmp 10]⟩, ⟨some 154, none, .pur (.bin .neq) [.tmp 153, .const (.int .i64 0)]⟩]) [154])
  (.cond (.tmp 154) (.seq (.reg (straight [⟨some 2, none, .pur .mov [.const (.bool false)]⟩]) [2])
  (.ret)) (.skip)))
  (.seq (.seq (.reg (straight [⟨some 11, none, .pur .mov [.const (.int .i64 0)]⟩]) [11])
  (.block 4 (.loop S_forebaylaw33_GridStrands_L3)))
  (.seq (.reg (straight [⟨some 211, none, .pur .mov [.tmp 9]⟩, ⟨some 212, none, .pur .mov [.tmp 4]⟩, ⟨some 213, none, .pur (.len false) [.tmp 212]⟩, ⟨some 214, none, .pur (.bin .add) [.tmp 213, .const (.int .i64 1)]⟩, ⟨some 215, none, .eff (.call 41) [.tmp 211, .tmp 214]⟩, ⟨some 216, none, .pur .mov [.tmp 4]⟩, ⟨some 217, none, .pur (.len false) [.tmp 216]⟩, ⟨some 218, none, .pur (.bin .add) [.tmp 217, .const (.int .i64 1)]⟩, ⟨some 219, none, .pur (.bin .eql) [.tmp 215, .tmp 218]⟩, ⟨some 2, none, .pur .mov [.tmp 219]⟩]) [2])
  (.ret))))))))))))⟩
theorem K_forebaylaw33_GridStrands : compF Try.prog 8 = some S_forebaylaw33_GridStrands := by kernel_rfl

-- 24
def S_grid_Node : Fun := ⟨12, [4, 0, 1], [.tmp 4],
  .seq (.reg (straight [⟨some 4, none, .pur .mov [.const (.complex .f64 0 0)]⟩]) [4])
  (.seq (.reg (straight [⟨some 5, none, .pur .mov [.tmp 0]⟩, ⟨some 6, none, .eff (.call 58) [.tmp 5]⟩, ⟨some 7, none, .pur (.intF .f64) [.tmp 6]⟩, ⟨some 8, none, .pur .mov [.tmp 1]⟩, ⟨some 9, none, .eff (.call 58) [.tmp 8]⟩, ⟨some 10, none, .pur (.intF .f64) [.tmp 9]⟩, ⟨some 11, none, .pur (.cpx .f64) [.tmp 7, .tmp 10]⟩, ⟨some 4, none, .pur .mov [.tmp 11]⟩]) [4])
  (.ret))⟩
theorem K_grid_Node : compF Try.prog 24 = some S_grid_Node := by kernel_rfl

-- 33
def S_forebaylaw33_works : Fun := ⟨43, [0, 2, 1], [.tmp 0],
  .seq (.reg (straight [⟨some 0, none, .pur .mov [.const (.bool false)]⟩]) [0])
  (.seq (.reg (straight [⟨some 4, none, .eff (.call 68) []⟩, ⟨some 5, none, .eff (.call 55) [.tmp 4]⟩, ⟨some 3, none, .pur .mov [.tmp 5]⟩, ⟨some 6, none, .pur (.ext 0) [.tmp 3]⟩, ⟨some 7, none, .pur (.ext 1) [.tmp 3]⟩, ⟨some 1, none, .pur .mov [.tmp 6]⟩, ⟨some 2, none, .pur .mov [.tmp 7]⟩]) [1, 2])
  (.seq (.reg (straight [⟨some 8, none, .pur .mov [.tmp 2]⟩, ⟨some 9, none, .pur (.bin .eql) [.tmp 8, .const (.int .i64 0)]⟩, ⟨some 10, none, .pur .mov [.tmp 9]⟩, ⟨some 11, some (10, true), .pur .mov [.tmp 1]⟩, ⟨some 12, some (10, true), .pur (.len false) [.tmp 11]⟩, ⟨some 13, some (10, true), .pur (.bin .eql) [.tmp 12, .const (.int .i64 4)]⟩, ⟨some 14, none, .pur .pick [.tmp 10, .tmp 13, .const (.bool false)]⟩, ⟨some 15, none, .pur .mov [.tmp 14]⟩, ⟨some 16, some (15, true), .pur .mov [.tmp 1]⟩, ⟨some 17, some (15, true), .pur (.ixa 2) [.tmp 16, .const (.int .i64 3)]⟩, ⟨some 18, some (15, true), .ld (some 2) (.tmp 17)⟩, ⟨some 19, some (15, true), .pur (.bld [.complex .f64 0 0, .complex .f64 0 0] [(0, 1), (1, 1)]) [.const (.complex .f64 0 4607182418800017408), .const (.complex .f64 4607182418800017408 4607182418800017408)]⟩, ⟨some 20, some (15, true), .pur (.eqs false [.complex .f64, .complex .f64]) [.tmp 18, .tmp 19]⟩, ⟨some 21, none, .pur .pick [.tmp 15, .tmp 20, .const (.bool false)]⟩, ⟨some 22, none, .pur .mov [.tmp 21]⟩, ⟨some 23, some (22, true), .eff (.call 68) []⟩, ⟨some 24, some (22, true), .eff (.call 39) [.tmp 23, .const (.complex .f64 0 0), .const (.complex .f64 4607182418800017408 4607182418800017408)]⟩, ⟨some 25, none, .pur .pick [.tmp 22, .tmp 24, .const (.bool false)]⟩, ⟨some 26, none, .pur .mov [.tmp 25]⟩, ⟨some 27, some (26, true), .eff (.call 68) []⟩, ⟨some 28, some (26, true), .eff (.call 39) [.tmp 27, .const (.complex .f64 4607182418800017408 0), .const (.complex .f64 0 4607182418800017408)]⟩, ⟨some 29, some (26, true), .pur .not [.tmp 28]⟩, ⟨some 30, none, .pur .pick [.tmp 26, .tmp 29, .const (.bool false)]⟩, ⟨some 31, none, .pur .mov [.tmp 30]⟩, ⟨some 32, some (31, true), .eff (.call 69) [.const (.complex .f64 4613937818241073152 4616189618054758400)]⟩, ⟨some 33, some (31, true), .pur (.bin .eql) [.tmp 32, .const (.int .i64 3)]⟩, ⟨some 34, none, .pur .pick [.tmp 31, .tmp 33, .const (.bool false)]⟩, ⟨some 35, none, .pur .mov [.tmp 34]⟩, ⟨some 36, some (35, true), .eff (.call 70) [.const (.complex .f64 4613937818241073152 4616189618054758400)]⟩, ⟨some 37, some (35, true), .pur (.bin .eql) [.tmp 36, .const (.int .i64 4)]⟩, ⟨some 38, none, .pur .pick [.tmp 35, .tmp 37, .const (.bool false)]⟩, ⟨some 39, none, .pur .mov [.tmp 38]⟩, ⟨some 40, some (39, true), .eff (.call 24) [.const (.int .i64 3), .const (.int .i64 4)]⟩, ⟨some 41, some (39, true), .pur (.bin .eql) [.tmp 40, .const (.complex .f64 4613937818241073152 4616189618054758400)]⟩, ⟨some 42, none, .pur .pick [.tmp 39, .tmp 41, .const (.bool false)]⟩, ⟨some 0, none, .pur .mov [.tmp 42]⟩]) [0])
  (.ret)))⟩
theorem K_forebaylaw33_works : compF Try.prog 33 = some S_forebaylaw33_works := by kernel_rfl

-- 34
def S_forebaylaw33_great_L1 : SCode :=
  .seq (.seq (.reg (straight [⟨some 5, none, .pur .mov [.tmp 4]⟩, ⟨some 6, none, .pur .mov [.tmp 0]⟩, ⟨some 7, none, .pur (.len false) [.tmp 6]⟩, ⟨some 8, none, .pur (.bin .lss) [.tmp 5, .tmp 7]⟩]) [8])
  (.cond (.tmp 8) (.skip) (.exit 0)))
  (.seq (.block 1 (.seq (.reg (straight [⟨some 11, none, .pur .mov [.tmp 3]⟩, ⟨some 12, none, .pur .mov [.tmp 0]⟩, ⟨some 13, none, .pur .mov [.tmp 4]⟩, ⟨some 14, none, .pur (.ixa 1) [.tmp 12, .tmp 13]⟩, ⟨some 15, none, .ld none (.tmp 14)⟩, ⟨some 16, none, .pur (.len false) [.tmp 15]⟩, ⟨some 17, none, .pur (.bin .add) [.tmp 11, .tmp 16]⟩, ⟨some 3, none, .pur .mov [.tmp 17]⟩]) [3])
  (.seq (.reg (straight [⟨some 18, none, .pur .mov [.tmp 4]⟩, ⟨some 19, none, .pur (.bin .gtr) [.tmp 18, .const (.int .i64 102)]⟩, ⟨some 20, none, .pur .mov [.tmp 19]⟩, ⟨some 21, some (20, false), .pur .mov [.tmp 0]⟩, ⟨some 22, some (20, false), .pur .mov [.tmp 4]⟩, ⟨some 23, some (20, false), .pur (.ixa 1) [.tmp 21, .tmp 22]⟩, ⟨some 24, some (20, false), .ld none (.tmp 23)⟩, ⟨some 25, some (20, false), .pur (.len false) [.tmp 24]⟩, ⟨some 26, some (20, false), .pur (.bin .gtr) [.tmp 25, .const (.int .i64 102)]⟩, ⟨some 27, none, .pur .pick [.tmp 20, .const (.bool true), .tmp 26]⟩, ⟨some 28, none, .pur .mov [.tmp 27]⟩, ⟨some 29, some (28, false), .pur .mov [.tmp 3]⟩, ⟨some 30, some (28, false), .pur (.bin .gtr) [.tmp 29, .const (.int .i64 300)]⟩, ⟨some 31, none, .pur .pick [.tmp 28, .const (.bool true), .tmp 30]⟩]) [31])
  (.cond (.tmp 31) (.seq (.reg (straight [⟨some 2, none, .pur .mov [.const (.bool true)]⟩]) [2])
  (.ret)) (.skip)))))
  (.reg (straight [⟨some 9, none, .pur .mov [.tmp 4]⟩, ⟨some 10, none, .pur (.bin .add) [.tmp 9, .const (.int .i64 1)]⟩, ⟨some 4, none, .pur .mov [.tmp 10]⟩]) [4]))
def S_forebaylaw33_great : Fun := ⟨32, [2, 4, 0, 8, 3, 31], [.tmp 2],
  .seq (.reg (straight [⟨some 2, none, .pur .mov [.const (.bool false)]⟩]) [2])
  (.seq (.reg (straight [⟨some 3, none, .pur .mov [.const (.int .i64 0)]⟩]) [3])
  (.seq (.seq (.reg (straight [⟨some 4, none, .pur .mov [.const (.int .i64 0)]⟩]) [4])
  (.block 0 (.loop S_forebaylaw33_great_L1)))
  (.seq (.reg (straight [⟨some 2, none, .pur .mov [.const (.bool false)]⟩]) [2])
  (.ret))))⟩
theorem K_forebaylaw33_great : compF Try.prog 34 = some S_forebaylaw33_great := by kernel_rfl

-- 35
def S_forebayref33_Check_L2 : SCode :=
  .seq (.seq (.reg (straight [⟨some 25, none, .pur .mov [.tmp 5]⟩, ⟨some 26, none, .pur .mov [.tmp 4]⟩, ⟨some 27, none, .pur (.len false) [.tmp 26]⟩, ⟨some 28, none, .pur (.bin .lss) [.tmp 25, .tmp 27]⟩]) [28])
  (.cond (.tmp 28) (.skip) (.exit 2)))
  (.seq (.block 3 (.seq (.reg (straight [⟨some 31, none, .pur .mov [.tmp 5]⟩, ⟨some 32, none, .pur (.bin .eql) [.tmp 31, .const (.int .i64 0)]⟩, ⟨some 33, none, .pur .mov [.tmp 32]⟩, ⟨some 34, some (33, true), .pur .mov [.tmp 4]⟩, ⟨some 35, some (33, true), .pur (.ixa 2) [.tmp 34, .const (.int .i64 0)]⟩, ⟨some 36, some (33, true), .pur (.fla 0) [.tmp 35]⟩, ⟨some 37, some (33, true), .ld none (.tmp 36)⟩, ⟨some 38, some (33, true), .pur (.bin .neq) [.tmp 37, .const (.int .i64 0)]⟩, ⟨some 39, some (33, true), .pur .mov [.tmp 38]⟩, ⟨some 40, some (39, false), .pur .mov [.tmp 4]⟩, ⟨some 41, some (39, false), .pur (.ixa 2) [.tmp 40, .const (.int .i64 0)]⟩, ⟨some 42, some (39, false), .pur (.fla 1) [.tmp 41]⟩, ⟨some 43, some (39, false), .ld none (.tmp 42)⟩, ⟨some 44, some (33, true), .pur .pick [.tmp 39, .const (.bool true), .tmp 43]⟩, ⟨some 45, none, .pur .pick [.tmp 33, .tmp 44, .const (.bool false)]⟩, ⟨some 46, none, .pur .mov [.tmp 45]⟩, ⟨some 47, some (46, false), .pur .mov [.tmp 5]⟩, ⟨some 48, some (46, false), .pur (.bin .gtr) [.tmp 47, .const (.int .i64 0)]⟩, ⟨some 49, some (46, false), .pur .mov [.tmp 48]⟩, ⟨some 50, some (49, true), .pur .mov [.tmp 4]⟩, ⟨some 51, some (49, true), .pur .mov [.tmp 5]⟩, ⟨some 52, some (49, true), .pur (.ixa 2) [.tmp 50, .tmp 51]⟩, ⟨some 53, some (49, true), .pur (.fla 0) [.tmp 52]⟩, ⟨some 54, some (49, true), .ld none (.tmp 53)⟩, ⟨some 55, some (49, true), .pur .mov [.tmp 4]⟩, ⟨some 56, some (49, true), .pur .mov [.tmp 5]⟩, ⟨some 57, some (49, true), .pur (.bin .sub) [.tmp 56, .const (.int .i64 1)]⟩, ⟨some 58, some (49, true), .pur (.ixa 2) [.tmp 55, .tmp 57]⟩, ⟨some 59, some (49, true), .pur (.fla 0) [.tmp 58]⟩, ⟨some 60, some (49, true), .ld none (.tmp 59)⟩, ⟨some 61, some (49, true), .pur (.bin .leq) [.tmp 54, .tmp 60]⟩, ⟨some 62, some (46, false), .pur .pick [.tmp 49, .tmp 61, .const (.bool false)]⟩, ⟨some 63, none, .pur .pick [.tmp 46, .const (.bool true), .tmp 62]⟩, ⟨some 64, none, .pur .mov [.tmp 63]⟩, ⟨some 65, some (64, false), .pur .mov [.tmp 4]⟩, ⟨some 66, some (64, false), .pur .mov [.tmp 5]⟩, ⟨some 67, some (64, false), .pur (.ixa 2) [.tmp 65, .tmp 66]⟩, ⟨some 68, some (64, false), .pur (.fla 0) [.tmp 67]⟩, ⟨some 69, some (64, false), .ld none (.tmp 68)⟩, ⟨some 70, some (64, false), .pur (.bin .gtr) [.tmp 69, .const (.int .i64 1048575)]⟩, ⟨some 71, none, .pur .pick [.tmp 64, .const (.bool true), .tmp 70]⟩]) [71])
  (.cond (.tmp 71) (.seq (.reg (straight [⟨some 2, none, .pur .mov [.const (.int .i64 4)]⟩]) [2])
  (.ret)) (.skip))))
  (.reg (straight [⟨some 29, none, .pur .mov [.tmp 5]⟩, ⟨some 30, none, .pur (.bin .add) [.tmp 29, .const (.int .i64 1)]⟩, ⟨some 5, none, .pur .mov [.tmp 30]⟩]) [5]))
def S_forebayref33_Check_L1 : SCode :=
  .seq (.seq (.reg (straight [⟨some 9, none, .pur .mov [.tmp 3]⟩, ⟨some 10, none, .pur .mov [.tmp 0]⟩, ⟨some 11, none, .pur (.len false) [.tmp 10]⟩, ⟨some 12, none, .pur (.bin .lss) [.tmp 9, .tmp 11]⟩]) [12])
  (.cond (.tmp 12) (.skip) (.exit 0)))
  (.seq (.block 1 (.seq (.reg (straight [⟨some 15, none, .pur .mov [.tmp 0]⟩, ⟨some 16, none, .pur .mov [.tmp 3]⟩, ⟨some 17, none, .pur (.ixa 1) [.tmp 15, .tmp 16]⟩, ⟨some 18, none, .ld none (.tmp 17)⟩, ⟨some 4, none, .pur .mov [.tmp 18]⟩]) [4])
  (.seq (.seq (.reg (straight [⟨some 19, none, .pur .mov [.tmp 4]⟩, ⟨some 20, none, .pur (.len false) [.tmp 19]⟩, ⟨some 21, none, .pur (.bin .gtr) [.tmp 20, .const (.int .i64 100)]⟩]) [21])
  (.cond (.tmp 21) (.seq (.reg (straight [⟨some 2, none, .pur .mov [.const (.int .i64 9)]⟩]) [2])
  (.ret)) (.skip)))
  (.seq (.seq (.reg (straight [⟨some 22, none, .pur .mov [.tmp 4]⟩, ⟨some 23, none, .pur (.len false) [.tmp 22]⟩, ⟨some 24, none, .pur (.bin .eql) [.tmp 23, .const (.int .i64 0)]⟩]) [24])
  (.cond (.tmp 24) (.seq (.reg (straight [⟨some 2, none, .pur .mov [.const (.int .i64 7)]⟩]) [2])
  (.ret)) (.skip)))
  (.seq (.reg (straight [⟨some 5, none, .pur .mov [.const (.int .i64 0)]⟩]) [5])
  (.block 2 (.loop S_forebayref33_Check_L2)))))))
  (.reg (straight [⟨some 13, none, .pur .mov [.tmp 3]⟩, ⟨some 14, none, .pur (.bin .add) [.tmp 13, .const (.int .i64 1)]⟩, ⟨some 3, none, .pur .mov [.tmp 14]⟩]) [3]))
def S_forebayref33_Check : Fun := ⟨72, [2, 0, 8, 3, 12, 4, 21, 24, 5, 28, 71], [.tmp 2],
  .seq (.reg (straight [⟨some 2, none, .pur .mov [.const (.int .i64 0)]⟩]) [2])
  (.seq (.seq (.reg (straight [⟨some 6, none, .pur .mov [.tmp 0]⟩, ⟨some 7, none, .pur (.len false) [.tmp 6]⟩, ⟨some 8, none, .pur (.bin .gtr) [.tmp 7, .const (.int .i64 100)]⟩]) [8])
  (.cond (.tmp 8) (.seq (.reg (straight [⟨some 2, none, .pur .mov [.const (.int .i64 9)]⟩]) [2])
  (.ret)) (.skip)))
  (.seq (.seq (.reg (straight [⟨some 3, none, .pur .mov [.const (.int .i64 0)]⟩]) [3])
  (.block 0 (.loop S_forebayref33_Check_L1)))
  (.seq (.reg (straight [⟨some 2, none, .pur .mov [.const (.int .i64 0)]⟩]) [2])
  (.ret))))⟩
theorem K_forebayref33_Check : compF Try.prog 35 = some S_forebayref33_Check := by kernel_rfl

-- 39
def S_grid_Before_L1 : SCode :=
  .seq (.reg (straight [⟨some 30, none, .pur (.bin .lss) [.tmp 29, .tmp 28]⟩]) [30])
  (.seq (.cond (.tmp 30) (.skip) (.exit 0))
  (.seq (.block 1 (.seq (.reg (straight [⟨some 31, none, .pur (.ixa 2) [.tmp 27, .tmp 29]⟩, ⟨some 32, none, .ld (some 2) (.tmp 31)⟩, ⟨some 11, none, .eff (.new 107 [.complex .f64 0 0, .complex .f64 0 0]) []⟩, ⟨none, none, .eff (.st 2) [.tmp 11, .tmp 32]⟩]) [11])
  (.seq (.reg (straight [⟨some 33, none, .pur .mov [.tmp 9]⟩, ⟨some 34, none, .pur (.ixaA 2 1) [.tmp 11, .const (.int .i64 0)]⟩, ⟨some 35, none, .ld none (.tmp 34)⟩, ⟨some 36, none, .eff (.mlk (.complex .f64) (.int .i64 0)) [.tmp 33, .tmp 35]⟩, ⟨some 37, none, .pur (.bin .gtr) [.tmp 36, .const (.int .i64 0)]⟩]) [37])
  (.cond (.tmp 37) (.reg (straight [⟨some 38, none, .pur .mov [.tmp 9]⟩, ⟨some 39, none, .pur (.ixaA 2 1) [.tmp 11, .const (.int .i64 1)]⟩, ⟨some 40, none, .ld none (.tmp 39)⟩, ⟨some 41, none, .eff (.mlk (.complex .f64) (.int .i64 0)) [.tmp 38, .tmp 40]⟩, ⟨some 42, none, .pur (.bin .add) [.tmp 41, .const (.int .i64 1)]⟩, ⟨none, none, .eff (.mup (.complex .f64)) [.tmp 38, .tmp 40, .tmp 42]⟩]) []) (.skip)))))
  (.reg (straight [⟨some 43, none, .pur (.bin .add) [.tmp 29, .const (.int .i64 1)]⟩, ⟨some 29, none, .pur .mov [.tmp 43]⟩]) [29])))
def S_grid_Before : Fun := ⟨48, [6, 0, 8, 1, 2, 23, 7, 29, 28, 30, 27, 9, 11, 37], [.tmp 6],
  .seq (.reg (straight [⟨some 6, none, .pur .mov [.const (.bool false)]⟩]) [6])
  (.seq (.reg (straight [⟨some 13, none, .pur .mov [.tmp 0]⟩, ⟨some 14, none, .eff (.call 55) [.tmp 13]⟩, ⟨some 12, none, .pur .mov [.tmp 14]⟩, ⟨some 15, none, .pur (.ext 0) [.tmp 12]⟩, ⟨some 16, none, .pur (.ext 1) [.tmp 12]⟩, ⟨some 7, none, .pur .mov [.tmp 15]⟩, ⟨some 8, none, .pur .mov [.tmp 16]⟩]) [7, 8])
  (.seq (.seq (.reg (straight [⟨some 17, none, .pur .mov [.tmp 8]⟩, ⟨some 18, none, .pur (.bin .neq) [.tmp 17, .const (.int .i64 0)]⟩, ⟨some 19, none, .pur .mov [.tmp 18]⟩, ⟨some 20, some (19, false), .pur .mov [.tmp 1]⟩, ⟨some 21, some (19, false), .pur .mov [.tmp 2]⟩, ⟨some 22, some (19, false), .pur (.bin .eql) [.tmp 20, .tmp 21]⟩, ⟨some 23, none, .pur .pick [.tmp 19, .const (.bool true), .tmp 22]⟩]) [23])
  (.cond (.tmp 23) (.seq (.reg (straight [⟨some 6, none, .pur .mov [.const (.bool false)]⟩]) [6])
  (.ret)) (.skip)))
  (.seq (.reg (straight [⟨some 24, none, .eff .mkm []⟩, ⟨some 25, none, .pur .mov [.tmp 1]⟩, ⟨none, none, .eff (.mup (.complex .f64)) [.tmp 24, .tmp 25, .const (.int .i64 1)]⟩, ⟨some 26, none, .pur .mov [.tmp 24]⟩, ⟨some 9, none, .pur .mov [.tmp 26]⟩]) [9])
  (.seq (.seq (.reg (straight [⟨some 27, none, .pur .mov [.tmp 7]⟩, ⟨some 28, none, .pur (.len false) [.tmp 27]⟩, ⟨some 29, none, .pur .mov [.const (.int .i64 0)]⟩]) [27, 28, 29])
  (.block 0 (.loop S_grid_Before_L1)))
  (.seq (.reg (straight [⟨some 44, none, .pur .mov [.tmp 9]⟩, ⟨some 45, none, .pur .mov [.tmp 2]⟩, ⟨some 46, none, .eff (.mlk (.complex .f64) (.int .i64 0)) [.tmp 44, .tmp 45]⟩, ⟨some 47, none, .pur (.bin .gtr) [.tmp 46, .const (.int .i64 0)]⟩, ⟨some 6, none, .pur .mov [.tmp 47]⟩]) [6])
  (.ret))))))⟩
theorem K_grid_Before : compF Try.prog 39 = some S_grid_Before := by kernel_rfl

-- 40
def S_forebaylaw33_own_L1 : SCode :=
  .seq (.seq (.reg (straight [⟨some 5, none, .pur .mov [.tmp 4]⟩, ⟨some 6, none, .pur .mov [.tmp 0]⟩, ⟨some 7, none, .pur (.len false) [.tmp 6]⟩, ⟨some 8, none, .pur (.bin .lss) [.tmp 5, .tmp 7]⟩]) [8])
  (.cond (.tmp 8) (.skip) (.exit 0)))
  (.seq (.block 1 (.reg (straight [⟨some 11, none, .pur .mov [.tmp 3]⟩, ⟨some 12, none, .eff (.bsl 47 2) []⟩, ⟨some 13, none, .pur .mov [.tmp 0]⟩, ⟨some 14, none, .pur .mov [.tmp 4]⟩, ⟨some 15, none, .pur (.ixa 1) [.tmp 13, .tmp 14]⟩, ⟨some 16, none, .ld none (.tmp 15)⟩, ⟨some 17, none, .eff (.app 47 2 16 [.int .i64 0, .bool false]) [.tmp 12, .tmp 16]⟩, ⟨some 18, none, .eff (.bsl 45 1) [.tmp 17]⟩, ⟨some 19, none, .eff (.app 45 1 24 [.slice none 0 0]) [.tmp 11, .tmp 18]⟩, ⟨some 3, none, .pur .mov [.tmp 19]⟩]) [3]))
  (.reg (straight [⟨some 9, none, .pur .mov [.tmp 4]⟩, ⟨some 10, none, .pur (.bin .add) [.tmp 9, .const (.int .i64 1)]⟩, ⟨some 4, none, .pur .mov [.tmp 10]⟩]) [4]))
def S_forebaylaw33_own : Fun := ⟨21, [2, 4, 0, 8, 3], [.tmp 2],
  .seq (.reg (straight [⟨some 2, none, .pur .mov [.const (.slice none 0 0)]⟩]) [2])
  (.seq (.reg (straight [⟨some 3, none, .pur .mov [.const (.slice none 0 0)]⟩]) [3])
  (.seq (.seq (.reg (straight [⟨some 4, none, .pur .mov [.const (.int .i64 0)]⟩]) [4])
  (.block 0 (.loop S_forebaylaw33_own_L1)))
  (.seq (.reg (straight [⟨some 20, none, .pur .mov [.tmp 3]⟩, ⟨some 2, none, .pur .mov [.tmp 20]⟩]) [2])
  (.ret))))⟩
theorem K_forebaylaw33_own : compF Try.prog 40 = some S_forebaylaw33_own := by kernel_rfl

-- 55
def S_grid_Edges_L3 : SCode :=
  .seq (.reg (straight [⟨some 37, none, .pur (.bin .lss) [.tmp 36, .tmp 35]⟩]) [37])
  (.seq (.cond (.tmp 37) (.skip) (.exit 4))
  (.seq (.block 5 (.seq (.reg (straight [⟨some 38, none, .pur (.ixa 1) [.tmp 34, .tmp 36]⟩, ⟨some 39, none, .ld none (.tmp 38)⟩, ⟨some 11, none, .pur .mov [.tmp 39]⟩]) [11])
  (.reg (straight [⟨some 40, none, .pur .mov [.tmp 5]⟩, ⟨some 41, none, .pur .mov [.tmp 11]⟩, ⟨some 42, none, .pur .mov [.tmp 6]⟩, ⟨some 43, none, .pur (.fla 0) [.tmp 9]⟩, ⟨some 44, none, .ld none (.tmp 43)⟩, ⟨some 45, none, .eff (.call 24) [.tmp 42, .tmp 44]⟩, ⟨some 46, none, .pur (.bld [.complex .f64 0 0, .complex .f64 0 0] [(0, 1), (1, 1)]) [.tmp 41, .tmp 45]⟩, ⟨some 47, none, .eff (.bsl 107 2) [.tmp 46]⟩, ⟨some 48, none, .eff (.app 107 2 32 [.complex .f64 0 0, .complex .f64 0 0]) [.tmp 40, .tmp 47]⟩, ⟨some 5, none, .pur .mov [.tmp 48]⟩]) [5])))
  (.reg (straight [⟨some 49, none, .pur (.bin .add) [.tmp 36, .const (.int .i64 1)]⟩, ⟨some 36, none, .pur .mov [.tmp 49]⟩]) [36])))
def S_grid_Edges_L2 : SCode :=
  .seq (.reg (straight [⟨some 27, none, .pur (.bin .lss) [.tmp 26, .tmp 25]⟩]) [27])
  (.seq (.cond (.tmp 27) (.skip) (.exit 2))
  (.seq (.block 3 (.seq (.reg (straight [⟨some 28, none, .pur .mov [.tmp 26]⟩, ⟨some 29, none, .pur (.ixa 2) [.tmp 24, .tmp 26]⟩, ⟨some 30, none, .ld (some 2) (.tmp 29)⟩, ⟨some 9, none, .eff (.new 47 [.int .i64 0, .bool false]) []⟩, ⟨some 8, none, .pur .mov [.tmp 28]⟩, ⟨none, none, .eff (.st 2) [.tmp 9, .tmp 30]⟩]) [9, 8])
  (.seq (.reg (straight [⟨some 31, none, .pur .mov [.tmp 0]⟩, ⟨some 32, none, .pur .mov [.tmp 6]⟩, ⟨some 33, none, .pur .mov [.tmp 8]⟩, ⟨some 34, none, .eff (.call 89) [.tmp 31, .tmp 32, .tmp 33]⟩, ⟨some 35, none, .pur (.len false) [.tmp 34]⟩, ⟨some 36, none, .pur .mov [.const (.int .i64 0)]⟩]) [34, 35, 36])
  (.block 4 (.loop S_grid_Edges_L3)))))
  (.reg (straight [⟨some 50, none, .pur (.bin .add) [.tmp 26, .const (.int .i64 1)]⟩, ⟨some 26, none, .pur .mov [.tmp 50]⟩]) [26])))
def S_grid_Edges_L1 : SCode :=
  .seq (.reg (straight [⟨some 20, none, .pur (.bin .lss) [.tmp 19, .tmp 18]⟩]) [20])
  (.seq (.cond (.tmp 20) (.skip) (.exit 0))
  (.seq (.block 1 (.seq (.reg (straight [⟨some 21, none, .pur .mov [.tmp 19]⟩, ⟨some 22, none, .pur (.ixa 1) [.tmp 17, .tmp 19]⟩, ⟨some 23, none, .ld none (.tmp 22)⟩, ⟨some 6, none, .pur .mov [.tmp 21]⟩, ⟨some 7, none, .pur .mov [.tmp 23]⟩]) [6, 7])
  (.seq (.reg (straight [⟨some 24, none, .pur .mov [.tmp 7]⟩, ⟨some 25, none, .pur (.len false) [.tmp 24]⟩, ⟨some 26, none, .pur .mov [.const (.int .i64 0)]⟩]) [24, 25, 26])
  (.block 2 (.loop S_grid_Edges_L2)))))
  (.reg (straight [⟨some 51, none, .pur (.bin .add) [.tmp 19, .const (.int .i64 1)]⟩, ⟨some 19, none, .pur .mov [.tmp 51]⟩]) [19])))
def S_grid_Edges : Fun := ⟨53, [2, 3, 0, 4, 15, 19, 18, 20, 17, 7, 26, 25, 27, 24, 6, 8, 36, 35, 37, 34, 5, 11, 9], [.tmp 2, .tmp 3],
  .seq (.reg (straight [⟨some 2, none, .pur .mov [.const (.slice none 0 0)]⟩, ⟨some 3, none, .pur .mov [.const (.int .i64 0)]⟩]) [2, 3])
  (.seq (.seq (.reg (straight [⟨some 12, none, .pur .mov [.tmp 0]⟩, ⟨some 13, none, .eff (.call 88) [.tmp 12]⟩, ⟨some 4, none, .pur .mov [.tmp 13]⟩]) [4])
  (.seq (.reg (straight [⟨some 14, none, .pur .mov [.tmp 4]⟩, ⟨some 15, none, .pur (.bin .neq) [.tmp 14, .const (.int .i64 0)]⟩]) [15])
  (.cond (.tmp 15) (.seq (.reg (straight [⟨some 16, none, .pur .mov [.tmp 4]⟩, ⟨some 2, none, .pur .mov [.const (.slice none 0 0)]⟩, ⟨some 3, none, .pur .mov [.tmp 16]⟩]) [2, 3])
  (.ret)) (.skip))))
  (.seq (.reg (straight [⟨some 5, none, .pur .mov [.const (.slice none 0 0)]⟩]) [5])
  (.seq (.seq (.reg (straight [⟨some 17, none, .pur .mov [.tmp 0]⟩, ⟨some 18, none, .pur (.len false) [.tmp 17]⟩, ⟨some 19, none, .pur .mov [.const (.int .i64 0)]⟩]) [17, 18, 19])
  (.block 0 (.loop S_grid_Edges_L1)))
  (.seq (.reg (straight [⟨some 52, none, .pur .mov [.tmp 5]⟩, ⟨some 2, none, .pur .mov [.tmp 52]⟩, ⟨some 3, none, .pur .mov [.const (.int .i64 0)]⟩]) [2, 3])
  (.ret)))))⟩
theorem K_grid_Edges : compF Try.prog 55 = some S_grid_Edges := by kernel_rfl

-- 56
def S_forebayref33_Edges_L3 : SCode :=
  .seq (.seq (.reg (straight [⟨some 79, none, .pur .mov [.tmp 0]⟩, ⟨some 80, none, .pur .mov [.tmp 4]⟩, ⟨some 81, none, .pur (.bin .sub) [.tmp 80, .const (.int .i64 1)]⟩, ⟨some 82, none, .pur (.ixa 1) [.tmp 79, .tmp 81]⟩, ⟨some 83, none, .ld none (.tmp 82)⟩, ⟨some 84, none, .pur .mov [.tmp 7]⟩, ⟨some 85, none, .pur (.ixa 2) [.tmp 83, .tmp 84]⟩, ⟨some 86, none, .pur (.fla 0) [.tmp 85]⟩, ⟨some 87, none, .ld none (.tmp 86)⟩, ⟨some 88, none, .pur (.fla 0) [.tmp 6]⟩, ⟨some 89, none, .ld none (.tmp 88)⟩, ⟨some 90, none, .pur (.bin .gtr) [.tmp 87, .tmp 89]⟩]) [90])
  (.cond (.tmp 90) (.skip) (.exit 4)))
  (.block 5 (.reg (straight [⟨some 91, none, .pur .mov [.tmp 7]⟩, ⟨some 92, none, .pur (.bin .sub) [.tmp 91, .const (.int .i64 1)]⟩, ⟨some 7, none, .pur .mov [.tmp 92]⟩]) [7]))
def S_forebayref33_Edges_L2 : SCode :=
  .seq (.seq (.reg (straight [⟨some 14, none, .pur .mov [.tmp 5]⟩, ⟨some 15, none, .pur .mov [.tmp 0]⟩, ⟨some 16, none, .pur .mov [.tmp 4]⟩, ⟨some 17, none, .pur (.ixa 1) [.tmp 15, .tmp 16]⟩, ⟨some 18, none, .ld none (.tmp 17)⟩, ⟨some 19, none, .pur (.len false) [.tmp 18]⟩, ⟨some 20, none, .pur (.bin .lss) [.tmp 14, .tmp 19]⟩]) [20])
  (.cond (.tmp 20) (.skip) (.exit 2)))
  (.seq (.block 3 (.seq (.reg (straight [⟨some 23, none, .pur .mov [.tmp 0]⟩, ⟨some 24, none, .pur .mov [.tmp 4]⟩, ⟨some 25, none, .pur (.ixa 1) [.tmp 23, .tmp 24]⟩, ⟨some 26, none, .ld none (.tmp 25)⟩, ⟨some 27, none, .pur .mov [.tmp 5]⟩, ⟨some 28, none, .pur (.ixa 2) [.tmp 26, .tmp 27]⟩, ⟨some 29, none, .ld (some 2) (.tmp 28)⟩, ⟨some 6, none, .eff (.new 47 [.int .i64 0, .bool false]) []⟩, ⟨none, none, .eff (.st 2) [.tmp 6, .tmp 29]⟩]) [6])
  (.seq (.seq (.reg (straight [⟨some 30, none, .pur .mov [.tmp 5]⟩, ⟨some 31, none, .pur (.bin .gtr) [.tmp 30, .const (.int .i64 0)]⟩]) [31])
  (.cond (.tmp 31) (.reg (.run ⟨some 32, none, .pur .mov [.tmp 3]⟩ (.run ⟨some 33, none, .pur .mov [.tmp 4]⟩ (.run ⟨some 34, none, .pur .mov [.tmp 0]⟩ (.run ⟨some 35, none, .pur .mov [.tmp 4]⟩ (.run ⟨some 36, none, .pur (.ixa 1) [.tmp 34, .tmp 35]⟩ (.run ⟨some 37, none, .ld none (.tmp 36)⟩ (.run ⟨some 38, none, .pur .mov [.tmp 5]⟩ (.run ⟨some 39, none, .pur (.bin .sub) [.tmp 38, .const (.int .i64 1)]⟩ (.run ⟨some 40, none, .pur (.ixa 2) [.tmp 37, .tmp 39]⟩ (.run ⟨some 41, none, .pur (.fla 0) [.tmp 40]⟩ (.run ⟨some 42, none, .ld none (.tmp 41)⟩ (.run ⟨some 43, none, .pur .mov [.tmp 4]⟩ (.run ⟨some 44, none, .pur (.fla 0) [.tmp 6]⟩ (.run ⟨some 45, none, .ld none (.tmp 44)⟩ (.run ⟨some 46, none, .pur (.bld [.int .i64 0, .int .i64 0, .int .i64 0, .int .i64 0] [(0, 1), (1, 1), (2, 1), (3, 1)]) [.tmp 33, .tmp 42, .tmp 43, .tmp 45]⟩ (.eff ⟨some 47, none, .eff (.bsl 112 4) [.tmp 46]⟩ [] (.eff ⟨some 48, none, .eff (.app 112 4 32 [.int .i64 0, .int .i64 0, .int .i64 0, .int .i64 0]) [.tmp 32, .tmp 47]⟩ [] (.eff ⟨some 3, none, .pur .mov [.tmp 48]⟩ [] .done)))))))))))))))))) [3]) (.skip)))
  (.seq (.seq (.reg (straight [⟨some 49, none, .pur .mov [.tmp 4]⟩, ⟨some 50, none, .pur (.bin .gtr) [.tmp 49, .const (.int .i64 0)]⟩, ⟨some 51, none, .pur .mov [.tmp 50]⟩, ⟨some 52, some (51, true), .pur .mov [.tmp 5]⟩, ⟨some 53, some (51, true), .pur (.bin .eql) [.tmp 52, .const (.int .i64 0)]⟩, ⟨some 54, none, .pur .pick [.tmp 51, .tmp 53, .const (.bool false)]⟩]) [54])
  (.cond (.tmp 54) (.reg (straight [⟨some 55, none, .pur .mov [.tmp 3]⟩, ⟨some 56, none, .pur .mov [.tmp 4]⟩, ⟨some 57, none, .pur (.bin .sub) [.tmp 56, .const (.int .i64 1)]⟩, ⟨some 58, none, .pur .mov [.tmp 4]⟩, ⟨some 59, none, .pur (.bld [.int .i64 0, .int .i64 0, .int .i64 0, .int .i64 0] [(0, 1), (1, 1), (2, 1), (3, 1)]) [.tmp 57, .const (.int .i64 0), .tmp 58, .const (.int .i64 0)]⟩, ⟨some 60, none, .eff (.bsl 112 4) [.tmp 59]⟩, ⟨some 61, none, .eff (.app 112 4 32 [.int .i64 0, .int .i64 0, .int .i64 0, .int .i64 0]) [.tmp 55, .tmp 60]⟩, ⟨some 3, none, .pur .mov [.tmp 61]⟩]) [3]) (.skip)))
  (.seq (.reg (straight [⟨some 62, none, .pur .mov [.tmp 4]⟩, ⟨some 63, none, .pur (.bin .gtr) [.tmp 62, .const (.int .i64 0)]⟩, ⟨some 64, none, .pur .mov [.tmp 63]⟩, ⟨some 65, some (64, true), .pur .mov [.tmp 5]⟩, ⟨some 66, some (64, true), .pur (.bin .gtr) [.tmp 65, .const (.int .i64 0)]⟩, ⟨some 67, none, .pur .pick [.tmp 64, .tmp 66, .const (.bool false)]⟩, ⟨some 68, none, .pur .mov [.tmp 67]⟩, ⟨some 69, some (68, true), .pur (.fla 1) [.tmp 6]⟩, ⟨some 70, some (68, true), .ld none (.tmp 69)⟩, ⟨some 71, none, .pur .pick [.tmp 68, .tmp 70, .const (.bool false)]⟩]) [71])
  (.cond (.tmp 71) (.seq (.reg (straight [⟨some 72, none, .pur .mov [.tmp 0]⟩, ⟨some 73, none, .pur .mov [.tmp 4]⟩, ⟨some 74, none, .pur (.bin .sub) [.tmp 73, .const (.int .i64 1)]⟩, ⟨some 75, none, .pur (.ixa 1) [.tmp 72, .tmp 74]⟩, ⟨some 76, none, .ld none (.tmp 75)⟩, ⟨some 77, none, .pur (.len false) [.tmp 76]⟩, ⟨some 78, none, .pur (.bin .sub) [.tmp 77, .const (.int .i64 1)]⟩, ⟨some 7, none, .pur .mov [.tmp 78]⟩]) [7])
  (.seq (.block 4 (.loop S_forebayref33_Edges_L3))
  (.reg (.run ⟨some 93, none, .pur .mov [.tmp 3]⟩ (.run ⟨some 94, none, .pur .mov [.tmp 4]⟩ (.run ⟨some 95, none, .pur (.bin .sub) [.tmp 94, .const (.int .i64 1)]⟩ (.run ⟨some 96, none, .pur .mov [.tmp 0]⟩ (.run ⟨some 97, none, .pur .mov [.tmp 4]⟩ (.run ⟨some 98, none, .pur (.bin .sub) [.tmp 97, .const (.int .i64 1)]⟩ (.run ⟨some 99, none, .pur (.ixa 1) [.tmp 96, .tmp 98]⟩ (.run ⟨some 100, none, .ld none (.tmp 99)⟩ (.run ⟨some 101, none, .pur .mov [.tmp 7]⟩ (.run ⟨some 102, none, .pur (.ixa 2) [.tmp 100, .tmp 101]⟩ (.run ⟨some 103, none, .pur (.fla 0) [.tmp 102]⟩ (.run ⟨some 104, none, .ld none (.tmp 103)⟩ (.run ⟨some 105, none, .pur .mov [.tmp 4]⟩ (.run ⟨some 106, none, .pur (.fla 0) [.tmp 6]⟩ (.run ⟨some 107, none, .ld none (.tmp 106)⟩ (.run ⟨some 108, none, .pur (.bld [.int .i64 0, .int .i64 0, .int .i64 0, .int .i64 0] [(0, 1), (1, 1), (2, 1), (3, 1)]) [.tmp 95, .tmp 104, .tmp 105, .tmp 107]⟩ (.eff ⟨some 109, none, .eff (.bsl 112 4) [.tmp 108]⟩ [] (.eff ⟨some 110, none, .eff (.app 112 4 32 [.int .i64 0, .int .i64 0, .int .i64 0, .int .i64 0]) [.tmp 93, .tmp 109]⟩ [] (.eff ⟨some 3, none, .pur .mov [.tmp 110]⟩ [] .done))))))))))))))))))) [3]))) (.skip)))))))
  (.reg (straight [⟨some 21, none, .pur .mov [.tmp 5]⟩, ⟨some 22, none, .pur (.bin .add) [.tmp 21, .const (.int .i64 1)]⟩, ⟨some 5, none, .pur .mov [.tmp 22]⟩]) [5]))
def S_forebayref33_Edges_L1 : SCode :=
  .seq (.seq (.reg (straight [⟨some 8, none, .pur .mov [.tmp 4]⟩, ⟨some 9, none, .pur .mov [.tmp 0]⟩, ⟨some 10, none, .pur (.len false) [.tmp 9]⟩, ⟨some 11, none, .pur (.bin .lss) [.tmp 8, .tmp 10]⟩]) [11])
  (.cond (.tmp 11) (.skip) (.exit 0)))
  (.seq (.block 1 (.seq (.reg (straight [⟨some 5, none, .pur .mov [.const (.int .i64 0)]⟩]) [5])
  (.block 2 (.loop S_forebayref33_Edges_L2))))
  (.reg (straight [⟨some 12, none, .pur .mov [.tmp 4]⟩, ⟨some 13, none, .pur (.bin .add) [.tmp 12, .const (.int .i64 1)]⟩, ⟨some 4, none, .pur .mov [.tmp 13]⟩]) [4]))
def S_forebayref33_Edges : Fun := ⟨112, [2, 4, 0, 11, 5, 20, 31, 3, 6, 54, 71, 7, 90], [.tmp 2],
  .seq (.reg (straight [⟨some 2, none, .pur .mov [.const (.slice none 0 0)]⟩]) [2])
  (.seq (.reg (straight [⟨some 3, none, .pur .mov [.const (.slice none 0 0)]⟩]) [3])
  (.seq (.seq (.reg (straight [⟨some 4, none, .pur .mov [.const (.int .i64 0)]⟩]) [4])
  (.block 0 (.loop S_forebayref33_Edges_L1)))
  (.seq (.reg (straight [⟨some 111, none, .pur .mov [.tmp 3]⟩, ⟨some 2, none, .pur .mov [.tmp 111]⟩]) [2])
  (.ret))))⟩
theorem K_forebayref33_Edges : compF Try.prog 56 = some S_forebayref33_Edges := by kernel_rfl

-- 58
def S_grid_held : Fun := ⟨6, [2, 0], [.tmp 2],
  .seq (.reg (straight [⟨some 2, none, .pur .mov [.const (.int .i64 0)]⟩]) [2])
  (.seq (.reg (straight [⟨some 3, none, .pur .mov [.tmp 0]⟩, ⟨some 4, none, .pur (.minmax true) [.tmp 3, .const (.int .i64 0)]⟩, ⟨some 5, none, .pur (.minmax false) [.tmp 4, .const (.int .i64 1048576)]⟩, ⟨some 2, none, .pur .mov [.tmp 5]⟩]) [2])
  (.ret))⟩
theorem K_grid_held : compF Try.prog 58 = some S_grid_held := by kernel_rfl

-- 68
def S_forebaylaw33_two : Fun := ⟨8, [0], [.tmp 0],
  .seq (.reg (straight [⟨some 0, none, .pur .mov [.const (.slice none 0 0)]⟩]) [0])
  (.seq (.reg (straight [⟨some 1, none, .pur (.bld [.int .i64 0, .bool false] []) []⟩, ⟨some 2, none, .pur (.bld [.int .i64 0, .bool false] [(0, 1)]) [.const (.int .i64 1)]⟩, ⟨some 3, none, .eff (.bsl 47 2) [.tmp 1, .tmp 2]⟩, ⟨some 4, none, .pur (.bld [.int .i64 0, .bool false] []) []⟩, ⟨some 5, none, .pur (.bld [.int .i64 0, .bool false] [(0, 1), (1, 1)]) [.const (.int .i64 1), .const (.bool true)]⟩, ⟨some 6, none, .eff (.bsl 47 2) [.tmp 4, .tmp 5]⟩, ⟨some 7, none, .eff (.bsl 45 1) [.tmp 3, .tmp 6]⟩, ⟨some 0, none, .pur .mov [.tmp 7]⟩]) [0])
  (.ret))⟩
theorem K_forebaylaw33_two : compF Try.prog 68 = some S_forebaylaw33_two := by kernel_rfl

-- 69
def S_grid_Iter : Fun := ⟨6, [2, 0], [.tmp 2],
  .seq (.reg (straight [⟨some 2, none, .pur .mov [.const (.int .i64 0)]⟩]) [2])
  (.seq (.reg (straight [⟨some 3, none, .pur .mov [.tmp 0]⟩, ⟨some 4, none, .pur .re [.tmp 3]⟩, ⟨some 5, none, .eff (.call 103) [.tmp 4]⟩, ⟨some 2, none, .pur .mov [.tmp 5]⟩]) [2])
  (.ret))⟩
theorem K_grid_Iter : compF Try.prog 69 = some S_grid_Iter := by kernel_rfl

-- 70
def S_grid_Stage : Fun := ⟨6, [2, 0], [.tmp 2],
  .seq (.reg (straight [⟨some 2, none, .pur .mov [.const (.int .i64 0)]⟩]) [2])
  (.seq (.reg (straight [⟨some 3, none, .pur .mov [.tmp 0]⟩, ⟨some 4, none, .pur .im [.tmp 3]⟩, ⟨some 5, none, .eff (.call 103) [.tmp 4]⟩, ⟨some 2, none, .pur .mov [.tmp 5]⟩]) [2])
  (.ret))⟩
theorem K_grid_Stage : compF Try.prog 70 = some S_grid_Stage := by kernel_rfl

-- 88
def S_grid_Check_L1 : SCode :=
  .seq (.reg (straight [⟨some 12, none, .pur (.bin .lss) [.tmp 11, .tmp 10]⟩]) [12])
  (.seq (.cond (.tmp 12) (.skip) (.exit 0))
  (.seq (.block 1 (.seq (.reg (straight [⟨some 13, none, .pur (.ixa 1) [.tmp 9, .tmp 11]⟩, ⟨some 14, none, .ld none (.tmp 13)⟩, ⟨some 4, none, .pur .mov [.tmp 14]⟩]) [4])
  (.seq (.reg (straight [⟨some 15, none, .pur .mov [.tmp 4]⟩, ⟨some 16, none, .eff (.call 113) [.tmp 15]⟩, ⟨some 5, none, .pur .mov [.tmp 16]⟩]) [5])
  (.seq (.reg (straight [⟨some 17, none, .pur .mov [.tmp 5]⟩, ⟨some 18, none, .pur (.bin .neq) [.tmp 17, .const (.int .i64 0)]⟩]) [18])
  (.cond (.tmp 18) (.seq (.reg (straight [⟨some 19, none, .pur .mov [.tmp 5]⟩, ⟨some 2, none, .pur .mov [.tmp 19]⟩]) [2])
  (.ret)) (.skip))))))
  (.reg (straight [⟨some 20, none, .pur (.bin .add) [.tmp 11, .const (.int .i64 1)]⟩, ⟨some 11, none, .pur .mov [.tmp 20]⟩]) [11])))
def S_grid_Check : Fun := ⟨21, [2, 0, 8, 11, 10, 12, 9, 4, 5, 18], [.tmp 2],
  .seq (.reg (straight [⟨some 2, none, .pur .mov [.const (.int .i64 0)]⟩]) [2])
  (.seq (.seq (.reg (straight [⟨some 6, none, .pur .mov [.tmp 0]⟩, ⟨some 7, none, .pur (.len false) [.tmp 6]⟩, ⟨some 8, none, .pur (.bin .gtr) [.tmp 7, .const (.int .i64 100)]⟩]) [8])
  (.cond (.tmp 8) (.seq (.reg (straight [⟨some 2, none, .pur .mov [.const (.int .i64 9)]⟩]) [2])
  (.ret)) (.skip)))
  (.seq (.seq (.reg (straight [⟨some 9, none, .pur .mov [.tmp 0]⟩, ⟨some 10, none, .pur (.len false) [.tmp 9]⟩, ⟨some 11, none, .pur .mov [.const (.int .i64 0)]⟩]) [9, 10, 11])
  (.block 0 (.loop S_grid_Check_L1)))
  (.seq (.reg (straight [⟨some 2, none, .pur .mov [.const (.int .i64 0)]⟩]) [2])
  (.ret))))⟩
theorem K_grid_Check : compF Try.prog 88 = some S_grid_Check := by kernel_rfl

-- 89
def S_grid_into_L1 : SCode :=
  .seq (.reg (straight [⟨some 57, none, .pur (.bin .lss) [.tmp 56, .tmp 55]⟩]) [57])
  (.seq (.cond (.tmp 57) (.skip) (.exit 1))
  (.seq (.block 2 (.seq (.reg (straight [⟨some 58, none, .pur (.ixa 2) [.tmp 54, .tmp 56]⟩, ⟨some 59, none, .ld (some 2) (.tmp 58)⟩, ⟨some 11, none, .eff (.new 47 [.int .i64 0, .bool false]) []⟩, ⟨none, none, .eff (.st 2) [.tmp 11, .tmp 59]⟩]) [11])
  (.seq (.reg (straight [⟨some 60, none, .pur (.fla 0) [.tmp 11]⟩, ⟨some 61, none, .ld none (.tmp 60)⟩, ⟨some 62, none, .pur (.fla 0) [.tmp 8]⟩, ⟨some 63, none, .ld none (.tmp 62)⟩, ⟨some 64, none, .pur (.bin .leq) [.tmp 61, .tmp 63]⟩]) [64])
  (.cond (.tmp 64) (.reg (straight [⟨some 65, none, .pur (.fla 0) [.tmp 11]⟩, ⟨some 66, none, .ld none (.tmp 65)⟩, ⟨some 9, none, .pur .mov [.tmp 66]⟩]) [9]) (.skip)))))
  (.reg (straight [⟨some 67, none, .pur (.bin .add) [.tmp 56, .const (.int .i64 1)]⟩, ⟨some 56, none, .pur .mov [.tmp 67]⟩]) [56])))
def S_grid_into : Fun := ⟨76, [6, 0, 1, 2, 20, 7, 35, 38, 8, 47, 56, 55, 57, 54, 11, 64, 9], [.tmp 6],
  .seq (.reg (straight [⟨some 6, none, .pur .mov [.const (.slice none 0 0)]⟩]) [6])
  (.seq (.reg (straight [⟨some 7, none, .pur .mov [.const (.slice none 0 0)]⟩]) [7])
  (.seq (.reg (straight [⟨some 12, none, .pur .mov [.tmp 0]⟩, ⟨some 13, none, .pur .mov [.tmp 1]⟩, ⟨some 14, none, .pur (.ixa 1) [.tmp 12, .tmp 13]⟩, ⟨some 15, none, .ld none (.tmp 14)⟩, ⟨some 16, none, .pur .mov [.tmp 2]⟩, ⟨some 17, none, .pur (.ixa 2) [.tmp 15, .tmp 16]⟩, ⟨some 18, none, .ld (some 2) (.tmp 17)⟩, ⟨some 8, none, .eff (.new 47 [.int .i64 0, .bool false]) []⟩, ⟨none, none, .eff (.st 2) [.tmp 8, .tmp 18]⟩]) [8])
  (.seq (.seq (.reg (straight [⟨some 19, none, .pur .mov [.tmp 2]⟩, ⟨some 20, none, .pur (.bin .gtr) [.tmp 19, .const (.int .i64 0)]⟩]) [20])
  (.cond (.tmp 20) (.reg (straight [⟨some 21, none, .pur .mov [.tmp 7]⟩, ⟨some 22, none, .pur .mov [.tmp 1]⟩, ⟨some 23, none, .pur .mov [.tmp 0]⟩, ⟨some 24, none, .pur .mov [.tmp 1]⟩, ⟨some 25, none, .pur (.ixa 1) [.tmp 23, .tmp 24]⟩, ⟨some 26, none, .ld none (.tmp 25)⟩, ⟨some 27, none, .pur .mov [.tmp 2]⟩, ⟨some 28, none, .pur (.bin .sub) [.tmp 27, .const (.int .i64 1)]⟩, ⟨some 29, none, .pur (.ixa 2) [.tmp 26, .tmp 28]⟩, ⟨some 30, none, .pur (.fla 0) [.tmp 29]⟩, ⟨some 31, none, .ld none (.tmp 30)⟩, ⟨some 32, none, .eff (.call 24) [.tmp 22, .tmp 31]⟩, ⟨some 33, none, .eff (.bsl 48 1) [.tmp 32]⟩, ⟨some 34, none, .eff (.app 48 1 16 [.complex .f64 0 0]) [.tmp 21, .tmp 33]⟩, ⟨some 7, none, .pur .mov [.tmp 34]⟩]) [7]) (.skip)))
  (.seq (.block 0 (.seq (.reg (straight [⟨some 36, none, .pur .mov [.tmp 1]⟩, ⟨some 37, none, .pur (.bin .eql) [.tmp 36, .const (.int .i64 0)]⟩, ⟨some 35, none, .pur .mov [.tmp 37]⟩]) [35])
  (.cond (.tmp 35) (.skip) (.seq (.reg (straight [⟨some 39, none, .pur .mov [.tmp 2]⟩, ⟨some 40, none, .pur (.bin .eql) [.tmp 39, .const (.int .i64 0)]⟩, ⟨some 38, none, .pur .mov [.tmp 40]⟩]) [38])
  (.cond (.tmp 38) (.reg (straight [⟨some 41, none, .pur .mov [.tmp 7]⟩, ⟨some 42, none, .pur .mov [.tmp 1]⟩, ⟨some 43, none, .pur (.bin .sub) [.tmp 42, .const (.int .i64 1)]⟩, ⟨some 44, none, .eff (.call 24) [.tmp 43, .const (.int .i64 0)]⟩, ⟨some 45, none, .eff (.bsl 48 1) [.tmp 44]⟩, ⟨some 46, none, .eff (.app 48 1 16 [.complex .f64 0 0]) [.tmp 41, .tmp 45]⟩, ⟨some 7, none, .pur .mov [.tmp 46]⟩]) [7]) (.seq (.reg (straight [⟨some 48, none, .pur (.fla 1) [.tmp 8]⟩, ⟨some 49, none, .ld none (.tmp 48)⟩, ⟨some 47, none, .pur .mov [.tmp 49]⟩]) [47])
  (.cond (.tmp 47) (.seq (.reg (straight [⟨some 9, none, .pur .mov [.const (.int .i64 0)]⟩]) [9])
  (.seq (.seq (.reg (straight [⟨some 50, none, .pur .mov [.tmp 0]⟩, ⟨some 51, none, .pur .mov [.tmp 1]⟩, ⟨some 52, none, .pur (.bin .sub) [.tmp 51, .const (.int .i64 1)]⟩, ⟨some 53, none, .pur (.ixa 1) [.tmp 50, .tmp 52]⟩, ⟨some 54, none, .ld none (.tmp 53)⟩, ⟨some 55, none, .pur (.len false) [.tmp 54]⟩, ⟨some 56, none, .pur .mov [.const (.int .i64 0)]⟩]) [54, 55, 56])
  (.block 1 (.loop S_grid_into_L1)))
  (.reg (straight [⟨some 68, none, .pur .mov [.tmp 7]⟩, ⟨some 69, none, .pur .mov [.tmp 1]⟩, ⟨some 70, none, .pur (.bin .sub) [.tmp 69, .const (.int .i64 1)]⟩, ⟨some 71, none, .pur .mov [.tmp 9]⟩, ⟨some 72, none, .eff (.call 24) [.tmp 70, .tmp 71]⟩, ⟨some 73, none, .eff (.bsl 48 1) [.tmp 72]⟩, ⟨some 74, none, .eff (.app 48 1 16 [.complex .f64 0 0]) [.tmp 68, .tmp 73]⟩, ⟨some 7, none, .pur .mov [.tmp 74]⟩]) [7]))) (.skip))))))))
  (.seq (.reg (straight [⟨some 75, none, .pur .mov [.tmp 7]⟩, ⟨some 6, none, .pur .mov [.tmp 75]⟩]) [6])
  (.ret))))))⟩
theorem K_grid_into : compF Try.prog 89 = some S_grid_into := by kernel_rfl

-- 103
def S_grid_whole : Fun := ⟨12, [2, 0, 3, 7], [.tmp 2],
  .seq (.reg (straight [⟨some 2, none, .pur .mov [.const (.int .i64 0)]⟩]) [2])
  (.seq (.block 0 (.seq (.reg (straight [⟨some 4, none, .pur .mov [.tmp 0]⟩, ⟨some 5, none, .pur (.bin .gtr) [.tmp 4, .const (.float .f64 0)]⟩, ⟨some 6, none, .pur .not [.tmp 5]⟩, ⟨some 3, none, .pur .mov [.tmp 6]⟩]) [3])
  (.cond (.tmp 3) (.seq (.reg (straight [⟨some 2, none, .pur .mov [.const (.int .i64 0)]⟩]) [2])
  (.ret)) (.seq (.reg (straight [⟨some 8, none, .pur .mov [.tmp 0]⟩, ⟨some 9, none, .pur (.bin .gtr) [.tmp 8, .const (.float .f64 4697254411347427328)]⟩, ⟨some 7, none, .pur .mov [.tmp 9]⟩]) [7])
  (.cond (.tmp 7) (.seq (.reg (straight [⟨some 2, none, .pur .mov [.const (.int .i64 1048576)]⟩]) [2])
  (.ret)) (.skip))))))
  (.seq (.reg (straight [⟨some 10, none, .pur .mov [.tmp 0]⟩, ⟨some 11, none, .pur (.fInt .i64) [.tmp 10]⟩, ⟨some 2, none, .pur .mov [.tmp 11]⟩]) [2])
  (.ret)))⟩
theorem K_grid_whole : compF Try.prog 103 = some S_grid_whole := by kernel_rfl

-- 113
def S_grid_row_L1 : SCode :=
  .seq (.seq (.reg (straight [⟨some 22, none, .pur .mov [.tmp 3]⟩, ⟨some 23, none, .pur .mov [.tmp 0]⟩, ⟨some 24, none, .pur (.len false) [.tmp 23]⟩, ⟨some 25, none, .pur (.bin .lss) [.tmp 22, .tmp 24]⟩]) [25])
  (.cond (.tmp 25) (.skip) (.exit 1)))
  (.seq (.block 2 (.seq (.reg (straight [⟨some 28, none, .pur .mov [.tmp 0]⟩, ⟨some 29, none, .pur .mov [.tmp 3]⟩, ⟨some 30, none, .pur (.ixa 2) [.tmp 28, .tmp 29]⟩, ⟨some 31, none, .pur (.fla 0) [.tmp 30]⟩, ⟨some 32, none, .ld none (.tmp 31)⟩, ⟨some 33, none, .pur .mov [.tmp 0]⟩, ⟨some 34, none, .pur .mov [.tmp 3]⟩, ⟨some 35, none, .pur (.bin .sub) [.tmp 34, .const (.int .i64 1)]⟩, ⟨some 36, none, .pur (.ixa 2) [.tmp 33, .tmp 35]⟩, ⟨some 37, none, .pur (.fla 0) [.tmp 36]⟩, ⟨some 38, none, .ld none (.tmp 37)⟩, ⟨some 39, none, .pur (.bin .leq) [.tmp 32, .tmp 38]⟩, ⟨some 40, none, .pur .mov [.tmp 39]⟩, ⟨some 41, some (40, false), .pur .mov [.tmp 0]⟩, ⟨some 42, some (40, false), .pur .mov [.tmp 3]⟩, ⟨some 43, some (40, false), .pur (.ixa 2) [.tmp 41, .tmp 42]⟩, ⟨some 44, some (40, false), .pur (.fla 0) [.tmp 43]⟩, ⟨some 45, some (40, false), .ld none (.tmp 44)⟩, ⟨some 46, some (40, false), .pur (.bin .gtr) [.tmp 45, .const (.int .i64 1048575)]⟩, ⟨some 47, none, .pur .pick [.tmp 40, .const (.bool true), .tmp 46]⟩]) [47])
  (.cond (.tmp 47) (.seq (.reg (straight [⟨some 2, none, .pur .mov [.const (.int .i64 4)]⟩]) [2])
  (.ret)) (.skip))))
  (.reg (straight [⟨some 26, none, .pur .mov [.tmp 3]⟩, ⟨some 27, none, .pur (.bin .add) [.tmp 26, .const (.int .i64 1)]⟩, ⟨some 3, none, .pur .mov [.tmp 27]⟩]) [3]))
def S_grid_row : Fun := ⟨48, [2, 0, 4, 8, 12, 3, 25, 47], [.tmp 2],
  .seq (.reg (straight [⟨some 2, none, .pur .mov [.const (.int .i64 0)]⟩]) [2])
  (.seq (.block 0 (.seq (.reg (straight [⟨some 5, none, .pur .mov [.tmp 0]⟩, ⟨some 6, none, .pur (.len false) [.tmp 5]⟩, ⟨some 7, none, .pur (.bin .gtr) [.tmp 6, .const (.int .i64 100)]⟩, ⟨some 4, none, .pur .mov [.tmp 7]⟩]) [4])
  (.cond (.tmp 4) (.seq (.reg (straight [⟨some 2, none, .pur .mov [.const (.int .i64 9)]⟩]) [2])
  (.ret)) (.seq (.reg (straight [⟨some 9, none, .pur .mov [.tmp 0]⟩, ⟨some 10, none, .pur (.len false) [.tmp 9]⟩, ⟨some 11, none, .pur (.bin .eql) [.tmp 10, .const (.int .i64 0)]⟩, ⟨some 8, none, .pur .mov [.tmp 11]⟩]) [8])
  (.cond (.tmp 8) (.seq (.reg (straight [⟨some 2, none, .pur .mov [.const (.int .i64 7)]⟩]) [2])
  (.ret)) (.seq (.seq (.reg (straight [⟨some 13, none, .pur .mov [.tmp 0]⟩, ⟨some 14, none, .pur (.ixa 2) [.tmp 13, .const (.int .i64 0)]⟩, ⟨some 15, none, .pur (.fla 0) [.tmp 14]⟩, ⟨some 16, none, .ld none (.tmp 15)⟩, ⟨some 17, none, .pur (.bin .neq) [.tmp 16, .const (.int .i64 0)]⟩, ⟨some 12, none, .pur .mov [.tmp 17]⟩]) [12])
  (.cond (.tmp 12) (.skip) (.reg (straight [⟨some 18, none, .pur .mov [.tmp 0]⟩, ⟨some 19, none, .pur (.ixa 2) [.tmp 18, .const (.int .i64 0)]⟩, ⟨some 20, none, .pur (.fla 1) [.tmp 19]⟩, ⟨some 21, none, .ld none (.tmp 20)⟩, ⟨some 12, none, .pur .mov [.tmp 21]⟩]) [12])))
  (.cond (.tmp 12) (.seq (.reg (straight [⟨some 2, none, .pur .mov [.const (.int .i64 4)]⟩]) [2])
  (.ret)) (.skip))))))))
  (.seq (.seq (.reg (straight [⟨some 3, none, .pur .mov [.const (.int .i64 1)]⟩]) [3])
  (.block 1 (.loop S_grid_row_L1)))
  (.seq (.reg (straight [⟨some 2, none, .pur .mov [.const (.int .i64 0)]⟩]) [2])
  (.ret))))⟩
theorem K_grid_row : compF Try.prog 113 = some S_grid_row := by kernel_rfl

end Go.Proofs.Ythgmfjkbgacfaaa
