import Derived.Test.YtilofhocodbknaaKj
import Derived.Test.YtilofhocodbknaaProg
import Derived.KernelRfl
namespace Go.Proofs.Ytilofhocodbknaa
open Go Go.Kx Go.Proofs
set_option linter.unusedVariables false
set_option maxRecDepth 100000

-- 4
def S_forebaylaw40_CompareOrder : Fun := ⟨175, [6, 14, 0, 2, 28, 31, 1, 7, 9, 8, 10, 100, 11, 12], [.tmp 6],
  .seq (.reg (straight [⟨some 6, none, .pur .mov [.const (.bool false)]⟩]) [6])
  (.seq (.seq (.reg (straight [⟨some 13, none, .eff (.call 24) []⟩, ⟨some 14, none, .pur .not [.tmp 13]⟩]) [14])
  (.cond (.tmp 14) (.seq (.reg (straight [⟨some 6, none, .pur .mov [.const (.bool false)]⟩]) [6])
  (.ret)) (.skip)))
  (.seq (.seq (.reg (straight [⟨some 15, none, .pur .mov [.tmp 0]⟩, ⟨some 16, none, .eff (.call 25) [.tmp 15]⟩, ⟨some 17, none, .pur .mov [.tmp 16]⟩, ⟨some 18, some (17, false), .pur .mov [.tmp 2]⟩, ⟨some 19, some (17, false), .eff (.call 25) [.tmp 18]⟩, ⟨some 20, none, .pur .pick [.tmp 17, .const (.bool true), .tmp 19]⟩, ⟨some 21, none, .pur .mov [.tmp 20]⟩, ⟨some 22, some (21, false), .pur .mov [.tmp 0]⟩, ⟨some 23, some (21, false), .pur (.len false) [.tmp 22]⟩, ⟨some 24, some (21, false), .pur .mov [.tmp 2]⟩, ⟨some 25, some (21, false), .pur (.len false) [.tmp 24]⟩, ⟨some 26, some (21, false), .pur (.bin .add) [.tmp 23, .tmp 25]⟩, ⟨some 27, some (21, false), .pur (.bin .gtr) [.tmp 26, .const (.int .i64 60)]⟩, ⟨some 28, none, .pur .pick [.tmp 21, .const (.bool true), .tmp 27]⟩]) [28])
  (.cond (.tmp 28) (.seq (.reg (straight [⟨some 6, none, .pur .mov [.const (.bool true)]⟩]) [6])
  (.ret)) (.skip)))
  (.seq (.reg (straight [⟨some 7, none, .pur .mov [.const (.int .i64 0)]⟩]) [7])
  (.seq (.seq (.reg (straight [⟨some 29, none, .pur .mov [.tmp 0]⟩, ⟨some 30, none, .pur (.len false) [.tmp 29]⟩, ⟨some 31, none, .pur (.bin .gtr) [.tmp 30, .const (.int .i64 0)]⟩]) [31])
  (.cond (.tmp 31) (.reg (straight [⟨some 32, none, .pur .mov [.tmp 1]⟩, ⟨some 33, none, .pur (.toInt .u64) [.tmp 32]⟩, ⟨some 34, none, .pur .mov [.tmp 0]⟩, ⟨some 35, none, .pur (.len false) [.tmp 34]⟩, ⟨some 36, none, .pur (.toInt .u64) [.tmp 35]⟩, ⟨some 37, none, .pur (.bin .rem) [.tmp 33, .tmp 36]⟩, ⟨some 38, none, .pur (.toInt .i64) [.tmp 37]⟩, ⟨some 7, none, .pur .mov [.tmp 38]⟩]) [7]) (.skip)))
  (.seq (.reg (straight [⟨some 39, none, .pur .mov [.tmp 0]⟩, ⟨some 40, none, .eff (.call 27) [.tmp 39]⟩, ⟨some 41, none, .eff (.call 26) [.tmp 40]⟩, ⟨some 8, none, .eff (.new 38 [.int .i64 0, .int .i64 0, .int .i64 0, .int .i64 0, .int .i64 0, .int .i64 0]) []⟩, ⟨none, none, .eff (.st 6) [.tmp 8, .tmp 41]⟩]) [8])
  (.seq (.reg (.run ⟨some 42, none, .pur .mov [.tmp 0]⟩ (.run ⟨some 43, none, .pur .mov [.tmp 7]⟩ (.run ⟨some 44, none, .pur (.slc 11 true false) [.tmp 42, .tmp 43]⟩ (.run ⟨some 46, none, .pur .mov [.tmp 0]⟩ (.run ⟨some 47, none, .pur .mov [.tmp 7]⟩ (.run ⟨some 48, none, .pur (.slc 11 false true) [.tmp 46, .tmp 47]⟩ (.both (.eff ⟨some 45, none, .eff (.call 27) [.tmp 44]⟩ [] (.both (.eff ⟨some 49, none, .eff (.call 27) [.tmp 48]⟩ [] (.both (.eff ⟨some 50, none, .eff (.app 129 11 120 [.int .i64 0, .int .i64 0, .slice none 0 0, .slice none 0 0, .int .i64 0, .int .i64 0, .int .i64 0, .int .i64 0, .int .i64 0, .int .i64 0, .int .i64 0]) [.tmp 45, .tmp 49]⟩ [] (.both (.eff ⟨some 51, none, .eff (.call 26) [.tmp 50]⟩ [] (.eff ⟨some 9, none, .eff (.new 38 [.int .i64 0, .int .i64 0, .int .i64 0, .int .i64 0, .int .i64 0, .int .i64 0]) []⟩ [] (.eff ⟨none, none, .eff (.st 6) [.tmp 9, .tmp 51]⟩ [] .done))) (.eff ⟨some 9, none, .eff (.new 38 [.int .i64 0, .int .i64 0, .int .i64 0, .int .i64 0, .int .i64 0, .int .i64 0]) []⟩ [] (.eff ⟨some 51, none, .eff (.call 26) [.tmp 50]⟩ [] (.eff ⟨none, none, .eff (.st 6) [.tmp 9, .tmp 51]⟩ [] .done))))) (.eff ⟨some 9, none, .eff (.new 38 [.int .i64 0, .int .i64 0, .int .i64 0, .int .i64 0, .int .i64 0, .int .i64 0]) []⟩ [] (.eff ⟨some 50, none, .eff (.app 129 11 120 [.int .i64 0, .int .i64 0, .slice none 0 0, .slice none 0 0, .int .i64 0, .int .i64 0, .int .i64 0, .int .i64 0, .int .i64 0, .int .i64 0, .int .i64 0]) [.tmp 45, .tmp 49]⟩ [] (.eff ⟨some 51, none, .eff (.call 26) [.tmp 50]⟩ [] (.eff ⟨none, none, .eff (.st 6) [.tmp 9, .tmp 51]⟩ [] .done)))))) (.eff ⟨some 9, none, .eff (.new 38 [.int .i64 0, .int .i64 0, .int .i64 0, .int .i64 0, .int .i64 0, .int .i64 0]) []⟩ [] (.eff ⟨some 49, none, .eff (.call 27) [.tmp 48]⟩ [] (.eff ⟨some 50, none, .eff (.app 129 11 120 [.int .i64 0, .int .i64 0, .slice none 0 0, .slice none 0 0, .int .i64 0, .int .i64 0, .int .i64 0, .int .i64 0, .int .i64 0, .int .i64 0, .int .i64 0]) [.tmp 45, .tmp 49]⟩ [] (.eff ⟨some 51, none, .eff (.call 26) [.tmp 50]⟩ [] (.eff ⟨none, none, .eff (.st 6) [.tmp 9, .tmp 51]⟩ [] .done))))))) (.eff ⟨some 9, none, .eff (.new 38 [.int .i64 0, .int .i64 0, .int .i64 0, .int .i64 0, .int .i64 0, .int .i64 0]) []⟩ [] (.eff ⟨some 45, none, .eff (.call 27) [.tmp 44]⟩ [] (.eff ⟨some 49, none, .eff (.call 27) [.tmp 48]⟩ [] (.eff ⟨some 50, none, .eff (.app 129 11 120 [.int .i64 0, .int .i64 0, .slice none 0 0, .slice none 0 0, .int .i64 0, .int .i64 0, .int .i64 0, .int .i64 0, .int .i64 0, .int .i64 0, .int .i64 0]) [.tmp 45, .tmp 49]⟩ [] (.eff ⟨some 51, none, .eff (.call 26) [.tmp 50]⟩ [] (.eff ⟨none, none, .eff (.st 6) [.tmp 9, .tmp 51]⟩ [] .done))))))))))))) [9])
  (.seq (.reg (straight [⟨some 52, none, .pur .mov [.tmp 0]⟩, ⟨some 53, none, .eff (.call 27) [.tmp 52]⟩, ⟨some 54, none, .pur .mov [.tmp 0]⟩, ⟨some 55, none, .eff (.call 27) [.tmp 54]⟩, ⟨some 56, none, .eff (.app 129 11 120 [.int .i64 0, .int .i64 0, .slice none 0 0, .slice none 0 0, .int .i64 0, .int .i64 0, .int .i64 0, .int .i64 0, .int .i64 0, .int .i64 0, .int .i64 0]) [.tmp 53, .tmp 55]⟩, ⟨some 57, none, .eff (.call 26) [.tmp 56]⟩, ⟨some 10, none, .eff (.new 38 [.int .i64 0, .int .i64 0, .int .i64 0, .int .i64 0, .int .i64 0, .int .i64 0]) []⟩, ⟨none, none, .eff (.st 6) [.tmp 10, .tmp 57]⟩]) [10])
  (.seq (.reg (straight [⟨some 58, none, .pur .mov [.tmp 0]⟩, ⟨some 59, none, .eff (.call 27) [.tmp 58]⟩, ⟨some 60, none, .pur .mov [.tmp 2]⟩, ⟨some 61, none, .eff (.call 27) [.tmp 60]⟩, ⟨some 62, none, .eff (.app 129 11 120 [.int .i64 0, .int .i64 0, .slice none 0 0, .slice none 0 0, .int .i64 0, .int .i64 0, .int .i64 0, .int .i64 0, .int .i64 0, .int .i64 0, .int .i64 0]) [.tmp 59, .tmp 61]⟩, ⟨some 63, none, .eff (.call 26) [.tmp 62]⟩, ⟨some 64, none, .pur .mov [.tmp 2]⟩, ⟨some 65, none, .eff (.call 27) [.tmp 64]⟩, ⟨some 66, none, .eff (.call 26) [.tmp 65]⟩, ⟨some 11, none, .eff (.new 38 [.int .i64 0, .int .i64 0, .int .i64 0, .int .i64 0, .int .i64 0, .int .i64 0]) []⟩, ⟨some 12, none, .eff (.new 38 [.int .i64 0, .int .i64 0, .int .i64 0, .int .i64 0, .int .i64 0, .int .i64 0]) []⟩, ⟨none, none, .eff (.st 6) [.tmp 11, .tmp 63]⟩, ⟨none, none, .eff (.st 6) [.tmp 12, .tmp 66]⟩]) [11, 12])
  (.seq (.seq (.reg (straight [⟨some 67, none, .ld (some 6) (.tmp 9)⟩, ⟨some 68, none, .ld (some 6) (.tmp 8)⟩, ⟨some 69, none, .pur (.eqs true [.int .i64, .int .i64, .int .i64, .int .i64, .int .i64, .int .i64]) [.tmp 67, .tmp 68]⟩, ⟨some 70, none, .pur .mov [.tmp 69]⟩, ⟨some 71, some (70, false), .pur (.fla 5) [.tmp 10]⟩, ⟨some 72, some (70, false), .ld none (.tmp 71)⟩, ⟨some 73, some (70, false), .pur (.fla 5) [.tmp 8]⟩, ⟨some 74, some (70, false), .ld none (.tmp 73)⟩, ⟨some 75, some (70, false), .pur (.bin .neq) [.tmp 72, .tmp 74]⟩, ⟨some 76, none, .pur .pick [.tmp 70, .const (.bool true), .tmp 75]⟩, ⟨some 77, none, .pur .mov [.tmp 76]⟩, ⟨some 78, some (77, false), .pur (.fla 0) [.tmp 10]⟩, ⟨some 79, some (77, false), .ld none (.tmp 78)⟩, ⟨some 80, some (77, false), .pur (.fla 0) [.tmp 8]⟩, ⟨some 81, some (77, false), .ld none (.tmp 80)⟩, ⟨some 82, some (77, false), .pur (.bin .mul) [.const (.int .i64 2), .tmp 81]⟩, ⟨some 83, some (77, false), .pur (.bin .neq) [.tmp 79, .tmp 82]⟩, ⟨some 84, none, .pur .pick [.tmp 77, .const (.bool true), .tmp 83]⟩, ⟨some 85, none, .pur .mov [.tmp 84]⟩, ⟨some 86, some (85, false), .pur (.fla 1) [.tmp 10]⟩, ⟨some 87, some (85, false), .ld none (.tmp 86)⟩, ⟨some 88, some (85, false), .pur (.fla 1) [.tmp 8]⟩, ⟨some 89, some (85, false), .ld none (.tmp 88)⟩, ⟨some 90, some (85, false), .pur (.bin .mul) [.const (.int .i64 2), .tmp 89]⟩, ⟨some 91, some (85, false), .pur (.bin .neq) [.tmp 87, .tmp 90]⟩, ⟨some 92, none, .pur .pick [.tmp 85, .const (.bool true), .tmp 91]⟩, ⟨some 93, none, .pur .mov [.tmp 92]⟩, ⟨some 94, some (93, false), .pur (.fla 4) [.tmp 10]⟩, ⟨some 95, some (93, false), .ld none (.tmp 94)⟩, ⟨some 96, some (93, false), .pur (.fla 4) [.tmp 8]⟩, ⟨some 97, some (93, false), .ld none (.tmp 96)⟩, ⟨some 98, some (93, false), .pur (.bin .mul) [.const (.int .i64 2), .tmp 97]⟩, ⟨some 99, some (93, false), .pur (.bin .neq) [.tmp 95, .tmp 98]⟩, ⟨some 100, none, .pur .pick [.tmp 93, .const (.bool true), .tmp 99]⟩]) [100])
  (.cond (.tmp 100) (.seq (.reg (straight [⟨some 6, none, .pur .mov [.const (.bool false)]⟩]) [6])
  (.ret)) (.skip)))
  (.seq (.reg (straight [⟨some 101, none, .pur (.fla 0) [.tmp 11]⟩, ⟨some 102, none, .ld none (.tmp 101)⟩, ⟨some 103, none, .pur (.fla 0) [.tmp 8]⟩, ⟨some 104, none, .ld none (.tmp 103)⟩, ⟨some 105, none, .pur (.fla 0) [.tmp 12]⟩, ⟨some 106, none, .ld none (.tmp 105)⟩, ⟨some 107, none, .pur (.bin .add) [.tmp 104, .tmp 106]⟩, ⟨some 108, none, .pur (.bin .eql) [.tmp 102, .tmp 107]⟩, ⟨some 109, none, .pur .mov [.tmp 108]⟩, ⟨some 110, some (109, true), .pur (.fla 1) [.tmp 11]⟩, ⟨some 111, some (109, true), .ld none (.tmp 110)⟩, ⟨some 112, some (109, true), .pur (.fla 1) [.tmp 8]⟩, ⟨some 113, some (109, true), .ld none (.tmp 112)⟩, ⟨some 114, some (109, true), .pur (.fla 1) [.tmp 12]⟩, ⟨some 115, some (109, true), .ld none (.tmp 114)⟩, ⟨some 116, some (109, true), .pur (.bin .add) [.tmp 113, .tmp 115]⟩, ⟨some 117, some (109, true), .pur (.bin .eql) [.tmp 111, .tmp 116]⟩, ⟨some 118, none, .pur .pick [.tmp 109, .tmp 117, .const (.bool false)]⟩, ⟨some 119, none, .pur .mov [.tmp 118]⟩, ⟨some 120, some (119, true), .pur (.fla 2) [.tmp 11]⟩, ⟨some 121, some (119, true), .ld none (.tmp 120)⟩, ⟨some 122, some (119, true), .pur (.fla 2) [.tmp 8]⟩, ⟨some 123, some (119, true), .ld none (.tmp 122)⟩, ⟨some 124, some (119, true), .pur (.fla 2) [.tmp 12]⟩, ⟨some 125, some (119, true), .ld none (.tmp 124)⟩, ⟨some 126, some (119, true), .pur (.bin .add) [.tmp 123, .tmp 125]⟩, ⟨some 127, some (119, true), .pur (.bin .eql) [.tmp 121, .tmp 126]⟩, ⟨some 128, none, .pur .pick [.tmp 119, .tmp 127, .const (.bool false)]⟩, ⟨some 129, none, .pur .mov [.tmp 128]⟩, ⟨some 130, some (129, true), .pur (.fla 3) [.tmp 11]⟩, ⟨some 131, some (129, true), .ld none (.tmp 130)⟩, ⟨some 132, some (129, true), .pur (.fla 3) [.tmp 8]⟩, ⟨some 133, some (129, true), .ld none (.tmp 132)⟩, ⟨some 134, some (129, true), .pur (.fla 3) [.tmp 12]⟩, ⟨some 135, some (129, true), .ld none (.tmp 134)⟩, ⟨some 136, some (129, true), .pur (.bin .add) [.tmp 133, .tmp 135]⟩, ⟨some 137, some (129, true), .pur (.bin .eql) [.tmp 131, .tmp 136]⟩, ⟨some 138, none, .pur .pick [.tmp 129, .tmp 137, .const (.bool false)]⟩, ⟨some 139, none, .pur .mov [.tmp 138]⟩, ⟨some 140, some (139, true), .pur (.fla 5) [.tmp 11]⟩, ⟨some 141, some (139, true), .ld none (.tmp 140)⟩, ⟨some 142, some (139, true), .pur (.fla 5) [.tmp 8]⟩, ⟨some 143, some (139, true), .ld none (.tmp 142)⟩, ⟨some 144, some (139, true), .pur (.fla 5) [.tmp 12]⟩, ⟨some 145, some (139, true), .ld none (.tmp 144)⟩, ⟨some 146, some (139, true), .pur (.minmax true) [.tmp 143, .tmp 145]⟩, ⟨some 147, some (139, true), .pur (.bin .geq) [.tmp 141, .tmp 146]⟩, ⟨some 148, none, .pur .pick [.tmp 139, .tmp 147, .const (.bool false)]⟩, ⟨some 149, none, .pur .mov [.tmp 148]⟩, ⟨some 150, some (149, true), .pur (.fla 5) [.tmp 11]⟩, ⟨some 151, some (149, true), .ld none (.tmp 150)⟩, ⟨some 152, some (149, true), .pur (.fla 5) [.tmp 8]⟩, ⟨some 153, some (149, true), .ld none (.tmp 152)⟩, ⟨some 154, some (149, true), .pur (.fla 5) [.tmp 12]⟩, ⟨some 155, some (149, true), .ld none (.tmp 154)⟩, ⟨some 156, some (149, true), .pur (.bin .add) [.tmp 153, .tmp 155]⟩, ⟨some 157, some (149, true), .pur (.bin .leq) [.tmp 151, .tmp 156]⟩, ⟨some 158, none, .pur .pick [.tmp 149, .tmp 157, .const (.bool false)]⟩, ⟨some 159, none, .pur .mov [.tmp 158]⟩, ⟨some 160, some (159, true), .pur (.fla 1) [.tmp 8]⟩, ⟨some 161, some (159, true), .ld none (.tmp 160)⟩, ⟨some 162, some (159, true), .pur (.fla 2) [.tmp 8]⟩, ⟨some 163, some (159, true), .ld none (.tmp 162)⟩, ⟨some 164, some (159, true), .pur (.bin .add) [.tmp 161, .tmp 163]⟩, ⟨some 165, some (159, true), .pur (.fla 3) [.tmp 8]⟩, ⟨some 166, some (159, true), .ld none (.tmp 165)⟩, ⟨some 167, some (159, true), .pur (.bin .add) [.tmp 164, .tmp 166]⟩, ⟨some 168, some (159, true), .pur (.fla 4) [.tmp 8]⟩, ⟨some 169, some (159, true), .ld none (.tmp 168)⟩, ⟨some 170, some (159, true), .pur (.bin .add) [.tmp 167, .tmp 169]⟩, ⟨some 171, some (159, true), .pur (.fla 0) [.tmp 8]⟩, ⟨some 172, some (159, true), .ld none (.tmp 171)⟩, ⟨some 173, some (159, true), .pur (.bin .leq) [.tmp 170, .tmp 172]⟩, ⟨some 174, none, .pur .pick [.tmp 159, .tmp 173, .const (.bool false)]⟩, ⟨some 6, none, .pur .mov [.tmp 174]⟩]) [6])
  (.ret)))))))))))⟩
theorem K_forebaylaw40_CompareOrder : compF Try.prog 4 = some S_forebaylaw40_CompareOrder := by kernel_rfl

-- 24
def S_forebaylaw40_works : Fun := ⟨39, [0, 1, 2, 3], [.tmp 0],
  .seq (.reg (straight [⟨some 0, none, .pur .mov [.const (.bool false)]⟩]) [0])
  (.seq (.reg (straight [⟨some 4, none, .eff (.bsl 3 1) [.const (.int .i64 1)]⟩, ⟨some 5, none, .eff (.bsl 3 1) [.const (.int .i64 2)]⟩, ⟨some 6, none, .pur (.bld [.int .i64 0, .int .i64 0, .slice none 0 0, .slice none 0 0, .int .i64 0, .int .i64 0, .int .i64 0, .int .i64 0, .int .i64 0, .int .i64 0, .int .i64 0] [(0, 1), (2, 1), (3, 1)]) [.const (.int .i64 1), .tmp 4, .tmp 5]⟩, ⟨some 1, none, .eff (.new 129 [.int .i64 0, .int .i64 0, .slice none 0 0, .slice none 0 0, .int .i64 0, .int .i64 0, .int .i64 0, .int .i64 0, .int .i64 0, .int .i64 0, .int .i64 0]) []⟩, ⟨none, none, .eff (.st 11) [.tmp 1, .tmp 6]⟩]) [1])
  (.seq (.reg (straight [⟨some 7, none, .eff (.bsl 3 1) [.const (.int .i64 1)]⟩, ⟨some 8, none, .eff (.bsl 3 1) [.const (.int .i64 2)]⟩, ⟨some 9, none, .pur (.bld [.int .i64 0, .int .i64 0, .int .i64 0, .int .i64 0, .int .i64 0, .int .i64 0, .int .i64 0] [(0, 1)]) [.const (.int .i64 9)]⟩, ⟨some 10, none, .pur (.bld [.int .i64 0, .int .i64 0, .slice none 0 0, .slice none 0 0, .int .i64 0, .int .i64 0, .int .i64 0, .int .i64 0, .int .i64 0, .int .i64 0, .int .i64 0] [(0, 1), (2, 1), (3, 1), (4, 7)]) [.const (.int .i64 1), .tmp 7, .tmp 8, .tmp 9]⟩, ⟨some 2, none, .eff (.new 129 [.int .i64 0, .int .i64 0, .slice none 0 0, .slice none 0 0, .int .i64 0, .int .i64 0, .int .i64 0, .int .i64 0, .int .i64 0, .int .i64 0, .int .i64 0]) []⟩, ⟨none, none, .eff (.st 11) [.tmp 2, .tmp 10]⟩]) [2])
  (.seq (.reg (straight [⟨some 11, none, .eff (.bsl 3 1) [.const (.int .i64 1)]⟩, ⟨some 12, none, .eff (.bsl 3 1) [.const (.int .i64 2)]⟩, ⟨some 13, none, .pur (.bld [.int .i64 0, .int .i64 0, .slice none 0 0, .slice none 0 0, .int .i64 0, .int .i64 0, .int .i64 0] [(0, 1), (2, 1), (3, 1)]) [.const (.int .i64 1), .tmp 11, .tmp 12]⟩, ⟨some 3, none, .eff (.new 131 [.int .i64 0, .int .i64 0, .slice none 0 0, .slice none 0 0, .int .i64 0, .int .i64 0, .int .i64 0]) []⟩, ⟨none, none, .eff (.st 7) [.tmp 3, .tmp 13]⟩]) [3])
  (.seq (.reg (straight [⟨some 14, none, .ld (some 11) (.tmp 1)⟩, ⟨some 15, none, .ld (some 11) (.tmp 2)⟩, ⟨some 16, none, .eff (.bsl 129 11) [.tmp 14, .tmp 15]⟩, ⟨some 17, none, .eff (.call 26) [.tmp 16]⟩, ⟨some 18, none, .pur (.bld [.int .i64 0, .int .i64 0, .int .i64 0, .int .i64 0, .int .i64 0, .int .i64 0] [(0, 1), (1, 1), (5, 1)]) [.const (.int .i64 2), .const (.int .i64 2), .const (.int .i64 1)]⟩, ⟨some 19, none, .pur (.eqs false [.int .i64, .int .i64, .int .i64, .int .i64, .int .i64, .int .i64]) [.tmp 17, .tmp 18]⟩, ⟨some 20, none, .pur .mov [.tmp 19]⟩, ⟨some 21, some (20, true), .ld (some 11) (.tmp 1)⟩, ⟨some 22, some (20, true), .ld (some 7) (.tmp 3)⟩, ⟨some 23, some (20, true), .eff (.call 84) [.tmp 21, .tmp 22]⟩, ⟨some 24, some (20, true), .pur (.bin .eql) [.tmp 23, .const (.int .i64 0)]⟩, ⟨some 25, none, .pur .pick [.tmp 20, .tmp 24, .const (.bool false)]⟩, ⟨some 26, none, .pur .mov [.tmp 25]⟩, ⟨some 27, some (26, true), .pur (.bld [.int .i64 0, .int .i64 0, .slice none 0 0, .slice none 0 0, .int .i64 0, .int .i64 0, .int .i64 0, .int .i64 0, .int .i64 0, .int .i64 0, .int .i64 0] []) []⟩, ⟨some 28, some (26, true), .ld (some 7) (.tmp 3)⟩, ⟨some 29, some (26, true), .eff (.call 84) [.tmp 27, .tmp 28]⟩, ⟨some 30, some (26, true), .pur (.bin .eql) [.tmp 29, .const (.int .i64 8)]⟩, ⟨some 31, none, .pur .pick [.tmp 26, .tmp 30, .const (.bool false)]⟩, ⟨some 32, none, .pur .mov [.tmp 31]⟩, ⟨some 33, some (32, true), .ld (some 7) (.tmp 3)⟩, ⟨some 34, some (32, true), .ld (some 11) (.tmp 2)⟩, ⟨some 35, some (32, true), .eff (.bsl 129 11) [.tmp 34]⟩, ⟨some 36, some (32, true), .eff (.call 85) [.tmp 33, .tmp 35]⟩, ⟨some 37, some (32, true), .pur (.bin .eql) [.tmp 36, .const (.int .i64 9)]⟩, ⟨some 38, none, .pur .pick [.tmp 32, .tmp 37, .const (.bool false)]⟩, ⟨some 0, none, .pur .mov [.tmp 38]⟩]) [0])
  (.ret)))))⟩
theorem K_forebaylaw40_works : compF Try.prog 24 = some S_forebaylaw40_works := by kernel_rfl

-- 25
def S_forebaylaw40_great_L1 : SCode :=
  .seq (.seq (.reg (straight [⟨some 4, none, .pur .mov [.tmp 3]⟩, ⟨some 5, none, .pur .mov [.tmp 0]⟩, ⟨some 6, none, .pur (.len false) [.tmp 5]⟩, ⟨some 7, none, .pur (.bin .lss) [.tmp 4, .tmp 6]⟩]) [7])
  (.cond (.tmp 7) (.skip) (.exit 0)))
  (.seq (.block 1 (.seq (.reg (straight [⟨some 10, none, .pur .mov [.tmp 3]⟩, ⟨some 11, none, .pur (.bin .geq) [.tmp 10, .const (.int .i64 100)]⟩, ⟨some 12, none, .pur .mov [.tmp 11]⟩, ⟨some 13, some (12, false), .pur .mov [.tmp 0]⟩, ⟨some 14, some (12, false), .pur .mov [.tmp 3]⟩, ⟨some 15, some (12, false), .pur (.ixa 11) [.tmp 13, .tmp 14]⟩, ⟨some 16, some (12, false), .pur (.fla 2) [.tmp 15]⟩, ⟨some 17, some (12, false), .ld none (.tmp 16)⟩, ⟨some 18, some (12, false), .pur (.len false) [.tmp 17]⟩, ⟨some 19, some (12, false), .pur (.bin .gtr) [.tmp 18, .const (.int .i64 300)]⟩, ⟨some 20, none, .pur .pick [.tmp 12, .const (.bool true), .tmp 19]⟩, ⟨some 21, none, .pur .mov [.tmp 20]⟩, ⟨some 22, some (21, false), .pur .mov [.tmp 0]⟩, ⟨some 23, some (21, false), .pur .mov [.tmp 3]⟩, ⟨some 24, some (21, false), .pur (.ixa 11) [.tmp 22, .tmp 23]⟩, ⟨some 25, some (21, false), .pur (.fla 3) [.tmp 24]⟩, ⟨some 26, some (21, false), .ld none (.tmp 25)⟩, ⟨some 27, some (21, false), .pur (.len false) [.tmp 26]⟩, ⟨some 28, some (21, false), .pur (.bin .gtr) [.tmp 27, .const (.int .i64 300)]⟩, ⟨some 29, none, .pur .pick [.tmp 21, .const (.bool true), .tmp 28]⟩]) [29])
  (.cond (.tmp 29) (.seq (.reg (straight [⟨some 2, none, .pur .mov [.const (.bool true)]⟩]) [2])
  (.ret)) (.skip))))
  (.reg (straight [⟨some 8, none, .pur .mov [.tmp 3]⟩, ⟨some 9, none, .pur (.bin .add) [.tmp 8, .const (.int .i64 1)]⟩, ⟨some 3, none, .pur .mov [.tmp 9]⟩]) [3]))
def S_forebaylaw40_great : Fun := ⟨30, [2, 3, 0, 7, 29], [.tmp 2],
  .seq (.reg (straight [⟨some 2, none, .pur .mov [.const (.bool false)]⟩]) [2])
  (.seq (.seq (.reg (straight [⟨some 3, none, .pur .mov [.const (.int .i64 0)]⟩]) [3])
  (.block 0 (.loop S_forebaylaw40_great_L1)))
  (.seq (.reg (straight [⟨some 2, none, .pur .mov [.const (.bool false)]⟩]) [2])
  (.ret)))⟩
theorem K_forebaylaw40_great : compF Try.prog 25 = some S_forebaylaw40_great := by kernel_rfl

-- 26
def S_compare_Add_L1 : SCode :=
  .seq (.reg (straight [⟨some 13, none, .pur (.bin .lss) [.tmp 12, .tmp 11]⟩]) [13])
  (.seq (.cond (.tmp 13) (.skip) (.exit 0))
  (.seq (.block 1 (.seq (.reg (straight [⟨some 14, none, .pur (.ixa 11) [.tmp 10, .tmp 12]⟩, ⟨some 15, none, .ld (some 11) (.tmp 14)⟩, ⟨some 6, none, .eff (.new 129 [.int .i64 0, .int .i64 0, .slice none 0 0, .slice none 0 0, .int .i64 0, .int .i64 0, .int .i64 0, .int .i64 0, .int .i64 0, .int .i64 0, .int .i64 0]) []⟩, ⟨none, none, .eff (.st 11) [.tmp 6, .tmp 15]⟩]) [6])
  (.seq (.seq (.reg (straight [⟨some 16, none, .pur (.fla 0) [.tmp 6]⟩, ⟨some 17, none, .ld none (.tmp 16)⟩]) [17])
  (.block 2 (.seq (.reg (straight [⟨some 19, none, .pur (.bin .eql) [.tmp 17, .const (.int .i64 1)]⟩, ⟨some 18, none, .pur .mov [.tmp 19]⟩]) [18])
  (.cond (.tmp 18) (.reg (straight [⟨some 20, none, .pur (.fla 1) [.tmp 3]⟩, ⟨some 21, none, .ld none (.tmp 20)⟩, ⟨some 22, none, .pur (.bin .add) [.tmp 21, .const (.int .i64 1)]⟩, ⟨some 23, none, .pur (.fla 1) [.tmp 3]⟩, ⟨none, none, .eff (.st 1) [.tmp 23, .tmp 22]⟩]) []) (.seq (.reg (straight [⟨some 25, none, .pur (.bin .eql) [.tmp 17, .const (.int .i64 4)]⟩, ⟨some 24, none, .pur .mov [.tmp 25]⟩]) [24])
  (.cond (.tmp 24) (.reg (straight [⟨some 26, none, .pur (.fla 2) [.tmp 3]⟩, ⟨some 27, none, .ld none (.tmp 26)⟩, ⟨some 28, none, .pur (.bin .add) [.tmp 27, .const (.int .i64 1)]⟩, ⟨some 29, none, .pur (.fla 2) [.tmp 3]⟩, ⟨none, none, .eff (.st 1) [.tmp 29, .tmp 28]⟩]) []) (.seq (.reg (straight [⟨some 31, none, .pur (.bin .eql) [.tmp 17, .const (.int .i64 5)]⟩, ⟨some 30, none, .pur .mov [.tmp 31]⟩]) [30])
  (.cond (.tmp 30) (.reg (straight [⟨some 32, none, .pur (.fla 3) [.tmp 3]⟩, ⟨some 33, none, .ld none (.tmp 32)⟩, ⟨some 34, none, .pur (.bin .add) [.tmp 33, .const (.int .i64 1)]⟩, ⟨some 35, none, .pur (.fla 3) [.tmp 3]⟩, ⟨none, none, .eff (.st 1) [.tmp 35, .tmp 34]⟩]) []) (.seq (.reg (straight [⟨some 37, none, .pur (.bin .eql) [.tmp 17, .const (.int .i64 6)]⟩, ⟨some 36, none, .pur .mov [.tmp 37]⟩]) [36])
  (.cond (.tmp 36) (.reg (straight [⟨some 38, none, .pur (.fla 4) [.tmp 3]⟩, ⟨some 39, none, .ld none (.tmp 38)⟩, ⟨some 40, none, .pur (.bin .add) [.tmp 39, .const (.int .i64 1)]⟩, ⟨some 41, none, .pur (.fla 4) [.tmp 3]⟩, ⟨none, none, .eff (.st 1) [.tmp 41, .tmp 40]⟩]) []) (.skip)))))))))))
  (.seq (.reg (straight [⟨some 42, none, .pur .mov [.tmp 4]⟩, ⟨some 43, none, .pur (.mkf (.func 87) 0) [.tmp 6]⟩, ⟨some 44, none, .eff (.call 86) [.tmp 42, .tmp 43]⟩, ⟨some 45, none, .pur .not [.tmp 44]⟩]) [45])
  (.cond (.tmp 45) (.reg (straight [⟨some 46, none, .pur .mov [.tmp 4]⟩, ⟨some 47, none, .ld (some 11) (.tmp 6)⟩, ⟨some 48, none, .eff (.bsl 129 11) [.tmp 47]⟩, ⟨some 49, none, .eff (.app 129 11 120 [.int .i64 0, .int .i64 0, .slice none 0 0, .slice none 0 0, .int .i64 0, .int .i64 0, .int .i64 0, .int .i64 0, .int .i64 0, .int .i64 0, .int .i64 0]) [.tmp 46, .tmp 48]⟩, ⟨some 4, none, .pur .mov [.tmp 49]⟩]) [4]) (.skip))))))
  (.reg (straight [⟨some 50, none, .pur (.bin .add) [.tmp 12, .const (.int .i64 1)]⟩, ⟨some 12, none, .pur .mov [.tmp 50]⟩]) [12])))
def S_compare_Add : Fun := ⟨55, [2, 0, 12, 11, 13, 10, 6, 17, 18, 3, 24, 30, 36, 4, 45], [.cell 2 (some 6)],
  .seq (.reg (straight [⟨some 2, none, .eff (.new 38 [.int .i64 0, .int .i64 0, .int .i64 0, .int .i64 0, .int .i64 0, .int .i64 0]) []⟩]) [2])
  (.seq (.reg (straight [⟨some 7, none, .pur .mov [.tmp 0]⟩, ⟨some 8, none, .pur (.len false) [.tmp 7]⟩, ⟨some 9, none, .pur (.bld [.int .i64 0, .int .i64 0, .int .i64 0, .int .i64 0, .int .i64 0, .int .i64 0] [(0, 1)]) [.tmp 8]⟩, ⟨some 3, none, .eff (.new 38 [.int .i64 0, .int .i64 0, .int .i64 0, .int .i64 0, .int .i64 0, .int .i64 0]) []⟩, ⟨none, none, .eff (.st 6) [.tmp 3, .tmp 9]⟩]) [3])
  (.seq (.reg (straight [⟨some 4, none, .pur .mov [.const (.slice none 0 0)]⟩]) [4])
  (.seq (.seq (.reg (straight [⟨some 10, none, .pur .mov [.tmp 0]⟩, ⟨some 11, none, .pur (.len false) [.tmp 10]⟩, ⟨some 12, none, .pur .mov [.const (.int .i64 0)]⟩]) [10, 11, 12])
  (.block 0 (.loop S_compare_Add_L1)))
  (.seq (.reg (straight [⟨some 51, none, .pur .mov [.tmp 4]⟩, ⟨some 52, none, .pur (.len false) [.tmp 51]⟩, ⟨some 53, none, .pur (.fla 5) [.tmp 3]⟩, ⟨none, none, .eff (.st 1) [.tmp 53, .tmp 52]⟩]) [])
  (.seq (.reg (straight [⟨some 54, none, .ld (some 6) (.tmp 3)⟩, ⟨none, none, .eff (.st 6) [.tmp 2, .tmp 54]⟩]) [])
  (.ret))))))⟩
theorem K_compare_Add : compF Try.prog 26 = some S_compare_Add := by kernel_rfl

-- 27
def S_forebaylaw40_own_L1 : SCode :=
  .seq (.seq (.reg (straight [⟨some 6, none, .pur .mov [.tmp 4]⟩, ⟨some 7, none, .pur .mov [.tmp 0]⟩, ⟨some 8, none, .pur (.len false) [.tmp 7]⟩, ⟨some 9, none, .pur (.bin .lss) [.tmp 6, .tmp 8]⟩]) [9])
  (.cond (.tmp 9) (.skip) (.exit 0)))
  (.seq (.block 1 (.seq (.reg (straight [⟨some 12, none, .pur .mov [.tmp 0]⟩, ⟨some 13, none, .pur .mov [.tmp 4]⟩, ⟨some 14, none, .pur (.ixa 11) [.tmp 12, .tmp 13]⟩, ⟨some 15, none, .ld (some 11) (.tmp 14)⟩, ⟨some 5, none, .eff (.new 129 [.int .i64 0, .int .i64 0, .slice none 0 0, .slice none 0 0, .int .i64 0, .int .i64 0, .int .i64 0, .int .i64 0, .int .i64 0, .int .i64 0, .int .i64 0]) []⟩, ⟨none, none, .eff (.st 11) [.tmp 5, .tmp 15]⟩]) [5])
  (.seq (.reg (straight [⟨some 16, none, .eff (.bsl 3 1) []⟩, ⟨some 17, none, .pur .mov [.tmp 0]⟩, ⟨some 18, none, .pur .mov [.tmp 4]⟩, ⟨some 19, none, .pur (.ixa 11) [.tmp 17, .tmp 18]⟩, ⟨some 20, none, .pur (.fla 2) [.tmp 19]⟩, ⟨some 21, none, .ld none (.tmp 20)⟩, ⟨some 22, none, .eff (.app 3 1 8 [.int .i64 0]) [.tmp 16, .tmp 21]⟩, ⟨some 23, none, .pur (.fla 2) [.tmp 5]⟩, ⟨none, none, .eff (.st 1) [.tmp 23, .tmp 22]⟩]) [])
  (.seq (.reg (straight [⟨some 24, none, .eff (.bsl 3 1) []⟩, ⟨some 25, none, .pur .mov [.tmp 0]⟩, ⟨some 26, none, .pur .mov [.tmp 4]⟩, ⟨some 27, none, .pur (.ixa 11) [.tmp 25, .tmp 26]⟩, ⟨some 28, none, .pur (.fla 3) [.tmp 27]⟩, ⟨some 29, none, .ld none (.tmp 28)⟩, ⟨some 30, none, .eff (.app 3 1 8 [.int .i64 0]) [.tmp 24, .tmp 29]⟩, ⟨some 31, none, .pur (.fla 3) [.tmp 5]⟩, ⟨none, none, .eff (.st 1) [.tmp 31, .tmp 30]⟩]) [])
  (.reg (straight [⟨some 32, none, .pur .mov [.tmp 3]⟩, ⟨some 33, none, .ld (some 11) (.tmp 5)⟩, ⟨some 34, none, .eff (.bsl 129 11) [.tmp 33]⟩, ⟨some 35, none, .eff (.app 129 11 120 [.int .i64 0, .int .i64 0, .slice none 0 0, .slice none 0 0, .int .i64 0, .int .i64 0, .int .i64 0, .int .i64 0, .int .i64 0, .int .i64 0, .int .i64 0]) [.tmp 32, .tmp 34]⟩, ⟨some 3, none, .pur .mov [.tmp 35]⟩]) [3])))))
  (.reg (straight [⟨some 10, none, .pur .mov [.tmp 4]⟩, ⟨some 11, none, .pur (.bin .add) [.tmp 10, .const (.int .i64 1)]⟩, ⟨some 4, none, .pur .mov [.tmp 11]⟩]) [4]))
def S_forebaylaw40_own : Fun := ⟨37, [2, 4, 0, 9, 5, 3], [.tmp 2],
  .seq (.reg (straight [⟨some 2, none, .pur .mov [.const (.slice none 0 0)]⟩]) [2])
  (.seq (.reg (straight [⟨some 3, none, .pur .mov [.const (.slice none 0 0)]⟩]) [3])
  (.seq (.seq (.reg (straight [⟨some 4, none, .pur .mov [.const (.int .i64 0)]⟩]) [4])
  (.block 0 (.loop S_forebaylaw40_own_L1)))
  (.seq (.reg (straight [⟨some 36, none, .pur .mov [.tmp 3]⟩, ⟨some 2, none, .pur .mov [.tmp 36]⟩]) [2])
  (.ret))))⟩
theorem K_forebaylaw40_own : compF Try.prog 27 = some S_forebaylaw40_own := by kernel_rfl

-- 84
def S_compare_Agrees : Fun := ⟨29, [4, 0, 1, 2, 5, 3, 15, 22], [.tmp 4],
  .seq (.reg (straight [⟨some 2, none, .eff (.box 129) [.tmp 0]⟩, ⟨some 3, none, .eff (.box 131) [.tmp 1]⟩, ⟨some 4, none, .pur .mov [.const (.int .i64 0)]⟩]) [2, 3, 4])
  (.seq (.block 0 (.seq (.seq (.reg (straight [⟨some 6, none, .pur (.fla 0) [.tmp 2]⟩, ⟨some 7, none, .ld none (.tmp 6)⟩, ⟨some 8, none, .pur (.bin .neq) [.tmp 7, .const (.int .i64 1)]⟩, ⟨some 5, none, .pur .mov [.tmp 8]⟩]) [5])
  (.cond (.tmp 5) (.skip) (.seq (.reg (straight [⟨some 9, none, .pur (.fla 1) [.tmp 2]⟩, ⟨some 10, none, .ld none (.tmp 9)⟩, ⟨some 11, none, .pur (.bin .neq) [.tmp 10, .const (.int .i64 0)]⟩, ⟨some 5, none, .pur .mov [.tmp 11]⟩]) [5])
  (.cond (.tmp 5) (.skip) (.reg (straight [⟨some 12, none, .pur (.fla 0) [.tmp 3]⟩, ⟨some 13, none, .ld none (.tmp 12)⟩, ⟨some 14, none, .pur (.bin .neq) [.tmp 13, .const (.int .i64 1)]⟩, ⟨some 5, none, .pur .mov [.tmp 14]⟩]) [5])))))
  (.cond (.tmp 5) (.seq (.reg (straight [⟨some 4, none, .pur .mov [.const (.int .i64 8)]⟩]) [4])
  (.ret)) (.seq (.reg (straight [⟨some 16, none, .pur (.fla 2) [.tmp 2]⟩, ⟨some 17, none, .ld none (.tmp 16)⟩, ⟨some 18, none, .pur (.fla 2) [.tmp 3]⟩, ⟨some 19, none, .ld none (.tmp 18)⟩, ⟨some 20, none, .eff (.call 112) [.tmp 17, .tmp 19]⟩, ⟨some 21, none, .pur .not [.tmp 20]⟩, ⟨some 15, none, .pur .mov [.tmp 21]⟩]) [15])
  (.cond (.tmp 15) (.seq (.reg (straight [⟨some 4, none, .pur .mov [.const (.int .i64 4)]⟩]) [4])
  (.ret)) (.seq (.reg (straight [⟨some 23, none, .pur (.fla 3) [.tmp 2]⟩, ⟨some 24, none, .ld none (.tmp 23)⟩, ⟨some 25, none, .pur (.fla 3) [.tmp 3]⟩, ⟨some 26, none, .ld none (.tmp 25)⟩, ⟨some 27, none, .eff (.call 112) [.tmp 24, .tmp 26]⟩, ⟨some 28, none, .pur .not [.tmp 27]⟩, ⟨some 22, none, .pur .mov [.tmp 28]⟩]) [22])
  (.cond (.tmp 22) (.seq (.reg (straight [⟨some 4, none, .pur .mov [.const (.int .i64 3)]⟩]) [4])
  (.ret)) (.skip))))))))
  (.seq (.reg (straight [⟨some 4, none, .pur .mov [.const (.int .i64 0)]⟩]) [4])
  (.ret)))⟩
theorem K_compare_Agrees : compF Try.prog 84 = some S_compare_Agrees := by kernel_rfl

-- 85
def S_compare_Least_L1 : SCode :=
  .seq (.reg (straight [⟨some 12, none, .pur (.bin .lss) [.tmp 11, .tmp 10]⟩]) [12])
  (.seq (.cond (.tmp 12) (.skip) (.exit 0))
  (.seq (.block 1 (.seq (.reg (straight [⟨some 13, none, .pur (.ixa 11) [.tmp 9, .tmp 11]⟩, ⟨some 14, none, .ld (some 11) (.tmp 13)⟩, ⟨some 8, none, .eff (.new 129 [.int .i64 0, .int .i64 0, .slice none 0 0, .slice none 0 0, .int .i64 0, .int .i64 0, .int .i64 0, .int .i64 0, .int .i64 0, .int .i64 0, .int .i64 0]) []⟩, ⟨none, none, .eff (.st 11) [.tmp 8, .tmp 14]⟩]) [8])
  (.seq (.reg (straight [⟨some 15, none, .ld (some 11) (.tmp 8)⟩, ⟨some 16, none, .ld (some 7) (.tmp 2)⟩, ⟨some 17, none, .eff (.call 84) [.tmp 15, .tmp 16]⟩, ⟨some 18, none, .pur (.bin .eql) [.tmp 17, .const (.int .i64 0)]⟩, ⟨some 19, none, .pur .mov [.tmp 18]⟩, ⟨some 20, some (19, true), .pur .mov [.tmp 6]⟩, ⟨some 21, some (19, true), .pur .not [.tmp 20]⟩, ⟨some 22, some (19, true), .pur .mov [.tmp 21]⟩, ⟨some 23, some (22, false), .pur (.fla 4) [.tmp 8]⟩, ⟨some 24, some (22, false), .pur (.fla 0) [.tmp 23]⟩, ⟨some 25, some (22, false), .ld none (.tmp 24)⟩, ⟨some 26, some (22, false), .pur .mov [.tmp 5]⟩, ⟨some 27, some (22, false), .pur (.bin .lss) [.tmp 25, .tmp 26]⟩, ⟨some 28, some (19, true), .pur .pick [.tmp 22, .const (.bool true), .tmp 27]⟩, ⟨some 29, none, .pur .pick [.tmp 19, .tmp 28, .const (.bool false)]⟩]) [29])
  (.cond (.tmp 29) (.reg (straight [⟨some 30, none, .pur (.fla 4) [.tmp 8]⟩, ⟨some 31, none, .pur (.fla 0) [.tmp 30]⟩, ⟨some 32, none, .ld none (.tmp 31)⟩, ⟨some 5, none, .pur .mov [.tmp 32]⟩, ⟨some 6, none, .pur .mov [.const (.bool true)]⟩]) [5, 6]) (.skip)))))
  (.reg (straight [⟨some 33, none, .pur (.bin .add) [.tmp 11, .const (.int .i64 1)]⟩, ⟨some 11, none, .pur .mov [.tmp 33]⟩]) [11])))
def S_compare_Least : Fun := ⟨35, [4, 0, 1, 11, 10, 12, 9, 8, 2, 6, 5, 29], [.tmp 4],
  .seq (.reg (straight [⟨some 2, none, .eff (.box 131) [.tmp 0]⟩, ⟨some 4, none, .pur .mov [.const (.int .i64 0)]⟩]) [2, 4])
  (.seq (.reg (straight [⟨some 5, none, .pur .mov [.const (.int .i64 (-1))]⟩, ⟨some 6, none, .pur .mov [.const (.bool false)]⟩]) [5, 6])
  (.seq (.seq (.reg (straight [⟨some 9, none, .pur .mov [.tmp 1]⟩, ⟨some 10, none, .pur (.len false) [.tmp 9]⟩, ⟨some 11, none, .pur .mov [.const (.int .i64 0)]⟩]) [9, 10, 11])
  (.block 0 (.loop S_compare_Least_L1)))
  (.seq (.reg (straight [⟨some 34, none, .pur .mov [.tmp 5]⟩, ⟨some 4, none, .pur .mov [.tmp 34]⟩]) [4])
  (.ret))))⟩
theorem K_compare_Least : compF Try.prog 85 = some S_compare_Least := by kernel_rfl

-- 86
def S_slices_ContainsFunc_api_Result_api_Result : Fun := ⟨9, [4, 0, 1], [.tmp 4],
  .seq (.reg (straight [⟨some 4, none, .pur .mov [.const (.bool false)]⟩]) [4])
  (.seq (.reg (straight [⟨some 5, none, .pur .mov [.tmp 0]⟩, ⟨some 6, none, .pur .mov [.tmp 1]⟩, ⟨some 7, none, .eff (.call 113) [.tmp 5, .tmp 6]⟩, ⟨some 8, none, .pur (.bin .geq) [.tmp 7, .const (.int .i64 0)]⟩, ⟨some 4, none, .pur .mov [.tmp 8]⟩]) [4])
  (.ret))⟩
theorem K_slices_ContainsFunc_api_Result_api_Result : compF Try.prog 86 = some S_slices_ContainsFunc_api_Result_api_Result := by kernel_rfl

-- 87
def S_compare_Add_1 : Fun := ⟨7, [3, 0, 2, 1], [.tmp 3],
  .seq (.reg (straight [⟨some 2, none, .eff (.box 129) [.tmp 0]⟩, ⟨some 3, none, .pur .mov [.const (.bool false)]⟩]) [2, 3])
  (.seq (.reg (straight [⟨some 4, none, .ld (some 11) (.tmp 2)⟩, ⟨some 5, none, .ld (some 11) (.tmp 1)⟩, ⟨some 6, none, .eff (.call 88) [.tmp 4, .tmp 5]⟩, ⟨some 3, none, .pur .mov [.tmp 6]⟩]) [3])
  (.ret))⟩
theorem K_compare_Add_1 : compF Try.prog 87 = some S_compare_Add_1 := by kernel_rfl

-- 88
def S_compare_alike : Fun := ⟨30, [4, 0, 1, 2, 3], [.tmp 4],
  .seq (.reg (straight [⟨some 2, none, .eff (.box 129) [.tmp 0]⟩, ⟨some 3, none, .eff (.box 129) [.tmp 1]⟩, ⟨some 4, none, .pur .mov [.const (.bool false)]⟩]) [2, 3, 4])
  (.seq (.reg (straight [⟨some 5, none, .pur (.fla 0) [.tmp 2]⟩, ⟨some 6, none, .ld none (.tmp 5)⟩, ⟨some 7, none, .pur (.fla 1) [.tmp 2]⟩, ⟨some 8, none, .ld none (.tmp 7)⟩, ⟨some 9, none, .pur (.bld [.int .i64 0, .int .i64 0] [(0, 1), (1, 1)]) [.tmp 6, .tmp 8]⟩, ⟨some 10, none, .pur (.fla 0) [.tmp 3]⟩, ⟨some 11, none, .ld none (.tmp 10)⟩, ⟨some 12, none, .pur (.fla 1) [.tmp 3]⟩, ⟨some 13, none, .ld none (.tmp 12)⟩, ⟨some 14, none, .pur (.bld [.int .i64 0, .int .i64 0] [(0, 1), (1, 1)]) [.tmp 11, .tmp 13]⟩, ⟨some 15, none, .pur (.eqs false [.int .i64, .int .i64]) [.tmp 9, .tmp 14]⟩, ⟨some 16, none, .pur .mov [.tmp 15]⟩, ⟨some 17, some (16, true), .pur (.fla 2) [.tmp 2]⟩, ⟨some 18, some (16, true), .ld none (.tmp 17)⟩, ⟨some 19, some (16, true), .pur (.fla 2) [.tmp 3]⟩, ⟨some 20, some (16, true), .ld none (.tmp 19)⟩, ⟨some 21, some (16, true), .eff (.call 112) [.tmp 18, .tmp 20]⟩, ⟨some 22, none, .pur .pick [.tmp 16, .tmp 21, .const (.bool false)]⟩, ⟨some 23, none, .pur .mov [.tmp 22]⟩, ⟨some 24, some (23, true), .pur (.fla 3) [.tmp 2]⟩, ⟨some 25, some (23, true), .ld none (.tmp 24)⟩, ⟨some 26, some (23, true), .pur (.fla 3) [.tmp 3]⟩, ⟨some 27, some (23, true), .ld none (.tmp 26)⟩, ⟨some 28, some (23, true), .eff (.call 112) [.tmp 25, .tmp 27]⟩, ⟨some 29, none, .pur .pick [.tmp 23, .tmp 28, .const (.bool false)]⟩, ⟨some 4, none, .pur .mov [.tmp 29]⟩]) [4])
  (.ret))⟩
theorem K_compare_alike : compF Try.prog 88 = some S_compare_alike := by kernel_rfl

-- 112
def S_compare_same : Fun := ⟨15, [4, 0, 1, 6], [.tmp 4],
  .seq (.reg (straight [⟨some 4, none, .pur .mov [.const (.bool false)]⟩]) [4])
  (.seq (.reg (straight [⟨some 8, none, .pur .mov [.tmp 0]⟩, ⟨some 9, none, .pur .mov [.tmp 1]⟩, ⟨some 10, none, .eff (.call 126) [.tmp 8, .tmp 9]⟩, ⟨some 7, none, .pur .mov [.tmp 10]⟩, ⟨some 11, none, .pur (.ext 0) [.tmp 7]⟩, ⟨some 12, none, .pur (.ext 1) [.tmp 7]⟩, ⟨some 5, none, .pur .mov [.tmp 11]⟩, ⟨some 6, none, .pur .mov [.tmp 12]⟩]) [6])
  (.seq (.reg (straight [⟨some 13, none, .pur .mov [.tmp 6]⟩, ⟨some 14, none, .pur .not [.tmp 13]⟩, ⟨some 4, none, .pur .mov [.tmp 14]⟩]) [4])
  (.ret)))⟩
theorem K_compare_same : compF Try.prog 112 = some S_compare_same := by kernel_rfl

-- 113
def S_slices_IndexFunc_api_Result_api_Result_L1 : SCode :=
  .seq (.reg (straight [⟨some 9, none, .pur (.bin .lss) [.tmp 8, .tmp 7]⟩]) [9])
  (.seq (.cond (.tmp 9) (.skip) (.exit 0))
  (.seq (.block 1 (.seq (.reg (straight [⟨some 10, none, .pur .mov [.tmp 8]⟩, ⟨some 5, none, .pur .mov [.tmp 10]⟩]) [5])
  (.seq (.reg (straight [⟨some 11, none, .pur .mov [.tmp 1]⟩, ⟨some 12, none, .pur .mov [.tmp 0]⟩, ⟨some 13, none, .pur .mov [.tmp 5]⟩, ⟨some 14, none, .pur (.ixa 11) [.tmp 12, .tmp 13]⟩, ⟨some 15, none, .ld (some 11) (.tmp 14)⟩, ⟨some 16, none, .eff .callv [.tmp 11, .tmp 15]⟩]) [16])
  (.cond (.tmp 16) (.seq (.reg (straight [⟨some 17, none, .pur .mov [.tmp 5]⟩, ⟨some 4, none, .pur .mov [.tmp 17]⟩]) [4])
  (.ret)) (.skip)))))
  (.reg (straight [⟨some 18, none, .pur (.bin .add) [.tmp 8, .const (.int .i64 1)]⟩, ⟨some 8, none, .pur .mov [.tmp 18]⟩]) [8])))
def S_slices_IndexFunc_api_Result_api_Result : Fun := ⟨19, [4, 0, 8, 7, 9, 1, 5, 16], [.tmp 4],
  .seq (.reg (straight [⟨some 4, none, .pur .mov [.const (.int .i64 0)]⟩]) [4])
  (.seq (.seq (.reg (straight [⟨some 6, none, .pur .mov [.tmp 0]⟩, ⟨some 7, none, .pur (.len false) [.tmp 6]⟩, ⟨some 8, none, .pur .mov [.const (.int .i64 0)]⟩]) [7, 8])
  (.block 0 (.loop S_slices_IndexFunc_api_Result_api_Result_L1)))
  (.seq (.reg (straight [⟨some 4, none, .pur .mov [.const (.int .i64 (-1))]⟩]) [4])
  (.ret)))⟩
theorem K_slices_IndexFunc_api_Result_api_Result : compF Try.prog 113 = some S_slices_IndexFunc_api_Result_api_Result := by kernel_rfl

-- 126
def S_sink_Differ_L1 : SCode :=
  .seq (.reg (straight [⟨some 13, none, .pur (.bin .lss) [.tmp 12, .tmp 11]⟩]) [13])
  (.seq (.cond (.tmp 13) (.skip) (.exit 0))
  (.seq (.block 1 (.seq (.reg (straight [⟨some 14, none, .pur .mov [.tmp 12]⟩, ⟨some 6, none, .pur .mov [.tmp 14]⟩]) [6])
  (.seq (.reg (straight [⟨some 15, none, .pur .mov [.tmp 0]⟩, ⟨some 16, none, .pur .mov [.tmp 6]⟩, ⟨some 17, none, .pur (.ixa 1) [.tmp 15, .tmp 16]⟩, ⟨some 18, none, .ld none (.tmp 17)⟩, ⟨some 19, none, .pur .mov [.tmp 1]⟩, ⟨some 20, none, .pur .mov [.tmp 6]⟩, ⟨some 21, none, .pur (.ixa 1) [.tmp 19, .tmp 20]⟩, ⟨some 22, none, .ld none (.tmp 21)⟩, ⟨some 23, none, .pur (.bin .neq) [.tmp 18, .tmp 22]⟩]) [23])
  (.cond (.tmp 23) (.seq (.reg (straight [⟨some 24, none, .pur .mov [.tmp 6]⟩, ⟨some 4, none, .pur .mov [.tmp 24]⟩, ⟨some 5, none, .pur .mov [.const (.bool true)]⟩]) [4, 5])
  (.ret)) (.skip)))))
  (.reg (straight [⟨some 25, none, .pur (.bin .add) [.tmp 12, .const (.int .i64 1)]⟩, ⟨some 12, none, .pur .mov [.tmp 25]⟩]) [12])))
def S_sink_Differ : Fun := ⟨36, [4, 5, 0, 1, 12, 11, 13, 6, 23, 30], [.tmp 4, .tmp 5],
  .seq (.reg (straight [⟨some 4, none, .pur .mov [.const (.int .i64 0)]⟩, ⟨some 5, none, .pur .mov [.const (.bool false)]⟩]) [4, 5])
  (.seq (.seq (.reg (straight [⟨some 7, none, .pur .mov [.tmp 0]⟩, ⟨some 8, none, .pur (.len false) [.tmp 7]⟩, ⟨some 9, none, .pur .mov [.tmp 1]⟩, ⟨some 10, none, .pur (.len false) [.tmp 9]⟩, ⟨some 11, none, .pur (.minmax false) [.tmp 8, .tmp 10]⟩, ⟨some 12, none, .pur .mov [.const (.int .i64 0)]⟩]) [11, 12])
  (.block 0 (.loop S_sink_Differ_L1)))
  (.seq (.seq (.reg (straight [⟨some 26, none, .pur .mov [.tmp 0]⟩, ⟨some 27, none, .pur (.len false) [.tmp 26]⟩, ⟨some 28, none, .pur .mov [.tmp 1]⟩, ⟨some 29, none, .pur (.len false) [.tmp 28]⟩, ⟨some 30, none, .pur (.bin .eql) [.tmp 27, .tmp 29]⟩]) [30])
  (.cond (.tmp 30) (.seq (.reg (straight [⟨some 4, none, .pur .mov [.const (.int .i64 0)]⟩, ⟨some 5, none, .pur .mov [.const (.bool false)]⟩]) [4, 5])
  (.ret)) (.skip)))
  (.seq (.reg (straight [⟨some 31, none, .pur .mov [.tmp 0]⟩, ⟨some 32, none, .pur (.len false) [.tmp 31]⟩, ⟨some 33, none, .pur .mov [.tmp 1]⟩, ⟨some 34, none, .pur (.len false) [.tmp 33]⟩, ⟨some 35, none, .pur (.minmax false) [.tmp 32, .tmp 34]⟩, ⟨some 4, none, .pur .mov [.tmp 35]⟩, ⟨some 5, none, .pur .mov [.const (.bool true)]⟩]) [4, 5])
  (.ret))))⟩
theorem K_sink_Differ : compF Try.prog 126 = some S_sink_Differ := by kernel_rfl

end Go.Proofs.Ytilofhocodbknaa
