import Derived.Test.YtilofhocodbknaaKj
import Derived.Test.YtilofhocodbknaaProg
import Derived.KernelRfl
namespace Go.Proofs.Ytilofhocodbknaa
open Go Go.Kx Go.Proofs
set_option maxRecDepth 100000

-- 4
def S_forebaylaw40_CompareOrder : Fun := ⟨175, [6, 14, 0, 2, 28, 31, 1, 7, 9, 8, 10, 100, 11, 12], [.tmp 6],
  .seq (.reg (straight [⟨some 6, none, .pur .mov [.const (.bool false)]⟩]) [6])
  (.seq (.seq (.reg (straight [⟨some 13, none, .eff (.call 24) []⟩, ⟨some 14, none, .pur .not [.tmp 13]⟩]) [14])
  (.cond (.tmp 14) (.seq (.reg (straight [⟨some 6, none, .pur .mov [.const (.bool false)]⟩]) [6])
  (.ret)) (.skip)))
  (.seq (.seq (.reg (straight [⟨some 15, none, .pur .mov [.tmp 0]⟩, ⟨some 16, none, .eff (.call 25) [.tmp 15]⟩, ⟨some 17, none, .pur .mov [.tmp 16]⟩, ⟨some 18, some (17, false), .pur .mov [.tmp 2]⟩, ⟨some 19, some (17, false), .eff (.call 25) [.tmp 18]⟩, ⟨some 20, none, .pur .pick [.tmp 17, .const (.bool true), .tmp 19]⟩, ⟨some 21, none, .pur .mov [.tmp 20]⟩, ⟨some 22, some (21, false), .pur .mov [.tmp 0]⟩, ⟨some 23, some (21, false), .pur (.len false) [.tmp 22]⟩, ⟨some 24, some (21, false), .pur .mov [.tmp 2]⟩, ⟨some 25, some (21, false), .pur (.len false) [.tmp 24]⟩, ⟨some 26, some (21, false), .pur (.bin .add) [.tmp 23, .tmp 25]⟩, ⟨some 27, some (21, false), .pur (.bin .gtr) [.tmp 26, .const (.int .i64 60)]⟩, ⟨some 28, none, .pur .pick [.tmp 21, .const (.bool true), .tmp 27]⟩]) [28])
  (.cond (.tmp 28) (.seq (.reg (straight [⟨some 6, none, .pur .mov [.const (.bool true)]⟩]) [6])
  (.ret)) (.skip)))
  (.seq (.reg (straight [⟨some 7, none, .pur .mov [.const (.int .i64 0)]⟩]) [7])
  (.seq (.seq (.reg (straight [⟨some 29, none, .pur .mov [.tmp 0]⟩, ⟨some 30, none, .pur (.len false) [.tmp 29]⟩, ⟨some 31, none, .pur (.bin .gtr) [.tmp 30, .const (.int .i64 0)]⟩]) [31])
  (.cond (.tmp 31) (.reg (straight [⟨some 32, none, .pur .mov [.tmp 1]⟩, ⟨some 33, none, .pur (.toInt .u64) [.tmp 32]⟩, ⟨some 34, none, .pur .mov [.tmp 0]⟩, ⟨some 35, none, .pur (.len false) [.tmp 34]⟩, ⟨some 36, none, .pur (.toInt .u64) [.tmp 35]⟩, ⟨some 37, none, .pur (.bin .rem) [.tmp 33, .tmp 36]⟩, ⟨some 38, none, .pur (.toInt .i64) [.tmp 37]⟩, ⟨some 7, none, .pur .mov [.tmp 38]⟩]) [7]) (.skip)))
  (.seq (.reg (straight [⟨some 39, none, .pur .mov [.tmp 0]⟩, ⟨some 40, none, .eff (.call 27) [.tmp 39]⟩, ⟨some 41, none, .eff (.call 26) [.tmp 40]⟩, ⟨some 8, none, .eff (.new 38 [.int .i64 0, .int .i64 0, .int .i64 0, .int .i64 0, .int .i64 0, .int .i64 0]) []⟩, ⟨none, none, .eff (.st 6) [.tmp 8, .tmp 41]⟩]) [8])
  (.seq (.reg (.run ⟨some 42, none, .pur .mov [.tmp 0]⟩ (.run ⟨some 43, none, .pur .mov [.tmp 7]⟩ (.run ⟨some 44, none, .pur (.slc 11 true false) [.tmp 42, .tmp 43]⟩ (.run ⟨some 46, none, .pur .mov [.tmp 0]⟩ (.run ⟨some 47, none, .pur .mov [.tmp 7]⟩ (.run ⟨some 48, none, .pur (.slc 11 false true) [.tmp 46, .tmp 47]⟩ (.both (.eff ⟨some 45, none, .eff (.call 27) [.tmp 44]⟩ [] (.both (.eff ⟨some 49, none, .eff (.call 27) [.tmp 48]⟩ [] (.both (.eff ⟨some 50, none, .eff (.app 129 11 120 [.int .i64 0, .int .i64 0, .slice none 0 0, .slice none 0 0, .int .i64 0, .int .i64 0, .int .i64 0, .int .i64 0, .int .i64 0, .int .i64 0, .int .i64 0]) [.tmp 45, .tmp 49]⟩ [] (.both (.eff ⟨some 51, none, .eff (.call 26) [.tmp 50]⟩ [] (.eff ⟨some 9, none, .eff (.new 38 [.int .i64 0, .int .i64 0, .int .i64 0, .int .i64 0, .int .i64 0, .int .i64 0]) []⟩ [] (.eff ⟨none, none, .eff (.st 6) [.tmp 9, .tmp 51]⟩ [] .done))) (.eff ⟨some 9, none, .eff (.new 38 [.int .i64 0, .int .i64 0, .int .i64 0, .int .i64 0, .int .i64 0, .int .i64 0]) []⟩ [] (.eff ⟨some 51, none, .eff (.call 26) [.tmp 50]⟩ [] (.eff ⟨none, none, .eff (.st 6) [.tmp 9, .tmp 51]⟩ [] .done))))) (.eff ⟨some 9, none, .eff (.new 38 [.int .i64 0, .int .i64 0, .int .i64 0, .int .i64 0, .int .i64 0, .int .i64 0]) []⟩ [] (.eff ⟨some 50, none, .eff (.app 129 11 120 [.int .i64 0, .int .i64 0, .slice none 0 0, .slice none 0 0, .int .i64 0, .int .i64 0, .int .i64 0, .int .i64 0, .int .i64 0, .int .i64 0, .int .i64 0]) [.tmp 45, .tmp 49]⟩ [] (.eff ⟨some 51, none, .eff (.call 26) [.tmp 50]⟩ [] (.eff ⟨none, none, .eff (.st 6) [.tmp 9, .tmp 51]⟩ [] .done)))))) (.eff ⟨some 9, none, .eff (.new 38 [.int .i64 0, .int .i64 0, .int .i64 0, .int .i64 0, .int .i64 0, .int .i64 0]) []⟩ [] (.eff ⟨some 49, none, .eff (.call 27) [.tmp 48]⟩ [] (.eff ⟨some 50, none, .eff (.app 129 11 120 [.int .i64 0, .int .i64 0, .slice none 0 0, .slice none 0 0, .int .i64 0, .int .i64 0, .int .i64 0, .int .i64 0, .int .i64 0, .int .i64 0, .int .i64 0]) [.tmp 45, .tmp 49]⟩ [] (.eff ⟨some 51, none, .eff (.call 26) [.tmp 50]⟩ [] (.eff ⟨none, none, .eff (.st 6) [.tmp 9, .tmp 51]⟩ [] .done))))))) (.eff ⟨some 9, none, .eff (.new 38 [.int .i64 0, .int .i64 0, .int .i64 0, .int .i64 0, .int .i64 0, .int .i64 0]) []⟩ [] (.eff ⟨some 45, none, .eff (.call 27) [.tmp 44]⟩ [] (.eff ⟨some 49, none, .eff (.call 27) [.tmp 48]⟩ [] (.eff ⟨some 50, none, .eff (.app 129 11 120 [.int .i64 0, .int .i64 0, .slice none 0 0, .slice none 0 0, .int .i64 0, .int .i64 0, .int .i64 0, .int .i64 0, .int .i64 0, .int .i64 0, .int .i64 0]) [.tmp 45, .tmp 49]⟩ [] (.eff ⟨some 51, none, .eff (.call 26) [.tmp 50]⟩ [] (.eff ⟨none, none, .eff (.st 6) [.tmp 9, .tmp 51]⟩ [] .done))))))))))))) [9])
  (.seq (.reg (straight [⟨some 52, none, .pur .mov [.tmp 0]⟩, ⟨some 53, none, .eff (.call 27) [.tmp 52]⟩, ⟨some 54, none, .pur .mov [.tmp 0]⟩, ⟨some 55, none, .eff (.call 27) [.tmp 54]⟩, ⟨some 56, none, .eff (.app 129 11 120 [.int .i64 0, .int .i64 0, .slice none 0 0, .slice none 0 0, .int .i64 0, .int .i64 0, .int .i64 0, .int .i64 0, .int .i64 0, .int .i64 0, .int .i64 0]) [.tmp 53, .tmp 55]⟩, ⟨some 57, none, .eff (.call 26) [.tmp 56]⟩, ⟨some 10, none, .eff (.new 38 [.int .i64 0, .int .i64 0, .int .i64 0, .int .i64 0, .int .i64 0, .int .i64 0]) []⟩, ⟨none, none, .eff (.st 6) [.tmp 10, .tmp 57]⟩]) [10])
  (.seq (.reg (straight [⟨some 58, none, .pur .mov [.tmp 0]⟩, ⟨some 59, none, .eff (.call 27) [.tmp 58]⟩, ⟨some 60, none, .pur .mov [.tmp 2]⟩, ⟨some 61, none, .eff (.call 27) [.tmp 60]⟩, ⟨some 62, none, .eff (.app 129 11 120 [.int .i64 0, .int .i64 0, .slice none 0 0, .slice none 0 0, .int .i64 0, .int .i64 0, .int .i64 0, .int .i64 0, .int .i64 0, .int .i64 0, .int .i64 0]) [.tmp 59, .tmp 61]⟩, ⟨some 63, none, .eff (.call 26) [.tmp 62]⟩, ⟨some 64, none, .pur .mov [.tmp 2]⟩, ⟨some 65, none, .eff (.call 27) [.tmp 64]⟩, ⟨some 66, none, .eff (.call 26) [.tmp 65]⟩, ⟨some 11, none, .eff (.new 38 [.int .i64 0, .int .i64 0, .int .i64 0, .int .i64 0, .int .i64 0, .int .i64 0]) []⟩, ⟨some 12, none, .eff (.new 38 [.int .i64 0, .int .i64 0, .int .i64 0, .int .i64 0, .int .i64 0, .int .i64 0]) []⟩, ⟨none, none, .eff (.st 6) [.tmp 11, .tmp 63]⟩, ⟨none, none, .eff (.st 6) [.tmp 12, .tmp 66]⟩]) [11, 12])
  (.seq (.seq (.reg (straight [⟨some 67, none, .ld (some 6) (.tmp 9)⟩, ⟨some 68, none, .ld (some 6) (.tmp 8)⟩, ⟨some 69, none, .pur (.eqs true [.int .i64, .int .i64, .int .i64, .int .i64, .int .i64, .int .i64]) [.tmp 67, .tmp 68]⟩, ⟨some 70, none, .pur .mov [.tmp 69]⟩, ⟨some 71, some (70, false), .pur (.fla 5) [.tmp 10]⟩, ⟨some 72, some (70, false), .ld none (.tmp 71)⟩, ⟨some 73, some (70, false), .pur (.fla 5) [.tmp 8]⟩, ⟨some 74, some (70, false), .ld none (.tmp 73)⟩, ⟨some 75, some (70, false), .pur (.bin .neq) [.tmp 72, .tmp 74]⟩, ⟨some 76, none, .pur .pick [.tmp 70, .const (.bool true), .tmp 75]⟩, ⟨some 77, none, .pur .mov [.tmp 76]⟩, ⟨some 78, some (77, false), .pur (.fla 0) [.tmp 10]⟩, ⟨some 79, some (77, false), .ld none (.tmp 78)⟩, ⟨some 80, some (77, false), .pur (.fla 0) [.tmp 8]⟩, ⟨some 81, some (77, false), .ld none (.tmp 80)⟩, ⟨some 82, some (77, false), .pur (.bin .mul) [.const (.int .i64 2), .tmp 81]⟩, ⟨some 83, some (77, false), .pur (.bin .neq) [.tmp 79, .tmp 82]⟩, ⟨some 84, none, .pur .pick [.tmp 77, .const (.bool true), .tmp 83]⟩, ⟨some 85, none, .pur .mov [.tmp 84]⟩, ⟨some 86, some (85, false), .pur (.fla 1) [.tmp 10]⟩, ⟨some 87, some (85, false), .ld none (.tmp 86)⟩, ⟨some 88, some (85, false), .pur (.fla 1) [.tmp 8]⟩, ⟨some 89, some (85, false), .ld none (.tmp 88)⟩, ⟨some 90, some (85, false), .pur (.bin .mul) [.const (.int .i64 2), .tmp 89]⟩, ⟨some 91, some (85, false), .pur (.bin .neq) [.tmp 87, .tmp 90]⟩, ⟨some 92, none, .pur .pick [.tmp 85, .const (.bool true), .tmp 91]⟩, ⟨some 93, none, .pur .mov [.tmp 92]⟩, ⟨some 94, some (93, false), .pur (.fla 4) [.tmp 10]⟩, ⟨some 95, some (93, false), .ld none (.tmp 94)⟩, ⟨some 96, some (93, false), .pur (.fla 4) [.tmp 8]⟩, ⟨some 97, some (93, false), .ld none (.tmp 96)⟩, ⟨some 98, some (93, false), .pur (.bin .mul) [.const (.int .i64 2), .tmp 97]⟩, ⟨some 99, some (93, false), .pur (.bin .neq) [.tmp 95, .tmp 98]⟩, ⟨some 100, none, .pur .pick [.tmp 93, .const (.bool true), .tmp 99]⟩]) [100])
  (.cond (.tmp 100) (.seq (.reg (straight [⟨some 6, none, .pur .mov [.const (.bool false)]⟩]) [6])
  (.ret)) (.skip)))
  (.seq (.reg (straight [⟨some 101, none, .pur (.fla 0) [.tmp 11]⟩, ⟨some 102, none, .ld none (.tmp 101)⟩, ⟨some 103, none, .pur (.fla 0) [.tmp 8]⟩, ⟨some 104, none, .ld none (.tmp 103)⟩, ⟨some 105, none, .pur (.fla 0) [.tmp 12]⟩, ⟨some 106, none, .ld none (.tmp 105)⟩, ⟨some 107, none, .pur (.bin .add) [.tmp 104, .tmp 106]⟩, ⟨some 108, none, .pur (.bin .eql) [.tmp 102, .tmp 107]⟩, ⟨some 109, none, .pur .mov [.tmp 108]⟩, ⟨some 110, some (109, true), .pur (.fla 1) [.tmp 11]⟩, ⟨some 111, some (109, true), .ld none (.tmp 110)⟩, ⟨some 112, some (109, true), .pur (.fla 1) [.tmp 8]⟩, ⟨some 113, some (109, true), .ld none (.tmp 112)⟩, ⟨some 114, some (109, true), .pur (.fla 1) [.tmp 12]⟩, ⟨some 115, some (109, true), .ld none (.tmp 114)⟩, ⟨some 116, some (109, true), .pur (.bin .add) [.tmp 113, .tmp 115]⟩, ⟨some 117, some (109, true), .pur (.bin .eql) [.tmp 111, .tmp 116]⟩, ⟨some 118, none, .pur .pick [.tmp 109, .tmp 117, .const (.bool false)]⟩, ⟨some 119, none, .pur .mov [.tmp 118]⟩, ⟨some 120, some (119, true), .pur (.fla 2) [.tmp 11]⟩, ⟨some 121, some (119, true), .ld none (.tmp 120)⟩, ⟨some 122, some (119, true), .pur (.fla 2) [.tmp 8]⟩, ⟨some 123, some (119, true), .ld none (.tmp 122)⟩, ⟨some 124, some (119, true), .pur (.fla 2) [.tmp 12]⟩, ⟨some 125, some (119, true), .ld none (.tmp 124)⟩, ⟨some 126, some (119, true), .pur (.bin .add) [.tmp 123, .tmp 125]⟩, ⟨some 127, some (119, true), .pur (.bin .eql) [.tmp 121, .tmp 126]⟩, ⟨some 128, none, .pur .pick [.tmp 119, .tmp 127, .const (.bool false)]⟩, ⟨some 129, none, .pur .mov [.tmp 128]⟩, ⟨some 130, some (129, true), .pur (.fla 3) [.tmp 11]⟩, ⟨some 131, some (129, true), .ld none (.tmp 130)⟩, ⟨some 132, some (129, true), .pur (.fla 3) [.tmp 8]⟩, ⟨some 133, some (129, true), .ld none (.tmp 132)⟩, ⟨some 134, some (129, true), .pur (.fla 3) [.tmp 12]⟩, ⟨some 135, some (129, true), .ld none (.tmp 134)⟩, ⟨some 136, some (129, true), .pur (.bin .add) [.tmp 133, .tmp 135]⟩, ⟨some 137, some (129, true), .pur (.bin .eql) [.tmp 131, .tmp 136]⟩, ⟨some 138, none, .pur .pick [.tmp 129, .tmp 137, .const (.bool false)]⟩, ⟨some 139, none, .pur .mov [.tmp 138]⟩, ⟨some 140, some (139, true), .pur (.fla 5) [.tmp 11]⟩, ⟨some 141, some (139, true), .ld none (.tmp 140)⟩, ⟨some 142, some (139, true), .pur (.fla 5) [.tmp 8]⟩, ⟨some 143, some (139, true), .ld none (.tmp 142)⟩, ⟨some 144, some (139, true), .pur (.fla 5) [.tmp 12]⟩, ⟨some 145, some (139, true), .ld none (.tmp 144)⟩, ⟨some 146, some (139, true), .pur (.minmax true) [.tmp 143, .tmp 145]⟩, ⟨some 147, some (139, true), .pur (.bin .geq) [.tmp 141, .tmp 146]⟩, ⟨some 148, none, .pur .pick [.tmp 139, .tmp 147, .const (.bool false)]⟩, ⟨some 149, none, .pur .mov [.tmp 148]⟩, ⟨some 150, some (149, true), .pur (.fla 5) [.tmp 11]⟩, ⟨some 151, some (149, true), .ld none (.tmp 150)⟩, ⟨some 152, some (149, true), .pur (.fla 5) [.tmp 8]⟩, ⟨some 153, some (149, true), .ld none (.tmp 152)⟩, ⟨some 154, some (149, true), .pur (.fla 5) [.tmp 12]⟩, ⟨some 155, some (149, true), .ld none (.tmp 154)⟩, ⟨some 156, some (149, true), .pur (.bin .add) [.tmp 153, .tmp 155]⟩, ⟨some 157, some (149, true), .pur (.bin .leq) [.tmp 151, .tmp 156]⟩, ⟨some 158, none, .pur .pick [.tmp 149, .tmp 157, .const (.bool false)]⟩, ⟨some 159, none, .pur .mov [.tmp 158]⟩, ⟨some 160, some (159, true), .pur (.fla 1) [.tmp 8]⟩, ⟨some 161, some (159, true), .ld none (.tmp 160)⟩, ⟨some 162, some (159, true), .pur (.fla 2) [.tmp 8]⟩, ⟨some 163, some (159, true), .ld none (.tmp 162)⟩, ⟨some 164, some (159, true), .pur (.bin .add) [.tmp 161, .tmp 163]⟩, ⟨some 165, some (159, true), .pur (.fla 3) [.tmp 8]⟩, ⟨some 166, some (159, true), .ld none (.tmp 165)⟩, ⟨some 167, some (159, true), .pur (.bin .add) [.tmp 164, .tmp 166]⟩, ⟨some 168, some (159, true), .pur (.fla 4) [.tmp 8]⟩, ⟨some 169, some (159, true), .ld none (.tmp 168)⟩, ⟨some 170, some (159, true), .pur (.bin .add) [.tmp 167, .tmp 169]⟩, ⟨some 171, some (159, true), .pur (.fla 0) [.tmp 8]⟩, ⟨some 172, some (159, true), .ld none (.tmp 171)⟩, ⟨some 173, some (159, true), .pur (.bin .leq) [.tmp 170, .tmp 172]⟩, ⟨some 174, none, .pur .pick [.tmp 159, .tmp 173, .const (.bool false)]⟩, ⟨some 6, none, .pur .mov [.tmp 174]⟩]) [6])
  (.ret)))))))))))⟩
theorem K_forebaylaw40_CompareOrder : compF Try.prog 4 = some S_forebaylaw40_CompareOrder := by kernel_rfl

-- 27
def S_forebaylaw40_own_L1 : SCode :=
  .seq (.seq (.reg (straight [⟨some 6, none, .pur .mov [.tmp 4]⟩, ⟨some 7, none, .pur .mov [.tmp 0]⟩, ⟨some 8, none, .pur (.len false) [.tmp 7]⟩, ⟨some 9, none, .pur (.bin .lss) [.tmp 6, .tmp 8]⟩]) [9])
  (.cond (.tmp 9) (.skip) (.exit 0)))
  (.seq (.block 1 (.seq (.reg (straight [⟨some 12, none, .pur .mov [.tmp 0]⟩, ⟨some 13, none, .pur .mov [.tmp 4]⟩, ⟨some 14, none, .pur (.ixa 11) [.tmp 12, .tmp 13]⟩, ⟨some 15, none, .ld (some 11) (.tmp 14)⟩, ⟨some 5, none, .eff (.new 129 [.int .i64 0, .int .i64 0, .slice none 0 0, .slice none 0 0, .int .i64 0, .int .i64 0, .int .i64 0, .int .i64 0, .int .i64 0, .int .i64 0, .int .i64 0]) []⟩, ⟨none, none, .eff (.st 11) [.tmp 5, .tmp 15]⟩]) [5])
  (.seq (.reg (straight [⟨some 16, none, .eff (.bsl 3 1) []⟩, ⟨some 17, none, .pur .mov [.tmp 0]⟩, ⟨some 18, none, .pur .mov [.tmp 4]⟩, ⟨some 19, none, .pur (.ixa 11) [.tmp 17, .tmp 18]⟩, ⟨some 20, none, .pur (.fla 2) [.tmp 19]⟩, ⟨some 21, none, .ld none (.tmp 20)⟩, ⟨some 22, none, .eff (.app 3 1 8 [.int .i64 0]) [.tmp 16, .tmp 21]⟩, ⟨some 23, none, .pur (.fla 2) [.tmp 5]⟩, ⟨none, none, .eff (.st 1) [.tmp 23, .tmp 22]⟩]) [])
  (.seq (.reg (straight [⟨some 24, none, .eff (.bsl 3 1) []⟩, ⟨some 25, none, .pur .mov [.tmp 0]⟩, ⟨some 26, none, .pur .mov [.tmp 4]⟩, ⟨some 27, none, .pur (.ixa 11) [.tmp 25, .tmp 26]⟩, ⟨some 28, none, .pur (.fla 3) [.tmp 27]⟩, ⟨some 29, none, .ld none (.tmp 28)⟩, ⟨some 30, none, .eff (.app 3 1 8 [.int .i64 0]) [.tmp 24, .tmp 29]⟩, ⟨some 31, none, .pur (.fla 3) [.tmp 5]⟩, ⟨none, none, .eff (.st 1) [.tmp 31, .tmp 30]⟩]) [])
  (.reg (straight [⟨some 32, none, .pur .mov [.tmp 3]⟩, ⟨some 33, none, .ld (some 11) (.tmp 5)⟩, ⟨some 34, none, .eff (.bsl 129 11) [.tmp 33]⟩, ⟨some 35, none, .eff (.app 129 11 120 [.int .i64 0, .int .i64 0, .slice none 0 0, .slice none 0 0, .int .i64 0, .int .i64 0, .int .i64 0, .int .i64 0, .int .i64 0, .int .i64 0, .int .i64 0]) [.tmp 32, .tmp 34]⟩, ⟨some 3, none, .pur .mov [.tmp 35]⟩]) [3])))))
  (.reg (straight [⟨some 10, none, .pur .mov [.tmp 4]⟩, ⟨some 11, none, .pur (.bin .add) [.tmp 10, .const (.int .i64 1)]⟩, ⟨some 4, none, .pur .mov [.tmp 11]⟩]) [4]))
def S_forebaylaw40_own : Fun := ⟨37, [2, 4, 0, 9, 5, 3], [.tmp 2],
  .seq (.reg (straight [⟨some 2, none, .pur .mov [.const (.slice none 0 0)]⟩]) [2])
  (.seq (.reg (straight [⟨some 3, none, .pur .mov [.const (.slice none 0 0)]⟩]) [3])
  (.seq (.seq (.reg (straight [⟨some 4, none, .pur .mov [.const (.int .i64 0)]⟩]) [4])
  (.block 0 (.loop S_forebaylaw40_own_L1)))
  (.seq (.reg (straight [⟨some 36, none, .pur .mov [.tmp 3]⟩, ⟨some 2, none, .pur .mov [.tmp 36]⟩]) [2])
  (.ret))))⟩
theorem K_forebaylaw40_own : compF Try.prog 27 = some S_forebaylaw40_own := by kernel_rfl

-- 28
def S_forebaylaw33_works : Fun := ⟨43, [0, 2, 1], [.tmp 0],
  .seq (.reg (straight [⟨some 0, none, .pur .mov [.const (.bool false)]⟩]) [0])
  (.seq (.reg (straight [⟨some 4, none, .eff (.call 89) []⟩, ⟨some 5, none, .eff (.call 30) [.tmp 4]⟩, ⟨some 3, none, .pur .mov [.tmp 5]⟩, ⟨some 6, none, .pur (.ext 0) [.tmp 3]⟩, ⟨some 7, none, .pur (.ext 1) [.tmp 3]⟩, ⟨some 1, none, .pur .mov [.tmp 6]⟩, ⟨some 2, none, .pur .mov [.tmp 7]⟩]) [1, 2])
  (.seq (.reg (straight [⟨some 8, none, .pur .mov [.tmp 2]⟩, ⟨some 9, none, .pur (.bin .eql) [.tmp 8, .const (.int .i64 0)]⟩, ⟨some 10, none, .pur .mov [.tmp 9]⟩, ⟨some 11, some (10, true), .pur .mov [.tmp 1]⟩, ⟨some 12, some (10, true), .pur (.len false) [.tmp 11]⟩, ⟨some 13, some (10, true), .pur (.bin .eql) [.tmp 12, .const (.int .i64 4)]⟩, ⟨some 14, none, .pur .pick [.tmp 10, .tmp 13, .const (.bool false)]⟩, ⟨some 15, none, .pur .mov [.tmp 14]⟩, ⟨some 16, some (15, true), .pur .mov [.tmp 1]⟩, ⟨some 17, some (15, true), .pur (.ixa 2) [.tmp 16, .const (.int .i64 3)]⟩, ⟨some 18, some (15, true), .ld (some 2) (.tmp 17)⟩, ⟨some 19, some (15, true), .pur (.bld [.complex .f64 0 0, .complex .f64 0 0] [(0, 1), (1, 1)]) [.const (.complex .f64 0 4607182418800017408), .const (.complex .f64 4607182418800017408 4607182418800017408)]⟩, ⟨some 20, some (15, true), .pur (.eqs false [.complex .f64, .complex .f64]) [.tmp 18, .tmp 19]⟩, ⟨some 21, none, .pur .pick [.tmp 15, .tmp 20, .const (.bool false)]⟩, ⟨some 22, none, .pur .mov [.tmp 21]⟩, ⟨some 23, some (22, true), .eff (.call 89) []⟩, ⟨some 24, some (22, true), .eff (.call 36) [.tmp 23, .const (.complex .f64 0 0), .const (.complex .f64 4607182418800017408 4607182418800017408)]⟩, ⟨some 25, none, .pur .pick [.tmp 22, .tmp 24, .const (.bool false)]⟩, ⟨some 26, none, .pur .mov [.tmp 25]⟩, ⟨some 27, some (26, true), .eff (.call 89) []⟩, ⟨some 28, some (26, true), .eff (.call 36) [.tmp 27, .const (.complex .f64 4607182418800017408 0), .const (.complex .f64 0 4607182418800017408)]⟩, ⟨some 29, some (26, true), .pur .not [.tmp 28]⟩, ⟨some 30, none, .pur .pick [.tmp 26, .tmp 29, .const (.bool false)]⟩, ⟨some 31, none, .pur .mov [.tmp 30]⟩, ⟨some 32, some (31, true), .eff (.call 39) [.const (.complex .f64 4613937818241073152 4616189618054758400)]⟩, ⟨some 33, some (31, true), .pur (.bin .eql) [.tmp 32, .const (.int .i64 3)]⟩, ⟨some 34, none, .pur .pick [.tmp 31, .tmp 33, .const (.bool false)]⟩, ⟨some 35, none, .pur .mov [.tmp 34]⟩, ⟨some 36, some (35, true), .eff (.call 40) [.const (.complex .f64 4613937818241073152 4616189618054758400)]⟩, ⟨some 37, some (35, true), .pur (.bin .eql) [.tmp 36, .const (.int .i64 4)]⟩, ⟨some 38, none, .pur .pick [.tmp 35, .tmp 37, .const (.bool false)]⟩, ⟨some 39, none, .pur .mov [.tmp 38]⟩, ⟨some 40, some (39, true), .eff (.call 35) [.const (.int .i64 3), .const (.int .i64 4)]⟩, ⟨some 41, some (39, true), .pur (.bin .eql) [.tmp 40, .const (.complex .f64 4613937818241073152 4616189618054758400)]⟩, ⟨some 42, none, .pur .pick [.tmp 39, .tmp 41, .const (.bool false)]⟩, ⟨some 0, none, .pur .mov [.tmp 42]⟩]) [0])
  (.ret)))⟩
theorem K_forebaylaw33_works : compF Try.prog 28 = some S_forebaylaw33_works := by kernel_rfl

-- 34
def S_forebayref33_Edges_L3 : SCode :=
  .seq (.seq (.reg (straight [⟨some 79, none, .pur .mov [.tmp 0]⟩, ⟨some 80, none, .pur .mov [.tmp 4]⟩, ⟨some 81, none, .pur (.bin .sub) [.tmp 80, .const (.int .i64 1)]⟩, ⟨some 82, none, .pur (.ixa 1) [.tmp 79, .tmp 81]⟩, ⟨some 83, none, .ld none (.tmp 82)⟩, ⟨some 84, none, .pur .mov [.tmp 7]⟩, ⟨some 85, none, .pur (.ixa 2) [.tmp 83, .tmp 84]⟩, ⟨some 86, none, .pur (.fla 0) [.tmp 85]⟩, ⟨some 87, none, .ld none (.tmp 86)⟩, ⟨some 88, none, .pur (.fla 0) [.tmp 6]⟩, ⟨some 89, none, .ld none (.tmp 88)⟩, ⟨some 90, none, .pur (.bin .gtr) [.tmp 87, .tmp 89]⟩]) [90])
  (.cond (.tmp 90) (.skip) (.exit 4)))
  (.block 5 (.reg (straight [⟨some 91, none, .pur .mov [.tmp 7]⟩, ⟨some 92, none, .pur (.bin .sub) [.tmp 91, .const (.int .i64 1)]⟩, ⟨some 7, none, .pur .mov [.tmp 92]⟩]) [7]))
def S_forebayref33_Edges_L2 : SCode :=
  .seq (.seq (.reg (straight [⟨some 14, none, .pur .mov [.tmp 5]⟩, ⟨some 15, none, .pur .mov [.tmp 0]⟩, ⟨some 16, none, .pur .mov [.tmp 4]⟩, ⟨some 17, none, .pur (.ixa 1) [.tmp 15, .tmp 16]⟩, ⟨some 18, none, .ld none (.tmp 17)⟩, ⟨some 19, none, .pur (.len false) [.tmp 18]⟩, ⟨some 20, none, .pur (.bin .lss) [.tmp 14, .tmp 19]⟩]) [20])
  (.cond (.tmp 20) (.skip) (.exit 2)))
  (.seq (.block 3 (.seq (.reg (straight [⟨some 23, none, .pur .mov [.tmp 0]⟩, ⟨some 24, none, .pur .mov [.tmp 4]⟩, ⟨some 25, none, .pur (.ixa 1) [.tmp 23, .tmp 24]⟩, ⟨some 26, none, .ld none (.tmp 25)⟩, ⟨some 27, none, .pur .mov [.tmp 5]⟩, ⟨some 28, none, .pur (.ixa 2) [.tmp 26, .tmp 27]⟩, ⟨some 29, none, .ld (some 2) (.tmp 28)⟩, ⟨some 6, none, .eff (.new 139 [.int .i64 0, .bool false]) []⟩, ⟨none, none, .eff (.st 2) [.tmp 6, .tmp 29]⟩]) [6])
  (.seq (.seq (.reg (straight [⟨some 30, none, .pur .mov [.tmp 5]⟩, ⟨some 31, none, .pur (.bin .gtr) [.tmp 30, .const (.int .i64 0)]⟩]) [31])
  (.cond (.tmp 31) (.reg (.run ⟨some 32, none, .pur .mov [.tmp 3]⟩ (.run ⟨some 33, none, .pur .mov [.tmp 4]⟩ (.run ⟨some 34, none, .pur .mov [.tmp 0]⟩ (.run ⟨some 35, none, .pur .mov [.tmp 4]⟩ (.run ⟨some 36, none, .pur (.ixa 1) [.tmp 34, .tmp 35]⟩ (.run ⟨some 37, none, .ld none (.tmp 36)⟩ (.run ⟨some 38, none, .pur .mov [.tmp 5]⟩ (.run ⟨some 39, none, .pur (.bin .sub) [.tmp 38, .const (.int .i64 1)]⟩ (.run ⟨some 40, none, .pur (.ixa 2) [.tmp 37, .tmp 39]⟩ (.run ⟨some 41, none, .pur (.fla 0) [.tmp 40]⟩ (.run ⟨some 42, none, .ld none (.tmp 41)⟩ (.run ⟨some 43, none, .pur .mov [.tmp 4]⟩ (.run ⟨some 44, none, .pur (.fla 0) [.tmp 6]⟩ (.run ⟨some 45, none, .ld none (.tmp 44)⟩ (.run ⟨some 46, none, .pur (.bld [.int .i64 0, .int .i64 0, .int .i64 0, .int .i64 0] [(0, 1), (1, 1), (2, 1), (3, 1)]) [.tmp 33, .tmp 42, .tmp 43, .tmp 45]⟩ (.eff ⟨some 47, none, .eff (.bsl 56 4) [.tmp 46]⟩ [] (.eff ⟨some 48, none, .eff (.app 56 4 32 [.int .i64 0, .int .i64 0, .int .i64 0, .int .i64 0]) [.tmp 32, .tmp 47]⟩ [] (.eff ⟨some 3, none, .pur .mov [.tmp 48]⟩ [] .done)))))))))))))))))) [3]) (.skip)))
  (.seq (.seq (.reg (straight [⟨some 49, none, .pur .mov [.tmp 4]⟩, ⟨some 50, none, .pur (.bin .gtr) [.tmp 49, .const (.int .i64 0)]⟩, ⟨some 51, none, .pur .mov [.tmp 50]⟩, ⟨some 52, some (51, true), .pur .mov [.tmp 5]⟩, ⟨some 53, some (51, true), .pur (.bin .eql) [.tmp 52, .const (.int .i64 0)]⟩, ⟨some 54, none, .pur .pick [.tmp 51, .tmp 53, .const (.bool false)]⟩]) [54])
  (.cond (.tmp 54) (.reg (straight [⟨some 55, none, .pur .mov [.tmp 3]⟩, ⟨some 56, none, .pur .mov [.tmp 4]⟩, ⟨some 57, none, .pur (.bin .sub) [.tmp 56, .const (.int .i64 1)]⟩, ⟨some 58, none, .pur .mov [.tmp 4]⟩, ⟨some 59, none, .pur (.bld [.int .i64 0, .int .i64 0, .int .i64 0, .int .i64 0] [(0, 1), (1, 1), (2, 1), (3, 1)]) [.tmp 57, .const (.int .i64 0), .tmp 58, .const (.int .i64 0)]⟩, ⟨some 60, none, .eff (.bsl 56 4) [.tmp 59]⟩, ⟨some 61, none, .eff (.app 56 4 32 [.int .i64 0, .int .i64 0, .int .i64 0, .int .i64 0]) [.tmp 55, .tmp 60]⟩, ⟨some 3, none, .pur .mov [.tmp 61]⟩]) [3]) (.skip)))
  (.seq (.reg (straight [⟨some 62, none, .pur .mov [.tmp 4]⟩, ⟨some 63, none, .pur (.bin .gtr) [.tmp 62, .const (.int .i64 0)]⟩, ⟨some 64, none, .pur .mov [.tmp 63]⟩, ⟨some 65, some (64, true), .pur .mov [.tmp 5]⟩, ⟨some 66, some (64, true), .pur (.bin .gtr) [.tmp 65, .const (.int .i64 0)]⟩, ⟨some 67, none, .pur .pick [.tmp 64, .tmp 66, .const (.bool false)]⟩, ⟨some 68, none, .pur .mov [.tmp 67]⟩, ⟨some 69, some (68, true), .pur (.fla 1) [.tmp 6]⟩, ⟨some 70, some (68, true), .ld none (.tmp 69)⟩, ⟨some 71, none, .pur .pick [.tmp 68, .tmp 70, .const (.bool false)]⟩]) [71])
  (.cond (.tmp 71) (.seq (.reg (straight [⟨some 72, none, .pur .mov [.tmp 0]⟩, ⟨some 73, none, .pur .mov [.tmp 4]⟩, ⟨some 74, none, .pur (.bin .sub) [.tmp 73, .const (.int .i64 1)]⟩, ⟨some 75, none, .pur (.ixa 1) [.tmp 72, .tmp 74]⟩, ⟨some 76, none, .ld none (.tmp 75)⟩, ⟨some 77, none, .pur (.len false) [.tmp 76]⟩, ⟨some 78, none, .pur (.bin .sub) [.tmp 77, .const (.int .i64 1)]⟩, ⟨some 7, none, .pur .mov [.tmp 78]⟩]) [7])
  (.seq (.block 4 (.loop S_forebayref33_Edges_L3))
  (.reg (.run ⟨some 93, none, .pur .mov [.tmp 3]⟩ (.run ⟨some 94, none, .pur .mov [.tmp 4]⟩ (.run ⟨some 95, none, .pur (.bin .sub) [.tmp 94, .const (.int .i64 1)]⟩ (.run ⟨some 96, none, .pur .mov [.tmp 0]⟩ (.run ⟨some 97, none, .pur .mov [.tmp 4]⟩ (.run ⟨some 98, none, .pur (.bin .sub) [.tmp 97, .const (.int .i64 1)]⟩ (.run ⟨some 99, none, .pur (.ixa 1) [.tmp 96, .tmp 98]⟩ (.run ⟨some 100, none, .ld none (.tmp 99)⟩ (.run ⟨some 101, none, .pur .mov [.tmp 7]⟩ (.run ⟨some 102, none, .pur (.ixa 2) [.tmp 100, .tmp 101]⟩ (.run ⟨some 103, none, .pur (.fla 0) [.tmp 102]⟩ (.run ⟨some 104, none, .ld none (.tmp 103)⟩ (.run ⟨some 105, none, .pur .mov [.tmp 4]⟩ (.run ⟨some 106, none, .pur (.fla 0) [.tmp 6]⟩ (.run ⟨some 107, none, .ld none (.tmp 106)⟩ (.run ⟨some 108, none, .pur (.bld [.int .i64 0, .int .i64 0, .int .i64 0, .int .i64 0] [(0, 1), (1, 1), (2, 1), (3, 1)]) [.tmp 95, .tmp 104, .tmp 105, .tmp 107]⟩ (.eff ⟨some 109, none, .eff (.bsl 56 4) [.tmp 108]⟩ [] (.eff ⟨some 110, none, .eff (.app 56 4 32 [.int .i64 0, .int .i64 0, .int .i64 0, .int .i64 0]) [.tmp 93, .tmp 109]⟩ [] (.eff ⟨some 3, none, .pur .mov [.tmp 110]⟩ [] .done))))))))))))))))))) [3]))) (.skip)))))))
  (.reg (straight [⟨some 21, none, .pur .mov [.tmp 5]⟩, ⟨some 22, none, .pur (.bin .add) [.tmp 21, .const (.int .i64 1)]⟩, ⟨some 5, none, .pur .mov [.tmp 22]⟩]) [5]))
def S_forebayref33_Edges_L1 : SCode :=
  .seq (.seq (.reg (straight [⟨some 8, none, .pur .mov [.tmp 4]⟩, ⟨some 9, none, .pur .mov [.tmp 0]⟩, ⟨some 10, none, .pur (.len false) [.tmp 9]⟩, ⟨some 11, none, .pur (.bin .lss) [.tmp 8, .tmp 10]⟩]) [11])
  (.cond (.tmp 11) (.skip) (.exit 0)))
  (.seq (.block 1 (.seq (.reg (straight [⟨some 5, none, .pur .mov [.const (.int .i64 0)]⟩]) [5])
  (.block 2 (.loop S_forebayref33_Edges_L2))))
  (.reg (straight [⟨some 12, none, .pur .mov [.tmp 4]⟩, ⟨some 13, none, .pur (.bin .add) [.tmp 12, .const (.int .i64 1)]⟩, ⟨some 4, none, .pur .mov [.tmp 13]⟩]) [4]))
def S_forebayref33_Edges : Fun := ⟨112, [2, 4, 0, 11, 5, 20, 31, 3, 6, 54, 71, 7, 90], [.tmp 2],
  .seq (.reg (straight [⟨some 2, none, .pur .mov [.const (.slice none 0 0)]⟩]) [2])
  (.seq (.reg (straight [⟨some 3, none, .pur .mov [.const (.slice none 0 0)]⟩]) [3])
  (.seq (.seq (.reg (straight [⟨some 4, none, .pur .mov [.const (.int .i64 0)]⟩]) [4])
  (.block 0 (.loop S_forebayref33_Edges_L1)))
  (.seq (.reg (straight [⟨some 111, none, .pur .mov [.tmp 3]⟩, ⟨some 2, none, .pur .mov [.tmp 111]⟩]) [2])
  (.ret))))⟩
theorem K_forebayref33_Edges : compF Try.prog 34 = some S_forebayref33_Edges := by kernel_rfl

-- 48
def S_reach_Longest_L2 : SCode :=
  .seq (.reg (straight [⟨some 29, none, .pur (.bin .lss) [.tmp 28, .tmp 27]⟩]) [29])
  (.seq (.cond (.tmp 29) (.skip) (.exit 2))
  (.seq (.block 3 (.seq (.reg (straight [⟨some 30, none, .pur (.ixa 1) [.tmp 26, .tmp 28]⟩, ⟨some 31, none, .ld none (.tmp 30)⟩, ⟨some 10, none, .pur .mov [.tmp 31]⟩]) [10])
  (.reg (.run ⟨some 32, none, .pur .mov [.tmp 6]⟩ (.run ⟨some 33, none, .pur .mov [.tmp 7]⟩ (.run ⟨some 34, none, .pur .mov [.tmp 6]⟩ (.run ⟨some 35, none, .pur .mov [.tmp 7]⟩ (.run ⟨some 36, none, .pur (.ixa 1) [.tmp 34, .tmp 35]⟩ (.run ⟨some 37, none, .ld none (.tmp 36)⟩ (.run ⟨some 38, none, .pur .mov [.tmp 6]⟩ (.run ⟨some 39, none, .pur .mov [.tmp 10]⟩ (.run ⟨some 40, none, .pur (.ixa 1) [.tmp 38, .tmp 39]⟩ (.run ⟨some 41, none, .ld none (.tmp 40)⟩ (.run ⟨some 42, none, .pur (.minmax true) [.tmp 37, .tmp 41]⟩ (.run ⟨some 43, none, .pur (.ixa 1) [.tmp 32, .tmp 33]⟩ (.eff ⟨none, none, .eff (.st 1) [.tmp 43, .tmp 42]⟩ [] .done))))))))))))) [])))
  (.reg (straight [⟨some 44, none, .pur (.bin .add) [.tmp 28, .const (.int .i64 1)]⟩, ⟨some 28, none, .pur .mov [.tmp 44]⟩]) [28])))
def S_reach_Longest_L1 : SCode :=
  .seq (.reg (straight [⟨some 22, none, .pur (.bin .lss) [.tmp 21, .tmp 20]⟩]) [22])
  (.seq (.cond (.tmp 22) (.skip) (.exit 0))
  (.seq (.block 1 (.seq (.reg (straight [⟨some 23, none, .pur .mov [.tmp 21]⟩, ⟨some 24, none, .pur (.ixa 1) [.tmp 19, .tmp 21]⟩, ⟨some 25, none, .ld none (.tmp 24)⟩, ⟨some 7, none, .pur .mov [.tmp 23]⟩, ⟨some 8, none, .pur .mov [.tmp 25]⟩]) [7, 8])
  (.seq (.seq (.reg (straight [⟨some 26, none, .pur .mov [.tmp 8]⟩, ⟨some 27, none, .pur (.len false) [.tmp 26]⟩, ⟨some 28, none, .pur .mov [.const (.int .i64 0)]⟩]) [26, 27, 28])
  (.block 2 (.loop S_reach_Longest_L2)))
  (.seq (.reg (straight [⟨some 45, none, .pur .mov [.tmp 6]⟩, ⟨some 46, none, .pur .mov [.tmp 7]⟩, ⟨some 47, none, .pur (.ixa 1) [.tmp 45, .tmp 46]⟩, ⟨some 48, none, .ld none (.tmp 47)⟩, ⟨some 49, none, .pur (.bin .add) [.tmp 48, .const (.int .i64 1)]⟩, ⟨some 50, none, .pur (.ixa 1) [.tmp 45, .tmp 46]⟩, ⟨none, none, .eff (.st 1) [.tmp 50, .tmp 49]⟩]) [])
  (.reg (straight [⟨some 51, none, .pur .mov [.tmp 5]⟩, ⟨some 52, none, .pur .mov [.tmp 6]⟩, ⟨some 53, none, .pur .mov [.tmp 7]⟩, ⟨some 54, none, .pur (.ixa 1) [.tmp 52, .tmp 53]⟩, ⟨some 55, none, .ld none (.tmp 54)⟩, ⟨some 56, none, .pur (.minmax true) [.tmp 51, .tmp 55]⟩, ⟨some 5, none, .pur .mov [.tmp 56]⟩]) [5])))))
  (.reg (straight [⟨some 57, none, .pur (.bin .add) [.tmp 21, .const (.int .i64 1)]⟩, ⟨some 21, none, .pur .mov [.tmp 57]⟩]) [21])))
def S_reach_Longest : Fun := ⟨59, [2, 3, 0, 4, 14, 21, 20, 22, 19, 8, 28, 27, 29, 26, 6, 7, 10, 5], [.tmp 2, .tmp 3],
  .seq (.reg (straight [⟨some 2, none, .pur .mov [.const (.int .i64 0)]⟩, ⟨some 3, none, .pur .mov [.const (.int .i64 0)]⟩]) [2, 3])
  (.seq (.seq (.reg (straight [⟨some 11, none, .pur .mov [.tmp 0]⟩, ⟨some 12, none, .eff (.call 94) [.tmp 11]⟩, ⟨some 4, none, .pur .mov [.tmp 12]⟩]) [4])
  (.seq (.reg (straight [⟨some 13, none, .pur .mov [.tmp 4]⟩, ⟨some 14, none, .pur (.bin .neq) [.tmp 13, .const (.int .i64 0)]⟩]) [14])
  (.cond (.tmp 14) (.seq (.reg (straight [⟨some 15, none, .pur .mov [.tmp 4]⟩, ⟨some 2, none, .pur .mov [.const (.int .i64 0)]⟩, ⟨some 3, none, .pur .mov [.tmp 15]⟩]) [2, 3])
  (.ret)) (.skip))))
  (.seq (.reg (straight [⟨some 5, none, .pur .mov [.const (.int .i64 0)]⟩]) [5])
  (.seq (.reg (straight [⟨some 16, none, .pur .mov [.tmp 0]⟩, ⟨some 17, none, .pur (.len false) [.tmp 16]⟩, ⟨some 18, none, .eff (.mks 3 1 8 [.int .i64 0]) [.tmp 17, .tmp 17]⟩, ⟨some 6, none, .pur .mov [.tmp 18]⟩]) [6])
  (.seq (.seq (.reg (straight [⟨some 19, none, .pur .mov [.tmp 0]⟩, ⟨some 20, none, .pur (.len false) [.tmp 19]⟩, ⟨some 21, none, .pur .mov [.const (.int .i64 0)]⟩]) [19, 20, 21])
  (.block 0 (.loop S_reach_Longest_L1)))
  (.seq (.reg (straight [⟨some 58, none, .pur .mov [.tmp 5]⟩, ⟨some 2, none, .pur .mov [.tmp 58]⟩, ⟨some 3, none, .pur .mov [.const (.int .i64 0)]⟩]) [2, 3])
  (.ret))))))⟩
theorem K_reach_Longest : compF Try.prog 48 = some S_reach_Longest := by kernel_rfl

-- 52
def S_reach_Reach_Apart : Fun := ⟨34, [6, 0, 1, 2], [.tmp 6],
  .seq (.reg (straight [⟨some 6, none, .pur .mov [.const (.bool false)]⟩]) [6])
  (.seq (.reg (straight [⟨some 7, none, .pur .mov [.tmp 0]⟩, ⟨some 8, none, .pur .mov [.tmp 1]⟩, ⟨some 9, none, .eff (.call 96) [.tmp 7, .tmp 8]⟩, ⟨some 10, none, .pur .mov [.tmp 9]⟩, ⟨some 11, some (10, true), .pur .mov [.tmp 0]⟩, ⟨some 12, some (10, true), .pur .mov [.tmp 2]⟩, ⟨some 13, some (10, true), .eff (.call 96) [.tmp 11, .tmp 12]⟩, ⟨some 14, none, .pur .pick [.tmp 10, .tmp 13, .const (.bool false)]⟩, ⟨some 15, none, .pur .mov [.tmp 14]⟩, ⟨some 16, some (15, true), .pur .mov [.tmp 1]⟩, ⟨some 17, some (15, true), .pur .mov [.tmp 2]⟩, ⟨some 18, some (15, true), .pur (.bin .neq) [.tmp 16, .tmp 17]⟩, ⟨some 19, none, .pur .pick [.tmp 15, .tmp 18, .const (.bool false)]⟩, ⟨some 20, none, .pur .mov [.tmp 19]⟩, ⟨some 21, some (20, true), .pur .mov [.tmp 0]⟩, ⟨some 22, some (20, true), .pur .mov [.tmp 1]⟩, ⟨some 23, some (20, true), .pur .mov [.tmp 2]⟩, ⟨some 24, some (20, true), .eff (.call 51) [.tmp 21, .tmp 22, .tmp 23]⟩, ⟨some 25, some (20, true), .pur .not [.tmp 24]⟩, ⟨some 26, none, .pur .pick [.tmp 20, .tmp 25, .const (.bool false)]⟩, ⟨some 27, none, .pur .mov [.tmp 26]⟩, ⟨some 28, some (27, true), .pur .mov [.tmp 0]⟩, ⟨some 29, some (27, true), .pur .mov [.tmp 2]⟩, ⟨some 30, some (27, true), .pur .mov [.tmp 1]⟩, ⟨some 31, some (27, true), .eff (.call 51) [.tmp 28, .tmp 29, .tmp 30]⟩, ⟨some 32, some (27, true), .pur .not [.tmp 31]⟩, ⟨some 33, none, .pur .pick [.tmp 27, .tmp 32, .const (.bool false)]⟩, ⟨some 6, none, .pur .mov [.tmp 33]⟩]) [6])
  (.ret))⟩
theorem K_reach_Reach_Apart : compF Try.prog 52 = some S_reach_Reach_Apart := by kernel_rfl

-- 53
def S_reach_Reach_Ahead_L1 : SCode :=
  .seq (.reg (straight [⟨some 21, none, .pur (.bin .lss) [.tmp 20, .tmp 19]⟩]) [21])
  (.seq (.cond (.tmp 21) (.skip) (.exit 0))
  (.seq (.block 1 (.seq (.reg (straight [⟨some 22, none, .pur (.ixa 1) [.tmp 18, .tmp 20]⟩, ⟨some 23, none, .ld none (.tmp 22)⟩, ⟨some 7, none, .pur .mov [.tmp 23]⟩]) [7])
  (.reg (straight [⟨some 24, none, .pur .mov [.tmp 5]⟩, ⟨some 25, none, .pur .mov [.tmp 7]⟩, ⟨some 26, none, .eff (.call 97) [.tmp 25]⟩, ⟨some 27, none, .pur (.bin .add) [.tmp 24, .tmp 26]⟩, ⟨some 5, none, .pur .mov [.tmp 27]⟩]) [5])))
  (.reg (straight [⟨some 28, none, .pur (.bin .add) [.tmp 20, .const (.int .i64 1)]⟩, ⟨some 20, none, .pur .mov [.tmp 28]⟩]) [20])))
def S_reach_Reach_Ahead : Fun := ⟨30, [4, 0, 1, 11, 20, 19, 21, 18, 5, 7], [.tmp 4],
  .seq (.reg (straight [⟨some 4, none, .pur .mov [.const (.int .i64 0)]⟩]) [4])
  (.seq (.seq (.reg (straight [⟨some 8, none, .pur .mov [.tmp 0]⟩, ⟨some 9, none, .pur .mov [.tmp 1]⟩, ⟨some 10, none, .eff (.call 96) [.tmp 8, .tmp 9]⟩, ⟨some 11, none, .pur .not [.tmp 10]⟩]) [11])
  (.cond (.tmp 11) (.seq (.reg (straight [⟨some 4, none, .pur .mov [.const (.int .i64 0)]⟩]) [4])
  (.ret)) (.skip)))
  (.seq (.reg (straight [⟨some 5, none, .pur .mov [.const (.int .i64 0)]⟩]) [5])
  (.seq (.seq (.reg (straight [⟨some 12, none, .pur .mov [.tmp 0]⟩, ⟨some 13, none, .pur .nilc [.tmp 12]⟩, ⟨some 14, none, .pur (.fla 0) [.tmp 13]⟩, ⟨some 15, none, .ld none (.tmp 14)⟩, ⟨some 16, none, .pur .mov [.tmp 1]⟩, ⟨some 17, none, .pur (.ixa 1) [.tmp 15, .tmp 16]⟩, ⟨some 18, none, .ld none (.tmp 17)⟩, ⟨some 19, none, .pur (.len false) [.tmp 18]⟩, ⟨some 20, none, .pur .mov [.const (.int .i64 0)]⟩]) [18, 19, 20])
  (.block 0 (.loop S_reach_Reach_Ahead_L1)))
  (.seq (.reg (straight [⟨some 29, none, .pur .mov [.tmp 5]⟩, ⟨some 4, none, .pur .mov [.tmp 29]⟩]) [4])
  (.ret)))))⟩
theorem K_reach_Reach_Ahead : compF Try.prog 53 = some S_reach_Reach_Ahead := by kernel_rfl

-- 60
def S_forebaylaw41_own_L1 : SCode :=
  .seq (.seq (.reg (straight [⟨some 5, none, .pur .mov [.tmp 4]⟩, ⟨some 6, none, .pur .mov [.tmp 0]⟩, ⟨some 7, none, .pur (.len false) [.tmp 6]⟩, ⟨some 8, none, .pur (.bin .lss) [.tmp 5, .tmp 7]⟩]) [8])
  (.cond (.tmp 8) (.skip) (.exit 0)))
  (.seq (.block 1 (.reg (straight [⟨some 11, none, .pur .mov [.tmp 3]⟩, ⟨some 12, none, .eff (.bsl 3 1) []⟩, ⟨some 13, none, .pur .mov [.tmp 0]⟩, ⟨some 14, none, .pur .mov [.tmp 4]⟩, ⟨some 15, none, .pur (.ixa 1) [.tmp 13, .tmp 14]⟩, ⟨some 16, none, .ld none (.tmp 15)⟩, ⟨some 17, none, .eff (.app 3 1 8 [.int .i64 0]) [.tmp 12, .tmp 16]⟩, ⟨some 18, none, .eff (.bsl 29 1) [.tmp 17]⟩, ⟨some 19, none, .eff (.app 29 1 24 [.slice none 0 0]) [.tmp 11, .tmp 18]⟩, ⟨some 3, none, .pur .mov [.tmp 19]⟩]) [3]))
  (.reg (straight [⟨some 9, none, .pur .mov [.tmp 4]⟩, ⟨some 10, none, .pur (.bin .add) [.tmp 9, .const (.int .i64 1)]⟩, ⟨some 4, none, .pur .mov [.tmp 10]⟩]) [4]))
def S_forebaylaw41_own : Fun := ⟨21, [2, 4, 0, 8, 3], [.tmp 2],
  .seq (.reg (straight [⟨some 2, none, .pur .mov [.const (.slice none 0 0)]⟩]) [2])
  (.seq (.reg (straight [⟨some 3, none, .pur .mov [.const (.slice none 0 0)]⟩]) [3])
  (.seq (.seq (.reg (straight [⟨some 4, none, .pur .mov [.const (.int .i64 0)]⟩]) [4])
  (.block 0 (.loop S_forebaylaw41_own_L1)))
  (.seq (.reg (straight [⟨some 20, none, .pur .mov [.tmp 3]⟩, ⟨some 2, none, .pur .mov [.tmp 20]⟩]) [2])
  (.ret))))⟩
theorem K_forebaylaw41_own : compF Try.prog 60 = some S_forebaylaw41_own := by kernel_rfl

-- 67
def S_span_Span_L2 : SCode :=
  .seq (.reg (straight [⟨some 31, none, .pur (.bin .lss) [.tmp 30, .tmp 29]⟩]) [31])
  (.seq (.cond (.tmp 31) (.skip) (.exit 2))
  (.seq (.block 3 (.seq (.reg (straight [⟨some 32, none, .pur (.ixa 1) [.tmp 28, .tmp 30]⟩, ⟨some 33, none, .ld none (.tmp 32)⟩, ⟨some 11, none, .pur .mov [.tmp 33]⟩]) [11])
  (.reg (straight [⟨some 34, none, .pur .mov [.tmp 9]⟩, ⟨some 35, none, .pur .mov [.tmp 4]⟩, ⟨some 36, none, .pur .mov [.tmp 11]⟩, ⟨some 37, none, .pur (.ixa 1) [.tmp 35, .tmp 36]⟩, ⟨some 38, none, .ld none (.tmp 37)⟩, ⟨some 39, none, .pur (.minmax true) [.tmp 34, .tmp 38]⟩, ⟨some 9, none, .pur .mov [.tmp 39]⟩]) [9])))
  (.reg (straight [⟨some 40, none, .pur (.bin .add) [.tmp 30, .const (.int .i64 1)]⟩, ⟨some 30, none, .pur .mov [.tmp 40]⟩]) [30])))
def S_span_Span_L1 : SCode :=
  .seq (.reg (straight [⟨some 24, none, .pur (.bin .lss) [.tmp 23, .tmp 22]⟩]) [24])
  (.seq (.cond (.tmp 24) (.skip) (.exit 0))
  (.seq (.block 1 (.seq (.reg (straight [⟨some 25, none, .pur .mov [.tmp 23]⟩, ⟨some 26, none, .pur (.ixa 1) [.tmp 21, .tmp 23]⟩, ⟨some 27, none, .ld none (.tmp 26)⟩, ⟨some 7, none, .pur .mov [.tmp 25]⟩, ⟨some 8, none, .pur .mov [.tmp 27]⟩]) [7, 8])
  (.seq (.reg (straight [⟨some 9, none, .pur .mov [.const (.int .i64 0)]⟩]) [9])
  (.seq (.seq (.reg (straight [⟨some 28, none, .pur .mov [.tmp 8]⟩, ⟨some 29, none, .pur (.len false) [.tmp 28]⟩, ⟨some 30, none, .pur .mov [.const (.int .i64 0)]⟩]) [28, 29, 30])
  (.block 2 (.loop S_span_Span_L2)))
  (.seq (.reg (straight [⟨some 41, none, .pur .mov [.tmp 4]⟩, ⟨some 42, none, .pur .mov [.tmp 7]⟩, ⟨some 43, none, .pur (.ixa 1) [.tmp 41, .tmp 42]⟩, ⟨some 44, none, .ld none (.tmp 43)⟩, ⟨some 45, none, .pur .mov [.tmp 9]⟩, ⟨some 46, none, .pur (.bin .add) [.tmp 44, .tmp 45]⟩, ⟨some 47, none, .pur (.ixa 1) [.tmp 41, .tmp 42]⟩, ⟨none, none, .eff (.st 1) [.tmp 47, .tmp 46]⟩]) [])
  (.reg (straight [⟨some 48, none, .pur .mov [.tmp 6]⟩, ⟨some 49, none, .pur .mov [.tmp 4]⟩, ⟨some 50, none, .pur .mov [.tmp 7]⟩, ⟨some 51, none, .pur (.ixa 1) [.tmp 49, .tmp 50]⟩, ⟨some 52, none, .ld none (.tmp 51)⟩, ⟨some 53, none, .pur (.minmax true) [.tmp 48, .tmp 52]⟩, ⟨some 6, none, .pur .mov [.tmp 53]⟩]) [6]))))))
  (.reg (straight [⟨some 54, none, .pur (.bin .add) [.tmp 23, .const (.int .i64 1)]⟩, ⟨some 23, none, .pur .mov [.tmp 54]⟩]) [23])))
def S_span_Span : Fun := ⟨56, [2, 3, 0, 1, 5, 18, 23, 22, 24, 21, 8, 30, 29, 31, 28, 9, 4, 11, 7, 6], [.tmp 2, .tmp 3],
  .seq (.reg (straight [⟨some 1, none, .eff (.box 98) [.tmp 0]⟩, ⟨some 2, none, .pur .mov [.const (.int .i64 0)]⟩, ⟨some 3, none, .pur .mov [.const (.int .i64 0)]⟩]) [1, 2, 3])
  (.seq (.reg (straight [⟨some 13, none, .ld (some 3) (.tmp 1)⟩, ⟨some 14, none, .eff (.call 68) [.tmp 13]⟩, ⟨some 12, none, .pur .mov [.tmp 14]⟩, ⟨some 15, none, .pur (.ext 0) [.tmp 12]⟩, ⟨some 16, none, .pur (.ext 1) [.tmp 12]⟩, ⟨some 4, none, .pur .mov [.tmp 15]⟩, ⟨some 5, none, .pur .mov [.tmp 16]⟩]) [4, 5])
  (.seq (.seq (.reg (straight [⟨some 17, none, .pur .mov [.tmp 5]⟩, ⟨some 18, none, .pur (.bin .neq) [.tmp 17, .const (.int .i64 0)]⟩]) [18])
  (.cond (.tmp 18) (.seq (.reg (straight [⟨some 19, none, .pur .mov [.tmp 5]⟩, ⟨some 2, none, .pur .mov [.const (.int .i64 0)]⟩, ⟨some 3, none, .pur .mov [.tmp 19]⟩]) [2, 3])
  (.ret)) (.skip)))
  (.seq (.reg (straight [⟨some 6, none, .pur .mov [.const (.int .i64 0)]⟩]) [6])
  (.seq (.seq (.reg (straight [⟨some 20, none, .pur (.fla 0) [.tmp 1]⟩, ⟨some 21, none, .ld none (.tmp 20)⟩, ⟨some 22, none, .pur (.len false) [.tmp 21]⟩, ⟨some 23, none, .pur .mov [.const (.int .i64 0)]⟩]) [21, 22, 23])
  (.block 0 (.loop S_span_Span_L1)))
  (.seq (.reg (straight [⟨some 55, none, .pur .mov [.tmp 6]⟩, ⟨some 2, none, .pur .mov [.tmp 55]⟩, ⟨some 3, none, .pur .mov [.const (.int .i64 0)]⟩]) [2, 3])
  (.ret))))))⟩
theorem K_span_Span : compF Try.prog 67 = some S_span_Span := by kernel_rfl

-- 81
def S_slices_Contains_int_int : Fun := ⟨9, [4, 0, 1], [.tmp 4],
  .seq (.reg (straight [⟨some 4, none, .pur .mov [.const (.bool false)]⟩]) [4])
  (.seq (.reg (straight [⟨some 5, none, .pur .mov [.tmp 0]⟩, ⟨some 6, none, .pur .mov [.tmp 1]⟩, ⟨some 7, none, .eff (.call 110) [.tmp 5, .tmp 6]⟩, ⟨some 8, none, .pur (.bin .geq) [.tmp 7, .const (.int .i64 0)]⟩, ⟨some 4, none, .pur .mov [.tmp 8]⟩]) [4])
  (.ret))⟩
theorem K_slices_Contains_int_int : compF Try.prog 81 = some S_slices_Contains_int_int := by kernel_rfl

-- 94
def S_reach_check_L2 : SCode :=
  .seq (.reg (straight [⟨some 20, none, .pur (.bin .lss) [.tmp 19, .tmp 18]⟩]) [20])
  (.seq (.cond (.tmp 20) (.skip) (.exit 2))
  (.seq (.block 3 (.seq (.reg (straight [⟨some 21, none, .pur (.ixa 1) [.tmp 17, .tmp 19]⟩, ⟨some 22, none, .ld none (.tmp 21)⟩, ⟨some 6, none, .pur .mov [.tmp 22]⟩]) [6])
  (.seq (.reg (straight [⟨some 23, none, .pur .mov [.tmp 6]⟩, ⟨some 24, none, .pur (.bin .lss) [.tmp 23, .const (.int .i64 0)]⟩, ⟨some 25, none, .pur .mov [.tmp 24]⟩, ⟨some 26, some (25, false), .pur .mov [.tmp 6]⟩, ⟨some 27, some (25, false), .pur .mov [.tmp 3]⟩, ⟨some 28, some (25, false), .pur (.bin .geq) [.tmp 26, .tmp 27]⟩, ⟨some 29, none, .pur .pick [.tmp 25, .const (.bool true), .tmp 28]⟩]) [29])
  (.cond (.tmp 29) (.seq (.reg (straight [⟨some 2, none, .pur .mov [.const (.int .i64 3)]⟩]) [2])
  (.ret)) (.skip)))))
  (.reg (straight [⟨some 30, none, .pur (.bin .add) [.tmp 19, .const (.int .i64 1)]⟩, ⟨some 19, none, .pur .mov [.tmp 30]⟩]) [19])))
def S_reach_check_L1 : SCode :=
  .seq (.reg (straight [⟨some 13, none, .pur (.bin .lss) [.tmp 12, .tmp 11]⟩]) [13])
  (.seq (.cond (.tmp 13) (.skip) (.exit 0))
  (.seq (.block 1 (.seq (.reg (straight [⟨some 14, none, .pur .mov [.tmp 12]⟩, ⟨some 15, none, .pur (.ixa 1) [.tmp 10, .tmp 12]⟩, ⟨some 16, none, .ld none (.tmp 15)⟩, ⟨some 3, none, .pur .mov [.tmp 14]⟩, ⟨some 4, none, .pur .mov [.tmp 16]⟩]) [3, 4])
  (.seq (.reg (straight [⟨some 17, none, .pur .mov [.tmp 4]⟩, ⟨some 18, none, .pur (.len false) [.tmp 17]⟩, ⟨some 19, none, .pur .mov [.const (.int .i64 0)]⟩]) [17, 18, 19])
  (.block 2 (.loop S_reach_check_L2)))))
  (.reg (straight [⟨some 31, none, .pur (.bin .add) [.tmp 12, .const (.int .i64 1)]⟩, ⟨some 12, none, .pur .mov [.tmp 31]⟩]) [12])))
def S_reach_check : Fun := ⟨32, [2, 0, 9, 12, 11, 13, 10, 4, 19, 18, 20, 17, 6, 3, 29], [.tmp 2],
  .seq (.reg (straight [⟨some 2, none, .pur .mov [.const (.int .i64 0)]⟩]) [2])
  (.seq (.seq (.reg (straight [⟨some 7, none, .pur .mov [.tmp 0]⟩, ⟨some 8, none, .pur (.len false) [.tmp 7]⟩, ⟨some 9, none, .pur (.bin .gtr) [.tmp 8, .const (.int .i64 1000)]⟩]) [9])
  (.cond (.tmp 9) (.seq (.reg (straight [⟨some 2, none, .pur .mov [.const (.int .i64 9)]⟩]) [2])
  (.ret)) (.skip)))
  (.seq (.seq (.reg (straight [⟨some 10, none, .pur .mov [.tmp 0]⟩, ⟨some 11, none, .pur (.len false) [.tmp 10]⟩, ⟨some 12, none, .pur .mov [.const (.int .i64 0)]⟩]) [10, 11, 12])
  (.block 0 (.loop S_reach_check_L1)))
  (.seq (.reg (straight [⟨some 2, none, .pur .mov [.const (.int .i64 0)]⟩]) [2])
  (.ret))))⟩
theorem K_reach_check : compF Try.prog 94 = some S_reach_check := by kernel_rfl

-- 96
def S_reach_Reach_is : Fun := ⟨13, [4, 1, 0], [.tmp 4],
  .seq (.reg (straight [⟨some 4, none, .pur .mov [.const (.bool false)]⟩]) [4])
  (.seq (.reg (straight [⟨some 5, none, .pur .mov [.tmp 1]⟩, ⟨some 6, none, .pur (.bin .geq) [.tmp 5, .const (.int .i64 0)]⟩, ⟨some 7, none, .pur .mov [.tmp 6]⟩, ⟨some 8, some (7, true), .pur .mov [.tmp 1]⟩, ⟨some 9, some (7, true), .pur .mov [.tmp 0]⟩, ⟨some 10, some (7, true), .eff (.call 50) [.tmp 9]⟩, ⟨some 11, some (7, true), .pur (.bin .lss) [.tmp 8, .tmp 10]⟩, ⟨some 12, none, .pur .pick [.tmp 7, .tmp 11, .const (.bool false)]⟩, ⟨some 4, none, .pur .mov [.tmp 12]⟩]) [4])
  (.ret))⟩
theorem K_reach_Reach_is : compF Try.prog 96 = some S_reach_Reach_is := by kernel_rfl

-- 101
def S_forebayref41_has_L1 : SCode :=
  .seq (.seq (.reg (straight [⟨some 6, none, .pur .mov [.tmp 5]⟩, ⟨some 7, none, .pur .mov [.tmp 0]⟩, ⟨some 8, none, .pur (.len false) [.tmp 7]⟩, ⟨some 9, none, .pur (.bin .lss) [.tmp 6, .tmp 8]⟩]) [9])
  (.cond (.tmp 9) (.skip) (.exit 0)))
  (.seq (.block 1 (.seq (.reg (straight [⟨some 12, none, .pur .mov [.tmp 0]⟩, ⟨some 13, none, .pur .mov [.tmp 5]⟩, ⟨some 14, none, .pur (.ixa 1) [.tmp 12, .tmp 13]⟩, ⟨some 15, none, .ld none (.tmp 14)⟩, ⟨some 16, none, .pur .mov [.tmp 1]⟩, ⟨some 17, none, .pur (.bin .eql) [.tmp 15, .tmp 16]⟩]) [17])
  (.cond (.tmp 17) (.seq (.reg (straight [⟨some 4, none, .pur .mov [.const (.bool true)]⟩]) [4])
  (.ret)) (.skip))))
  (.reg (straight [⟨some 10, none, .pur .mov [.tmp 5]⟩, ⟨some 11, none, .pur (.bin .add) [.tmp 10, .const (.int .i64 1)]⟩, ⟨some 5, none, .pur .mov [.tmp 11]⟩]) [5]))
def S_forebayref41_has : Fun := ⟨18, [4, 5, 0, 9, 1, 17], [.tmp 4],
  .seq (.reg (straight [⟨some 4, none, .pur .mov [.const (.bool false)]⟩]) [4])
  (.seq (.seq (.reg (straight [⟨some 5, none, .pur .mov [.const (.int .i64 0)]⟩]) [5])
  (.block 0 (.loop S_forebayref41_has_L1)))
  (.seq (.reg (straight [⟨some 4, none, .pur .mov [.const (.bool false)]⟩]) [4])
  (.ret)))⟩
theorem K_forebayref41_has : compF Try.prog 101 = some S_forebayref41_has := by kernel_rfl

-- 108
def S_log_Log_those : Fun := ⟨6, [4, 0, 1, 2, 3], [.tmp 4],
  .seq (.reg (straight [⟨some 2, none, .eff (.box 24) [.tmp 0]⟩, ⟨some 3, none, .eff (.box 181) [.tmp 1]⟩, ⟨some 4, none, .pur .mov [.const .nilFunc]⟩]) [2, 3, 4])
  (.seq (.reg (straight [⟨some 5, none, .pur (.mkf (.func 125) 0) [.tmp 2, .tmp 3]⟩, ⟨some 4, none, .pur .mov [.tmp 5]⟩]) [4])
  (.ret))⟩
theorem K_log_Log_those : compF Try.prog 108 = some S_log_Log_those := by kernel_rfl

-- 118
def S_strand_builder_goOn_L1 : SCode :=
  .seq (.reg (straight [⟨some 64, none, .pur (.bin .lss) [.tmp 63, .tmp 62]⟩]) [64])
  (.seq (.cond (.tmp 64) (.skip) (.exit 0))
  (.seq (.block 1 (.seq (.reg (straight [⟨some 65, none, .pur (.ixa 2) [.tmp 61, .tmp 63]⟩, ⟨some 66, none, .ld (some 2) (.tmp 65)⟩, ⟨some 10, none, .eff (.new 197 [.int .i64 0, .int .i64 0]) []⟩, ⟨none, none, .eff (.st 2) [.tmp 10, .tmp 66]⟩]) [10])
  (.seq (.reg (straight [⟨some 67, none, .pur (.fla 0) [.tmp 10]⟩, ⟨some 68, none, .ld none (.tmp 67)⟩, ⟨some 69, none, .pur (.fla 1) [.tmp 5]⟩, ⟨some 70, none, .ld none (.tmp 69)⟩, ⟨some 71, none, .pur (.bin .leq) [.tmp 68, .tmp 70]⟩]) [71])
  (.cond (.tmp 71) (.reg (straight [⟨some 72, none, .pur (.fla 1) [.tmp 10]⟩, ⟨some 73, none, .ld none (.tmp 72)⟩, ⟨some 8, none, .pur .mov [.tmp 73]⟩]) [8]) (.skip)))))
  (.reg (straight [⟨some 74, none, .pur (.bin .add) [.tmp 63, .const (.int .i64 1)]⟩, ⟨some 63, none, .pur .mov [.tmp 74]⟩]) [63])))
def S_strand_builder_goOn : Fun := ⟨95, [2, 1, 0, 5, 57, 7, 63, 62, 64, 61, 10, 71, 6, 8], [],
  .seq (.reg (straight [⟨some 5, none, .eff (.box 158) [.tmp 2]⟩]) [5])
  (.seq (.reg (.run ⟨some 11, none, .pur .mov [.tmp 1]⟩ (.run ⟨some 12, none, .pur .mov [.tmp 1]⟩ (.run ⟨some 13, none, .pur .nilc [.tmp 12]⟩ (.run ⟨some 14, none, .pur (.fla 7) [.tmp 13]⟩ (.run ⟨some 15, none, .ld none (.tmp 14)⟩ (.run ⟨some 16, none, .pur .mov [.tmp 1]⟩ (.run ⟨some 17, none, .pur .nilc [.tmp 16]⟩ (.run ⟨some 18, none, .pur (.fla 4) [.tmp 17]⟩ (.run ⟨some 19, none, .pur (.fla 2) [.tmp 18]⟩ (.run ⟨some 20, none, .ld none (.tmp 19)⟩ (.run ⟨some 21, none, .pur .mov [.tmp 1]⟩ (.run ⟨some 22, none, .pur .nilc [.tmp 21]⟩ (.run ⟨some 23, none, .pur (.fla 2) [.tmp 22]⟩ (.run ⟨some 24, none, .ld none (.tmp 23)⟩ (.run ⟨some 25, none, .pur (.bld [.int .i64 0, .int .i64 0] [(0, 1), (1, 1)]) [.tmp 20, .tmp 24]⟩ (.eff ⟨some 26, none, .eff (.bsl 197 2) [.tmp 25]⟩ [⟨some 15, none, .ld none (.tmp 14)⟩] (.eff ⟨some 27, none, .eff (.app 197 2 16 [.int .i64 0, .int .i64 0]) [.tmp 15, .tmp 26]⟩ [] (.run ⟨some 28, none, .pur .nilc [.tmp 11]⟩ (.run ⟨some 29, none, .pur (.fla 7) [.tmp 28]⟩ (.eff ⟨none, none, .eff (.st 1) [.tmp 29, .tmp 27]⟩ [] .done)))))))))))))))))))) [])
  (.seq (.reg (straight [⟨some 30, none, .pur .mov [.tmp 1]⟩, ⟨some 31, none, .pur .nilc [.tmp 30]⟩, ⟨some 32, none, .pur (.fla 2) [.tmp 31]⟩, ⟨some 33, none, .ld none (.tmp 32)⟩, ⟨some 34, none, .eff (.bsl 3 1) [.tmp 33]⟩, ⟨some 6, none, .pur .mov [.tmp 34]⟩]) [6])
  (.seq (.reg (straight [⟨some 35, none, .pur .mov [.tmp 0]⟩, ⟨some 36, none, .pur .nilc [.tmp 35]⟩, ⟨some 37, none, .pur (.fla 3) [.tmp 36]⟩, ⟨some 38, none, .ld none (.tmp 37)⟩, ⟨some 39, none, .pur .mov [.tmp 0]⟩, ⟨some 40, none, .pur .nilc [.tmp 39]⟩, ⟨some 41, none, .pur (.fla 3) [.tmp 40]⟩, ⟨some 42, none, .ld none (.tmp 41)⟩, ⟨some 43, none, .pur (.len false) [.tmp 42]⟩, ⟨some 44, none, .pur (.bin .sub) [.tmp 43, .const (.int .i64 2)]⟩, ⟨some 45, none, .pur (.ixa 1) [.tmp 38, .tmp 44]⟩, ⟨some 46, none, .ld none (.tmp 45)⟩, ⟨some 7, none, .pur .mov [.tmp 46]⟩]) [7])
  (.seq (.seq (.reg (straight [⟨some 47, none, .pur (.fla 0) [.tmp 5]⟩, ⟨some 48, none, .ld none (.tmp 47)⟩, ⟨some 49, none, .pur (.bin .eql) [.tmp 48, .const (.int .i64 11)]⟩, ⟨some 50, none, .pur .mov [.tmp 49]⟩, ⟨some 51, some (50, true), .pur .mov [.tmp 1]⟩, ⟨some 52, some (50, true), .pur .nilc [.tmp 51]⟩, ⟨some 53, some (50, true), .pur (.fla 4) [.tmp 52]⟩, ⟨some 54, some (50, true), .pur (.fla 1) [.tmp 53]⟩, ⟨some 55, some (50, true), .ld none (.tmp 54)⟩, ⟨some 56, some (50, true), .pur (.bin .gtr) [.tmp 55, .const (.int .i64 0)]⟩, ⟨some 57, none, .pur .pick [.tmp 50, .tmp 56, .const (.bool false)]⟩]) [57])
  (.cond (.tmp 57) (.seq (.reg (straight [⟨some 8, none, .pur .mov [.const (.int .i64 0)]⟩]) [8])
  (.seq (.seq (.reg (straight [⟨some 58, none, .pur .mov [.tmp 7]⟩, ⟨some 59, none, .pur .nilc [.tmp 58]⟩, ⟨some 60, none, .pur (.fla 10) [.tmp 59]⟩, ⟨some 61, none, .ld none (.tmp 60)⟩, ⟨some 62, none, .pur (.len false) [.tmp 61]⟩, ⟨some 63, none, .pur .mov [.const (.int .i64 0)]⟩]) [61, 62, 63])
  (.block 0 (.loop S_strand_builder_goOn_L1)))
  (.reg (straight [⟨some 75, none, .pur .mov [.tmp 6]⟩, ⟨some 76, none, .pur .mov [.tmp 8]⟩, ⟨some 77, none, .eff (.bsl 3 1) [.tmp 76]⟩, ⟨some 78, none, .eff (.app 3 1 8 [.int .i64 0]) [.tmp 75, .tmp 77]⟩, ⟨some 6, none, .pur .mov [.tmp 78]⟩]) [6]))) (.skip)))
  (.seq (.reg (straight [⟨some 79, none, .pur .mov [.tmp 1]⟩, ⟨some 80, none, .pur (.fla 1) [.tmp 5]⟩, ⟨some 81, none, .ld none (.tmp 80)⟩, ⟨some 82, none, .pur .nilc [.tmp 79]⟩, ⟨some 83, none, .pur (.fla 4) [.tmp 82]⟩, ⟨some 84, none, .pur (.fla 2) [.tmp 83]⟩, ⟨none, none, .eff (.st 1) [.tmp 84, .tmp 81]⟩]) [])
  (.reg (straight [⟨some 85, none, .pur .mov [.tmp 1]⟩, ⟨some 86, none, .pur .mov [.tmp 0]⟩, ⟨some 87, none, .pur .mov [.tmp 1]⟩, ⟨some 88, none, .pur .nilc [.tmp 87]⟩, ⟨some 89, none, .pur (.fla 4) [.tmp 88]⟩, ⟨some 90, none, .ld (some 3) (.tmp 89)⟩, ⟨some 91, none, .pur .mov [.tmp 6]⟩, ⟨some 92, none, .eff (.call 102) [.tmp 86, .tmp 90, .tmp 91]⟩, ⟨some 93, none, .pur .nilc [.tmp 85]⟩, ⟨some 94, none, .pur (.fla 2) [.tmp 93]⟩, ⟨none, none, .eff (.st 1) [.tmp 94, .tmp 92]⟩]) []))))))⟩
theorem K_strand_builder_goOn : compF Try.prog 118 = some S_strand_builder_goOn := by kernel_rfl

-- 120
def S_strand_builder_access : Fun := ⟨33, [2, 1, 5, 19, 6, 0], [],
  .seq (.reg (straight [⟨some 5, none, .eff (.box 158) [.tmp 2]⟩]) [5])
  (.seq (.reg (.run ⟨some 7, none, .pur .mov [.tmp 1]⟩ (.run ⟨some 8, none, .pur .nilc [.tmp 7]⟩ (.run ⟨some 9, none, .pur (.fla 2) [.tmp 8]⟩ (.run ⟨some 10, none, .ld none (.tmp 9)⟩ (.run ⟨some 11, none, .pur (.fla 1) [.tmp 5]⟩ (.run ⟨some 12, none, .ld none (.tmp 11)⟩ (.run ⟨some 13, none, .pur (.fla 0) [.tmp 5]⟩ (.run ⟨some 14, none, .ld none (.tmp 13)⟩ (.run ⟨some 15, none, .pur (.bin .neq) [.tmp 14, .const (.int .i64 1)]⟩ (.run ⟨some 16, none, .pur (.bld [.int .i64 0, .int .i64 0, .bool false] [(0, 1), (1, 1), (2, 1)]) [.tmp 10, .tmp 12, .tmp 15]⟩ (.eff ⟨some 6, none, .eff (.new 114 [.int .i64 0, .int .i64 0, .bool false]) []⟩ [⟨some 14, none, .ld none (.tmp 13)⟩, ⟨some 12, none, .ld none (.tmp 11)⟩, ⟨some 10, none, .ld none (.tmp 9)⟩] (.eff ⟨none, none, .eff (.st 3) [.tmp 6, .tmp 16]⟩ [] .done)))))))))))) [6])
  (.seq (.seq (.reg (straight [⟨some 17, none, .pur (.fla 0) [.tmp 5]⟩, ⟨some 18, none, .ld none (.tmp 17)⟩, ⟨some 19, none, .pur (.bin .eql) [.tmp 18, .const (.int .i64 3)]⟩]) [19])
  (.cond (.tmp 19) (.reg (straight [⟨some 20, none, .pur (.fla 1) [.tmp 6]⟩, ⟨none, none, .eff (.st 1) [.tmp 20, .const (.int .i64 (-1))]⟩]) []) (.skip)))
  (.reg (.run ⟨some 21, none, .pur .mov [.tmp 0]⟩ (.run ⟨some 22, none, .pur .mov [.tmp 0]⟩ (.run ⟨some 23, none, .pur .nilc [.tmp 22]⟩ (.run ⟨some 24, none, .pur (.fla 0) [.tmp 23]⟩ (.run ⟨some 25, none, .pur (.fla 2) [.tmp 24]⟩ (.run ⟨some 26, none, .ld none (.tmp 25)⟩ (.run ⟨some 27, none, .ld (some 3) (.tmp 6)⟩ (.eff ⟨some 28, none, .eff (.bsl 114 3) [.tmp 27]⟩ [⟨some 26, none, .ld none (.tmp 25)⟩] (.eff ⟨some 29, none, .eff (.app 114 3 24 [.int .i64 0, .int .i64 0, .bool false]) [.tmp 26, .tmp 28]⟩ [] (.run ⟨some 30, none, .pur .nilc [.tmp 21]⟩ (.run ⟨some 31, none, .pur (.fla 0) [.tmp 30]⟩ (.run ⟨some 32, none, .pur (.fla 2) [.tmp 31]⟩ (.eff ⟨none, none, .eff (.st 1) [.tmp 32, .tmp 29]⟩ [] .done))))))))))))) [])))⟩
theorem K_strand_builder_access : compF Try.prog 120 = some S_strand_builder_access := by kernel_rfl

-- 122
def S_forebayref30_Dag_loop_L1 : SCode :=
  .seq (.seq (.reg (straight [⟨some 13, none, .pur .mov [.tmp 0]⟩, ⟨some 14, none, .pur .nilc [.tmp 13]⟩, ⟨some 15, none, .pur (.fla 5) [.tmp 14]⟩, ⟨some 16, none, .ld none (.tmp 15)⟩, ⟨some 17, none, .pur .not [.tmp 16]⟩]) [17])
  (.cond (.tmp 17) (.skip) (.exit 0)))
  (.block 1 (.seq (.reg (straight [⟨some 18, none, .pur .mov [.tmp 0]⟩, ⟨some 19, none, .eff (.call 121) [.tmp 18]⟩, ⟨some 9, none, .eff (.new 116 [.int .i64 0, .int .i64 0, .int .i64 0]) []⟩, ⟨none, none, .eff (.st 3) [.tmp 9, .tmp 19]⟩]) [9])
  (.block 2 (.seq (.reg (straight [⟨some 23, none, .pur .mov [.tmp 0]⟩, ⟨some 24, none, .pur .nilc [.tmp 23]⟩, ⟨some 25, none, .pur (.fla 5) [.tmp 24]⟩, ⟨some 26, none, .ld none (.tmp 25)⟩, ⟨some 22, none, .pur .mov [.tmp 26]⟩]) [22])
  (.cond (.tmp 22) (.skip) (.seq (.reg (straight [⟨some 28, none, .pur (.fla 0) [.tmp 9]⟩, ⟨some 29, none, .ld none (.tmp 28)⟩, ⟨some 30, none, .pur (.bin .eql) [.tmp 29, .const (.int .i64 9)]⟩, ⟨some 31, none, .pur .mov [.tmp 30]⟩, ⟨some 32, some (31, true), .pur (.fla 1) [.tmp 9]⟩, ⟨some 33, some (31, true), .ld none (.tmp 32)⟩, ⟨some 34, some (31, true), .pur .mov [.tmp 7]⟩, ⟨some 35, some (31, true), .pur (.len false) [.tmp 34]⟩, ⟨some 36, some (31, true), .pur (.bin .eql) [.tmp 33, .tmp 35]⟩, ⟨some 37, none, .pur .pick [.tmp 31, .tmp 36, .const (.bool false)]⟩, ⟨some 27, none, .pur .mov [.tmp 37]⟩]) [27])
  (.cond (.tmp 27) (.seq (.reg (straight [⟨some 38, none, .pur .mov [.tmp 2]⟩, ⟨some 10, none, .pur .mov [.tmp 38]⟩]) [10])
  (.seq (.seq (.reg (straight [⟨some 39, none, .pur .mov [.tmp 7]⟩, ⟨some 40, none, .pur (.len false) [.tmp 39]⟩, ⟨some 41, none, .pur (.bin .gtr) [.tmp 40, .const (.int .i64 0)]⟩]) [41])
  (.cond (.tmp 41) (.reg (straight [⟨some 42, none, .pur .mov [.tmp 8]⟩, ⟨some 43, none, .pur (.ixa 2) [.tmp 42, .const (.int .i64 0)]⟩, ⟨some 44, none, .pur (.fla 1) [.tmp 43]⟩, ⟨some 45, none, .ld none (.tmp 44)⟩, ⟨some 10, none, .pur .mov [.tmp 45]⟩]) [10]) (.skip)))
  (.seq (.reg (straight [⟨some 46, none, .pur .mov [.tmp 1]⟩, ⟨some 47, none, .pur .mov [.tmp 7]⟩, ⟨some 48, none, .pur (.len false) [.tmp 47]⟩, ⟨some 49, none, .pur (.bld [.int .i64 0, .int .i64 0, .int .i64 0] [(0, 1), (1, 1), (2, 1)]) [.tmp 46, .tmp 48, .const (.int .i64 0)]⟩, ⟨some 11, none, .eff (.new 178 [.int .i64 0, .int .i64 0, .int .i64 0]) []⟩, ⟨none, none, .eff (.st 3) [.tmp 11, .tmp 49]⟩]) [11])
  (.seq (.reg (straight [⟨some 50, none, .pur .mov [.tmp 0]⟩, ⟨some 51, none, .ld (some 3) (.tmp 11)⟩, ⟨some 52, none, .pur .mov [.tmp 10]⟩, ⟨some 53, none, .eff (.bsl 3 1) [.tmp 52]⟩, ⟨some 54, none, .eff (.call 107) [.tmp 50, .tmp 51, .tmp 53]⟩, ⟨some 12, none, .pur .mov [.tmp 54]⟩]) [12])
  (.seq (.reg (straight [⟨some 55, none, .pur .mov [.tmp 0]⟩, ⟨some 56, none, .pur .nilc [.tmp 55]⟩, ⟨some 57, none, .pur (.fla 5) [.tmp 56]⟩, ⟨some 58, none, .ld none (.tmp 57)⟩, ⟨some 59, none, .pur .not [.tmp 58]⟩]) [59])
  (.cond (.tmp 59) (.seq (.reg (straight [⟨some 60, none, .pur .mov [.tmp 0]⟩, ⟨some 61, none, .ld (some 3) (.tmp 11)⟩, ⟨some 62, none, .pur .mov [.tmp 12]⟩, ⟨some 63, none, .pur .mov [.tmp 8]⟩, ⟨some 64, none, .eff (.call 106) [.tmp 60, .const (.int .i64 2), .tmp 61, .tmp 62, .tmp 63]⟩, ⟨some 8, none, .pur .mov [.tmp 64]⟩]) [8])
  (.seq (.reg (straight [⟨some 65, none, .pur .mov [.tmp 0]⟩, ⟨some 66, none, .pur .nilc [.tmp 65]⟩, ⟨some 67, none, .pur (.fla 5) [.tmp 66]⟩, ⟨some 68, none, .ld none (.tmp 67)⟩, ⟨some 69, none, .pur .not [.tmp 68]⟩]) [69])
  (.cond (.tmp 69) (.reg (straight [⟨some 70, none, .pur .mov [.tmp 7]⟩, ⟨some 71, none, .pur .mov [.tmp 8]⟩, ⟨some 72, none, .pur .mov [.tmp 8]⟩, ⟨some 73, none, .pur (.len false) [.tmp 72]⟩, ⟨some 74, none, .pur (.bin .sub) [.tmp 73, .const (.int .i64 1)]⟩, ⟨some 75, none, .pur (.ixa 2) [.tmp 71, .tmp 74]⟩, ⟨some 76, none, .pur (.fla 1) [.tmp 75]⟩, ⟨some 77, none, .ld none (.tmp 76)⟩, ⟨some 78, none, .eff (.bsl 3 1) [.tmp 77]⟩, ⟨some 79, none, .eff (.app 3 1 8 [.int .i64 0]) [.tmp 70, .tmp 78]⟩, ⟨some 7, none, .pur .mov [.tmp 79]⟩]) [7]) (.skip)))) (.skip))))))) (.seq (.reg (straight [⟨some 81, none, .pur (.fla 0) [.tmp 9]⟩, ⟨some 82, none, .ld none (.tmp 81)⟩, ⟨some 83, none, .pur (.bin .eql) [.tmp 82, .const (.int .i64 8)]⟩, ⟨some 84, none, .pur .mov [.tmp 83]⟩, ⟨some 85, some (84, true), .pur (.fla 1) [.tmp 9]⟩, ⟨some 86, some (84, true), .ld none (.tmp 85)⟩, ⟨some 87, some (84, true), .pur .mov [.tmp 1]⟩, ⟨some 88, some (84, true), .pur (.bin .eql) [.tmp 86, .tmp 87]⟩, ⟨some 89, none, .pur .pick [.tmp 84, .tmp 88, .const (.bool false)]⟩, ⟨some 90, none, .pur .mov [.tmp 89]⟩, ⟨some 91, some (90, true), .pur .mov [.tmp 7]⟩, ⟨some 92, some (90, true), .pur (.len false) [.tmp 91]⟩, ⟨some 93, some (90, true), .pur (.bin .gtr) [.tmp 92, .const (.int .i64 0)]⟩, ⟨some 94, none, .pur .pick [.tmp 90, .tmp 93, .const (.bool false)]⟩, ⟨some 80, none, .pur .mov [.tmp 94]⟩]) [80])
  (.cond (.tmp 80) (.seq (.reg (straight [⟨some 95, none, .pur .mov [.tmp 7]⟩, ⟨some 6, none, .pur .mov [.tmp 95]⟩]) [6])
  (.ret)) (.reg (straight [⟨some 20, none, .pur .mov [.tmp 0]⟩, ⟨some 21, none, .eff (.call 124) [.tmp 20]⟩]) []))))))))))
def S_forebayref30_Dag_loop : Fun := ⟨96, [6, 0, 17, 22, 9, 7, 27, 2, 41, 8, 1, 11, 10, 59, 12, 69, 80], [.tmp 6],
  .seq (.reg (straight [⟨some 6, none, .pur .mov [.const (.slice none 0 0)]⟩]) [6])
  (.seq (.reg (straight [⟨some 7, none, .pur .mov [.const (.slice none 0 0)]⟩]) [7])
  (.seq (.reg (straight [⟨some 8, none, .pur .mov [.const (.slice none 0 0)]⟩]) [8])
  (.seq (.block 0 (.loop S_forebayref30_Dag_loop_L1))
  (.seq (.reg (straight [⟨some 6, none, .pur .mov [.const (.slice none 0 0)]⟩]) [6])
  (.ret)))))⟩
theorem K_forebayref30_Dag_loop : compF Try.prog 122 = some S_forebayref30_Dag_loop := by kernel_rfl

end Go.Proofs.Ytilofhocodbknaa
