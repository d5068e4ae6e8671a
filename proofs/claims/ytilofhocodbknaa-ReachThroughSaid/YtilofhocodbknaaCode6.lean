import Derived.Test.YtilofhocodbknaaKj
import Derived.Test.YtilofhocodbknaaProg
import Derived.KernelRfl
namespace Go.Proofs.Ytilofhocodbknaa
open Go Go.Kx Go.Proofs
set_option maxRecDepth 100000

-- 8
def S_forebaylaw33_GridNodes : Fun := ⟨165, [8, 15, 0, 1, 9, 10, 11, 47, 77, 2, 3, 12, 13], [.tmp 8],
  .seq (.reg (straight [⟨some 8, none, .pur .mov [.const (.bool false)]⟩]) [8])
  (.seq (.seq (.reg (straight [⟨some 14, none, .eff (.call 28) []⟩, ⟨some 15, none, .pur .not [.tmp 14]⟩]) [15])
  (.cond (.tmp 15) (.seq (.reg (straight [⟨some 8, none, .pur .mov [.const (.bool false)]⟩]) [8])
  (.ret)) (.skip)))
  (.seq (.reg (straight [⟨some 16, none, .pur .mov [.tmp 0]⟩, ⟨some 17, none, .pur .mov [.tmp 1]⟩, ⟨some 18, none, .eff (.call 35) [.tmp 16, .tmp 17]⟩, ⟨some 9, none, .pur .mov [.tmp 18]⟩]) [9])
  (.seq (.reg (straight [⟨some 19, none, .pur .mov [.tmp 0]⟩, ⟨some 20, none, .eff (.call 37) [.tmp 19]⟩, ⟨some 21, none, .pur .mov [.tmp 1]⟩, ⟨some 22, none, .eff (.call 37) [.tmp 21]⟩, ⟨some 10, none, .pur .mov [.tmp 20]⟩, ⟨some 11, none, .pur .mov [.tmp 22]⟩]) [10, 11])
  (.seq (.seq (.reg (straight [⟨some 23, none, .pur .mov [.tmp 9]⟩, ⟨some 24, none, .eff (.call 39) [.tmp 23]⟩, ⟨some 25, none, .pur .mov [.tmp 10]⟩, ⟨some 26, none, .pur (.bin .neq) [.tmp 24, .tmp 25]⟩, ⟨some 27, none, .pur .mov [.tmp 26]⟩, ⟨some 28, some (27, false), .pur .mov [.tmp 9]⟩, ⟨some 29, some (27, false), .eff (.call 40) [.tmp 28]⟩, ⟨some 30, some (27, false), .pur .mov [.tmp 11]⟩, ⟨some 31, some (27, false), .pur (.bin .neq) [.tmp 29, .tmp 30]⟩, ⟨some 32, none, .pur .pick [.tmp 27, .const (.bool true), .tmp 31]⟩, ⟨some 33, none, .pur .mov [.tmp 32]⟩, ⟨some 34, some (33, false), .pur .mov [.tmp 9]⟩, ⟨some 35, some (33, false), .eff (.call 41) [.tmp 34]⟩, ⟨some 36, some (33, false), .eff (.call 41) [.tmp 35]⟩, ⟨some 37, some (33, false), .pur .mov [.tmp 9]⟩, ⟨some 38, some (33, false), .pur (.bin .neq) [.tmp 36, .tmp 37]⟩, ⟨some 39, none, .pur .pick [.tmp 33, .const (.bool true), .tmp 38]⟩, ⟨some 40, none, .pur .mov [.tmp 39]⟩, ⟨some 41, some (40, false), .pur .mov [.tmp 9]⟩, ⟨some 42, some (40, false), .eff (.call 41) [.tmp 41]⟩, ⟨some 43, some (40, false), .pur .mov [.tmp 11]⟩, ⟨some 44, some (40, false), .pur .mov [.tmp 10]⟩, ⟨some 45, some (40, false), .eff (.call 35) [.tmp 43, .tmp 44]⟩, ⟨some 46, some (40, false), .pur (.bin .neq) [.tmp 42, .tmp 45]⟩, ⟨some 47, none, .pur .pick [.tmp 40, .const (.bool true), .tmp 46]⟩]) [47])
  (.cond (.tmp 47) (.seq (.reg (straight [⟨some 8, none, .pur .mov [.const (.bool false)]⟩]) [8])
  (.ret)) (.skip)))
  (.seq (.seq (.reg (straight [⟨some 48, none, .pur .mov [.tmp 9]⟩, ⟨some 49, none, .eff (.call 42) [.tmp 48, .const (.bool true)]⟩, ⟨some 50, none, .eff (.call 40) [.tmp 49]⟩, ⟨some 51, none, .pur .mov [.tmp 11]⟩, ⟨some 52, none, .pur (.bin .add) [.tmp 51, .const (.int .i64 1)]⟩, ⟨some 53, none, .eff (.call 37) [.tmp 52]⟩, ⟨some 54, none, .pur (.bin .neq) [.tmp 50, .tmp 53]⟩, ⟨some 55, none, .pur .mov [.tmp 54]⟩, ⟨some 56, some (55, false), .pur .mov [.tmp 9]⟩, ⟨some 57, some (55, false), .eff (.call 42) [.tmp 56, .const (.bool true)]⟩, ⟨some 58, some (55, false), .eff (.call 39) [.tmp 57]⟩, ⟨some 59, some (55, false), .pur .mov [.tmp 10]⟩, ⟨some 60, some (55, false), .pur (.bin .neq) [.tmp 58, .tmp 59]⟩, ⟨some 61, none, .pur .pick [.tmp 55, .const (.bool true), .tmp 60]⟩, ⟨some 62, none, .pur .mov [.tmp 61]⟩, ⟨some 63, some (62, false), .pur .mov [.tmp 9]⟩, ⟨some 64, some (62, false), .eff (.call 42) [.tmp 63, .const (.bool false)]⟩, ⟨some 65, some (62, false), .eff (.call 39) [.tmp 64]⟩, ⟨some 66, some (62, false), .pur .mov [.tmp 10]⟩, ⟨some 67, some (62, false), .pur (.bin .add) [.tmp 66, .const (.int .i64 1)]⟩, ⟨some 68, some (62, false), .eff (.call 37) [.tmp 67]⟩, ⟨some 69, some (62, false), .pur (.bin .neq) [.tmp 65, .tmp 68]⟩, ⟨some 70, none, .pur .pick [.tmp 62, .const (.bool true), .tmp 69]⟩, ⟨some 71, none, .pur .mov [.tmp 70]⟩, ⟨some 72, some (71, false), .pur .mov [.tmp 9]⟩, ⟨some 73, some (71, false), .eff (.call 42) [.tmp 72, .const (.bool false)]⟩, ⟨some 74, some (71, false), .eff (.call 40) [.tmp 73]⟩, ⟨some 75, some (71, false), .pur .mov [.tmp 11]⟩, ⟨some 76, some (71, false), .pur (.bin .neq) [.tmp 74, .tmp 75]⟩, ⟨some 77, none, .pur .pick [.tmp 71, .const (.bool true), .tmp 76]⟩]) [77])
  (.cond (.tmp 77) (.seq (.reg (straight [⟨some 8, none, .pur .mov [.const (.bool false)]⟩]) [8])
  (.ret)) (.skip)))
  (.seq (.reg (straight [⟨some 78, none, .pur .mov [.tmp 2]⟩, ⟨some 79, none, .pur .mov [.tmp 3]⟩, ⟨some 80, none, .pur (.cpx .f64) [.tmp 78, .tmp 79]⟩, ⟨some 81, none, .eff (.call 39) [.tmp 80]⟩, ⟨some 82, none, .pur .mov [.tmp 2]⟩, ⟨some 83, none, .pur .mov [.tmp 3]⟩, ⟨some 84, none, .pur (.cpx .f64) [.tmp 82, .tmp 83]⟩, ⟨some 85, none, .eff (.call 40) [.tmp 84]⟩, ⟨some 12, none, .pur .mov [.tmp 81]⟩, ⟨some 13, none, .pur .mov [.tmp 85]⟩]) [12, 13])
  (.seq (.reg (straight [⟨some 86, none, .pur .mov [.tmp 12]⟩, ⟨some 87, none, .pur (.bin .geq) [.tmp 86, .const (.int .i64 0)]⟩, ⟨some 88, none, .pur .mov [.tmp 87]⟩, ⟨some 89, some (88, true), .pur .mov [.tmp 12]⟩, ⟨some 90, some (88, true), .pur (.bin .leq) [.tmp 89, .const (.int .i64 1048576)]⟩, ⟨some 91, none, .pur .pick [.tmp 88, .tmp 90, .const (.bool false)]⟩, ⟨some 92, none, .pur .mov [.tmp 91]⟩, ⟨some 93, some (92, true), .pur .mov [.tmp 13]⟩, ⟨some 94, some (92, true), .pur (.bin .geq) [.tmp 93, .const (.int .i64 0)]⟩, ⟨some 95, none, .pur .pick [.tmp 92, .tmp 94, .const (.bool false)]⟩, ⟨some 96, none, .pur .mov [.tmp 95]⟩, ⟨some 97, some (96, true), .pur .mov [.tmp 13]⟩, ⟨some 98, some (96, true), .pur (.bin .leq) [.tmp 97, .const (.int .i64 1048576)]⟩, ⟨some 99, none, .pur .pick [.tmp 96, .tmp 98, .const (.bool false)]⟩, ⟨some 100, none, .pur .mov [.tmp 99]⟩, ⟨some 101, some (100, true), .pur .mov [.tmp 2]⟩, ⟨some 102, some (100, true), .pur (.bin .gtr) [.tmp 101, .const (.float .f64 0)]⟩, ⟨some 103, some (100, true), .pur .mov [.tmp 102]⟩, ⟨some 104, some (103, true), .pur .mov [.tmp 2]⟩, ⟨some 105, some (103, true), .pur (.bin .lss) [.tmp 104, .const (.float .f64 4697254411347427328)]⟩, ⟨some 106, some (100, true), .pur .pick [.tmp 103, .tmp 105, .const (.bool false)]⟩, ⟨some 107, some (100, true), .pur .not [.tmp 106]⟩, ⟨some 108, some (100, true), .pur .mov [.tmp 107]⟩, ⟨some 109, some (108, false), .pur .mov [.tmp 12]⟩, ⟨some 110, some (108, false), .pur (.intF .f64) [.tmp 109]⟩, ⟨some 111, some (108, false), .pur .mov [.tmp 2]⟩, ⟨some 112, some (108, false), .pur (.bin .leq) [.tmp 110, .tmp 111]⟩, ⟨some 113, some (108, false), .pur .mov [.tmp 112]⟩, ⟨some 114, some (113, true), .pur .mov [.tmp 12]⟩, ⟨some 115, some (113, true), .pur (.intF .f64) [.tmp 114]⟩, ⟨some 116, some (113, true), .pur .mov [.tmp 2]⟩, ⟨some 117, some (113, true), .pur (.bin .sub) [.tmp 116, .const (.float .f64 4607182418800017408)]⟩, ⟨some 118, some (113, true), .pur (.bin .gtr) [.tmp 115, .tmp 117]⟩, ⟨some 119, some (108, false), .pur .pick [.tmp 113, .tmp 118, .const (.bool false)]⟩, ⟨some 120, some (100, true), .pur .pick [.tmp 108, .const (.bool true), .tmp 119]⟩, ⟨some 121, none, .pur .pick [.tmp 100, .tmp 120, .const (.bool false)]⟩, ⟨some 122, none, .pur .mov [.tmp 121]⟩, ⟨some 123, some (122, true), .pur .mov [.tmp 2]⟩, ⟨some 124, some (122, true), .pur (.bin .gtr) [.tmp 123, .const (.float .f64 0)]⟩, ⟨some 125, some (122, true), .pur .mov [.tmp 124]⟩, ⟨some 126, some (125, false), .pur .mov [.tmp 12]⟩, ⟨some 127, some (125, false), .pur (.bin .eql) [.tmp 126, .const (.int .i64 0)]⟩, ⟨some 128, some (122, true), .pur .pick [.tmp 125, .const (.bool true), .tmp 127]⟩, ⟨some 129, none, .pur .pick [.tmp 122, .tmp 128, .const (.bool false)]⟩, ⟨some 130, none, .pur .mov [.tmp 129]⟩, ⟨some 131, some (130, true), .pur .mov [.tmp 2]⟩, ⟨some 132, some (130, true), .pur .mov [.tmp 2]⟩, ⟨some 133, some (130, true), .pur (.bin .eql) [.tmp 131, .tmp 132]⟩, ⟨some 134, some (130, true), .pur .mov [.tmp 133]⟩, ⟨some 135, some (134, false), .pur .mov [.tmp 12]⟩, ⟨some 136, some (134, false), .pur (.bin .eql) [.tmp 135, .const (.int .i64 0)]⟩, ⟨some 137, some (130, true), .pur .pick [.tmp 134, .const (.bool true), .tmp 136]⟩, ⟨some 138, none, .pur .pick [.tmp 130, .tmp 137, .const (.bool false)]⟩, ⟨some 139, none, .pur .mov [.tmp 138]⟩, ⟨some 140, some (139, true), .pur .mov [.tmp 2]⟩, ⟨some 141, some (139, true), .pur (.bin .geq) [.tmp 140, .const (.float .f64 4697254411347427328)]⟩, ⟨some 142, some (139, true), .pur .not [.tmp 141]⟩, ⟨some 143, some (139, true), .pur .mov [.tmp 142]⟩, ⟨some 144, some (143, false), .pur .mov [.tmp 12]⟩, ⟨some 145, some (143, false), .pur (.bin .eql) [.tmp 144, .const (.int .i64 1048576)]⟩, ⟨some 146, some (139, true), .pur .pick [.tmp 143, .const (.bool true), .tmp 145]⟩, ⟨some 147, none, .pur .pick [.tmp 139, .tmp 146, .const (.bool false)]⟩, ⟨some 148, none, .pur .mov [.tmp 147]⟩, ⟨some 149, some (148, true), .pur .mov [.tmp 3]⟩, ⟨some 150, some (148, true), .pur (.bin .geq) [.tmp 149, .const (.float .f64 4697254411347427328)]⟩, ⟨some 151, some (148, true), .pur .not [.tmp 150]⟩, ⟨some 152, some (148, true), .pur .mov [.tmp 151]⟩, ⟨some 153, some (152, false), .pur .mov [.tmp 13]⟩, ⟨some 154, some (152, false), .pur (.bin .eql) [.tmp 153, .const (.int .i64 1048576)]⟩, ⟨some 155, some (148, true), .pur .pick [.tmp 152, .const (.bool true), .tmp 154]⟩, ⟨some 156, none, .pur .pick [.tmp 148, .tmp 155, .const (.bool false)]⟩, ⟨some 157, none, .pur .mov [.tmp 156]⟩, ⟨some 158, some (157, true), .pur .mov [.tmp 3]⟩, ⟨some 159, some (157, true), .pur (.bin .gtr) [.tmp 158, .const (.float .f64 0)]⟩, ⟨some 160, some (157, true), .pur .mov [.tmp 159]⟩, ⟨some 161, some (160, false), .pur .mov [.tmp 13]⟩, ⟨some 162, some (160, false), .pur (.bin .eql) [.tmp 161, .const (.int .i64 0)]⟩, ⟨some 163, some (157, true), .pur .pick [.tmp 160, .const (.bool true), .tmp 162]⟩, ⟨some 164, none, .pur .pick [.tmp 157, .tmp 163, .const (.bool false)]⟩, ⟨some 8, none, .pur .mov [.tmp 164]⟩]) [8])
  (.ret))))))))⟩
theorem K_forebaylaw33_GridNodes : compF Try.prog 8 = some S_forebaylaw33_GridNodes := by kernel_rfl

-- 12
def S_forebaylaw31_ReachLongest_L1 : SCode :=
  .seq (.seq (.reg (straight [⟨some 53, none, .pur .mov [.tmp 9]⟩, ⟨some 54, none, .pur .mov [.tmp 0]⟩, ⟨some 55, none, .pur (.len false) [.tmp 54]⟩, ⟨some 56, none, .pur (.bin .lss) [.tmp 53, .tmp 55]⟩]) [56])
  (.cond (.tmp 56) (.skip) (.exit 0)))
  (.seq (.block 1 (.seq (.reg (straight [⟨some 59, none, .pur .mov [.tmp 7]⟩, ⟨some 60, none, .pur .mov [.tmp 59]⟩, ⟨some 61, some (60, true), .pur .mov [.tmp 9]⟩, ⟨some 62, some (60, true), .pur (.bin .eql) [.tmp 61, .const (.int .i64 0)]⟩, ⟨some 63, some (60, true), .pur .mov [.tmp 62]⟩, ⟨some 64, some (63, false), .pur .mov [.tmp 5]⟩, ⟨some 65, some (63, false), .pur .mov [.tmp 9]⟩, ⟨some 66, some (63, false), .pur (.bin .sub) [.tmp 65, .const (.int .i64 1)]⟩, ⟨some 67, some (63, false), .pur .mov [.tmp 9]⟩, ⟨some 68, some (63, false), .eff (.call 51) [.tmp 64, .tmp 66, .tmp 67]⟩, ⟨some 69, some (60, true), .pur .pick [.tmp 63, .const (.bool true), .tmp 68]⟩, ⟨some 70, none, .pur .pick [.tmp 60, .tmp 69, .const (.bool false)]⟩, ⟨some 7, none, .pur .mov [.tmp 70]⟩]) [7])
  (.seq (.reg (straight [⟨some 71, none, .pur .mov [.tmp 8]⟩, ⟨some 72, none, .pur .mov [.tmp 5]⟩, ⟨some 73, none, .pur .mov [.tmp 9]⟩, ⟨some 74, none, .eff (.call 53) [.tmp 72, .tmp 73]⟩, ⟨some 75, none, .pur (.minmax true) [.tmp 71, .tmp 74]⟩, ⟨some 8, none, .pur .mov [.tmp 75]⟩]) [8])
  (.seq (.reg (straight [⟨some 77, none, .pur .mov [.tmp 0]⟩, ⟨some 78, none, .pur .mov [.tmp 9]⟩, ⟨some 79, none, .pur (.bin .add) [.tmp 78, .const (.int .i64 1)]⟩, ⟨some 80, none, .pur (.slc 1 false true) [.tmp 77, .tmp 79]⟩, ⟨some 81, none, .eff (.call 46) [.tmp 80]⟩, ⟨some 82, none, .eff (.call 48) [.tmp 81]⟩, ⟨some 76, none, .pur .mov [.tmp 82]⟩, ⟨some 83, none, .pur (.ext 0) [.tmp 76]⟩, ⟨some 84, none, .pur (.ext 1) [.tmp 76]⟩, ⟨some 10, none, .pur .mov [.tmp 83]⟩, ⟨some 11, none, .pur .mov [.tmp 84]⟩]) [10, 11])
  (.seq (.seq (.reg (straight [⟨some 85, none, .pur .mov [.tmp 11]⟩, ⟨some 86, none, .pur (.bin .neq) [.tmp 85, .const (.int .i64 0)]⟩, ⟨some 87, none, .pur .mov [.tmp 86]⟩, ⟨some 88, some (87, false), .pur .mov [.tmp 10]⟩, ⟨some 89, some (87, false), .pur .mov [.tmp 3]⟩, ⟨some 90, some (87, false), .pur (.bin .gtr) [.tmp 88, .tmp 89]⟩, ⟨some 91, none, .pur .pick [.tmp 87, .const (.bool true), .tmp 90]⟩]) [91])
  (.cond (.tmp 91) (.seq (.reg (straight [⟨some 2, none, .pur .mov [.const (.bool false)]⟩]) [2])
  (.ret)) (.skip)))
  (.seq (.reg (straight [⟨some 92, none, .pur .mov [.tmp 9]⟩, ⟨some 93, none, .pur (.bin .gtr) [.tmp 92, .const (.int .i64 40)]⟩]) [93])
  (.cond (.tmp 93) (.seq (.reg (straight [⟨some 94, none, .pur .mov [.tmp 3]⟩, ⟨some 95, none, .pur (.bin .sub) [.tmp 94, .const (.int .i64 1)]⟩, ⟨some 96, none, .pur .mov [.tmp 0]⟩, ⟨some 97, none, .pur (.len false) [.tmp 96]⟩, ⟨some 98, none, .pur (.bin .leq) [.tmp 95, .tmp 97]⟩, ⟨some 2, none, .pur .mov [.tmp 98]⟩]) [2])
  (.ret)) (.skip))))))))
  (.reg (straight [⟨some 57, none, .pur .mov [.tmp 9]⟩, ⟨some 58, none, .pur (.bin .add) [.tmp 57, .const (.int .i64 1)]⟩, ⟨some 9, none, .pur .mov [.tmp 58]⟩]) [9]))
def S_forebaylaw31_ReachLongest : Fun := ⟨111, [2, 13, 0, 20, 4, 6, 3, 52, 9, 56, 7, 5, 8, 11, 10, 91, 93], [.tmp 2],
  .seq (.reg (straight [⟨some 2, none, .pur .mov [.const (.bool false)]⟩]) [2])
  (.seq (.seq (.reg (straight [⟨some 12, none, .eff (.call 43) []⟩, ⟨some 13, none, .pur .not [.tmp 12]⟩]) [13])
  (.cond (.tmp 13) (.seq (.reg (straight [⟨some 2, none, .pur .mov [.const (.bool false)]⟩]) [2])
  (.ret)) (.skip)))
  (.seq (.seq (.reg (straight [⟨some 14, none, .pur .mov [.tmp 0]⟩, ⟨some 15, none, .eff (.call 44) [.tmp 14]⟩, ⟨some 16, none, .pur .mov [.tmp 15]⟩, ⟨some 17, some (16, false), .pur .mov [.tmp 0]⟩, ⟨some 18, some (16, false), .eff (.call 47) [.tmp 17]⟩, ⟨some 19, some (16, false), .pur (.bin .neq) [.tmp 18, .const (.int .i64 0)]⟩, ⟨some 20, none, .pur .pick [.tmp 16, .const (.bool true), .tmp 19]⟩]) [20])
  (.cond (.tmp 20) (.seq (.reg (straight [⟨some 2, none, .pur .mov [.const (.bool true)]⟩]) [2])
  (.ret)) (.skip)))
  (.seq (.reg (straight [⟨some 22, none, .pur .mov [.tmp 0]⟩, ⟨some 23, none, .eff (.call 46) [.tmp 22]⟩, ⟨some 24, none, .eff (.call 48) [.tmp 23]⟩, ⟨some 21, none, .pur .mov [.tmp 24]⟩, ⟨some 25, none, .pur (.ext 0) [.tmp 21]⟩, ⟨some 26, none, .pur (.ext 1) [.tmp 21]⟩, ⟨some 3, none, .pur .mov [.tmp 25]⟩, ⟨some 4, none, .pur .mov [.tmp 26]⟩]) [3, 4])
  (.seq (.reg (straight [⟨some 28, none, .pur .mov [.tmp 0]⟩, ⟨some 29, none, .eff (.call 46) [.tmp 28]⟩, ⟨some 30, none, .eff (.call 45) [.tmp 29]⟩, ⟨some 27, none, .pur .mov [.tmp 30]⟩, ⟨some 31, none, .pur (.ext 0) [.tmp 27]⟩, ⟨some 32, none, .pur (.ext 1) [.tmp 27]⟩, ⟨some 5, none, .pur .mov [.tmp 31]⟩, ⟨some 6, none, .pur .mov [.tmp 32]⟩]) [5, 6])
  (.seq (.seq (.reg (straight [⟨some 33, none, .pur .mov [.tmp 4]⟩, ⟨some 34, none, .pur (.bin .neq) [.tmp 33, .const (.int .i64 0)]⟩, ⟨some 35, none, .pur .mov [.tmp 34]⟩, ⟨some 36, some (35, false), .pur .mov [.tmp 6]⟩, ⟨some 37, some (35, false), .pur (.bin .neq) [.tmp 36, .const (.int .i64 0)]⟩, ⟨some 38, none, .pur .pick [.tmp 35, .const (.bool true), .tmp 37]⟩, ⟨some 39, none, .pur .mov [.tmp 38]⟩, ⟨some 40, some (39, false), .pur .mov [.tmp 3]⟩, ⟨some 41, some (39, false), .pur .mov [.tmp 0]⟩, ⟨some 42, some (39, false), .pur (.len false) [.tmp 41]⟩, ⟨some 43, some (39, false), .pur (.bin .gtr) [.tmp 40, .tmp 42]⟩, ⟨some 44, none, .pur .pick [.tmp 39, .const (.bool true), .tmp 43]⟩, ⟨some 45, none, .pur .mov [.tmp 44]⟩, ⟨some 46, some (45, false), .pur .mov [.tmp 3]⟩, ⟨some 47, some (45, false), .pur (.bin .eql) [.tmp 46, .const (.int .i64 0)]⟩, ⟨some 48, some (45, false), .pur .mov [.tmp 0]⟩, ⟨some 49, some (45, false), .pur (.len false) [.tmp 48]⟩, ⟨some 50, some (45, false), .pur (.bin .eql) [.tmp 49, .const (.int .i64 0)]⟩, ⟨some 51, some (45, false), .pur (.eqb true) [.tmp 47, .tmp 50]⟩, ⟨some 52, none, .pur .pick [.tmp 45, .const (.bool true), .tmp 51]⟩]) [52])
  (.cond (.tmp 52) (.seq (.reg (straight [⟨some 2, none, .pur .mov [.const (.bool false)]⟩]) [2])
  (.ret)) (.skip)))
  (.seq (.reg (straight [⟨some 7, none, .pur .mov [.const (.bool true)]⟩]) [7])
  (.seq (.reg (straight [⟨some 8, none, .pur .mov [.const (.int .i64 0)]⟩]) [8])
  (.seq (.seq (.reg (straight [⟨some 9, none, .pur .mov [.const (.int .i64 0)]⟩]) [9])
  (.block 0 (.loop S_forebaylaw31_ReachLongest_L1)))
  (.seq (.reg (straight [⟨some 99, none, .pur .mov [.tmp 3]⟩, ⟨some 100, none, .pur .mov [.tmp 0]⟩, ⟨some 101, none, .pur (.len false) [.tmp 100]⟩, ⟨some 102, none, .pur (.bin .eql) [.tmp 99, .tmp 101]⟩, ⟨some 103, none, .pur .mov [.tmp 7]⟩, ⟨some 104, none, .pur (.eqb false) [.tmp 102, .tmp 103]⟩, ⟨some 105, none, .pur .mov [.tmp 104]⟩, ⟨some 106, some (105, true), .pur .mov [.tmp 8]⟩, ⟨some 107, some (105, true), .pur .mov [.tmp 3]⟩, ⟨some 108, some (105, true), .pur (.bin .sub) [.tmp 107, .const (.int .i64 1)]⟩, ⟨some 109, some (105, true), .pur (.bin .geq) [.tmp 106, .tmp 108]⟩, ⟨some 110, none, .pur .pick [.tmp 105, .tmp 109, .const (.bool false)]⟩, ⟨some 2, none, .pur .mov [.tmp 110]⟩]) [2])
  (.ret))))))))))⟩
theorem K_forebaylaw31_ReachLongest : compF Try.prog 12 = some S_forebaylaw31_ReachLongest := by kernel_rfl

-- 26
def S_compare_Add_L1 : SCode :=
  .seq (.reg (straight [⟨some 13, none, .pur (.bin .lss) [.tmp 12, .tmp 11]⟩]) [13])
  (.seq (.cond (.tmp 13) (.skip) (.exit 0))
  (.seq (.block 1 (.seq (.reg (straight [⟨some 14, none, .pur (.ixa 11) [.tmp 10, .tmp 12]⟩, ⟨some 15, none, .ld (some 11) (.tmp 14)⟩, ⟨some 6, none, .eff (.new 129 [.int .i64 0, .int .i64 0, .slice none 0 0, .slice none 0 0, .int .i64 0, .int .i64 0, .int .i64 0, .int .i64 0, .int .i64 0, .int .i64 0, .int .i64 0]) []⟩, ⟨none, none, .eff (.st 11) [.tmp 6, .tmp 15]⟩]) [6])
  (.seq (.seq (.reg (straight [⟨some 16, none, .pur (.fla 0) [.tmp 6]⟩, ⟨some 17, none, .ld none (.tmp 16)⟩]) [17])
  (.block 2 (.seq (.reg (straight [⟨some 19, none, .pur (.bin .eql) [.tmp 17, .const (.int .i64 1)]⟩, ⟨some 18, none, .pur .mov [.tmp 19]⟩]) [18])
  (.cond (.tmp 18) (.reg (straight [⟨some 20, none, .pur (.fla 1) [.tmp 3]⟩, ⟨some 21, none, .ld none (.tmp 20)⟩, ⟨some 22, none, .pur (.bin .add) [.tmp 21, .const (.int .i64 1)]⟩, ⟨some 23, none, .pur (.fla 1) [.tmp 3]⟩, ⟨none, none, .eff (.st 1) [.tmp 23, .tmp 22]⟩]) []) (.seq (.reg (straight [⟨some 25, none, .pur (.bin .eql) [.tmp 17, .const (.int .i64 4)]⟩, ⟨some 24, none, .pur .mov [.tmp 25]⟩]) [24])
  (.cond (.tmp 24) (.reg (straight [⟨some 26, none, .pur (.fla 2) [.tmp 3]⟩, ⟨some 27, none, .ld none (.tmp 26)⟩, ⟨some 28, none, .pur (.bin .add) [.tmp 27, .const (.int .i64 1)]⟩, ⟨some 29, none, .pur (.fla 2) [.tmp 3]⟩, ⟨none, none, .eff (.st 1) [.tmp 29, .tmp 28]⟩]) []) (.seq (.reg (straight [⟨some 31, none, .pur (.bin .eql) [.tmp 17, .const (.int .i64 5)]⟩, ⟨some 30, none, .pur .mov [.tmp 31]⟩]) [30])
  (.cond (.tmp 30) (.reg (straight [⟨some 32, none, .pur (.fla 3) [.tmp 3]⟩, ⟨some 33, none, .ld none (.tmp 32)⟩, ⟨some 34, none, .pur (.bin .add) [.tmp 33, .const (.int .i64 1)]⟩, ⟨some 35, none, .pur (.fla 3) [.tmp 3]⟩, ⟨none, none, .eff (.st 1) [.tmp 35, .tmp 34]⟩]) []) (.seq (.reg (straight [⟨some 37, none, .pur (.bin .eql) [.tmp 17, .const (.int .i64 6)]⟩, ⟨some 36, none, .pur .mov [.tmp 37]⟩]) [36])
  (.cond (.tmp 36) (.reg (straight [⟨some 38, none, .pur (.fla 4) [.tmp 3]⟩, ⟨some 39, none, .ld none (.tmp 38)⟩, ⟨some 40, none, .pur (.bin .add) [.tmp 39, .const (.int .i64 1)]⟩, ⟨some 41, none, .pur (.fla 4) [.tmp 3]⟩, ⟨none, none, .eff (.st 1) [.tmp 41, .tmp 40]⟩]) []) (.skip)))))))))))
  (.seq (.reg (straight [⟨some 42, none, .pur .mov [.tmp 4]⟩, ⟨some 43, none, .pur (.mkf (.func 87) 0) [.tmp 6]⟩, ⟨some 44, none, .eff (.call 86) [.tmp 42, .tmp 43]⟩, ⟨some 45, none, .pur .not [.tmp 44]⟩]) [45])
  (.cond (.tmp 45) (.reg (straight [⟨some 46, none, .pur .mov [.tmp 4]⟩, ⟨some 47, none, .ld (some 11) (.tmp 6)⟩, ⟨some 48, none, .eff (.bsl 129 11) [.tmp 47]⟩, ⟨some 49, none, .eff (.app 129 11 120 [.int .i64 0, .int .i64 0, .slice none 0 0, .slice none 0 0, .int .i64 0, .int .i64 0, .int .i64 0, .int .i64 0, .int .i64 0, .int .i64 0, .int .i64 0]) [.tmp 46, .tmp 48]⟩, ⟨some 4, none, .pur .mov [.tmp 49]⟩]) [4]) (.skip))))))
  (.reg (straight [⟨some 50, none, .pur (.bin .add) [.tmp 12, .const (.int .i64 1)]⟩, ⟨some 12, none, .pur .mov [.tmp 50]⟩]) [12])))
def S_compare_Add : Fun := ⟨55, [2, 0, 12, 11, 13, 10, 6, 17, 18, 3, 24, 30, 36, 4, 45], [.cell 2 (some 6)],
  .seq (.reg (straight [⟨some 2, none, .eff (.new 38 [.int .i64 0, .int .i64 0, .int .i64 0, .int .i64 0, .int .i64 0, .int .i64 0]) []⟩]) [2])
  (.seq (.reg (straight [⟨some 7, none, .pur .mov [.tmp 0]⟩, ⟨some 8, none, .pur (.len false) [.tmp 7]⟩, ⟨some 9, none, .pur (.bld [.int .i64 0, .int .i64 0, .int .i64 0, .int .i64 0, .int .i64 0, .int .i64 0] [(0, 1)]) [.tmp 8]⟩, ⟨some 3, none, .eff (.new 38 [.int .i64 0, .int .i64 0, .int .i64 0, .int .i64 0, .int .i64 0, .int .i64 0]) []⟩, ⟨none, none, .eff (.st 6) [.tmp 3, .tmp 9]⟩]) [3])
  (.seq (.reg (straight [⟨some 4, none, .pur .mov [.const (.slice none 0 0)]⟩]) [4])
  (.seq (.seq (.reg (straight [⟨some 10, none, .pur .mov [.tmp 0]⟩, ⟨some 11, none, .pur (.len false) [.tmp 10]⟩, ⟨some 12, none, .pur .mov [.const (.int .i64 0)]⟩]) [10, 11, 12])
  (.block 0 (.loop S_compare_Add_L1)))
  (.seq (.reg (straight [⟨some 51, none, .pur .mov [.tmp 4]⟩, ⟨some 52, none, .pur (.len false) [.tmp 51]⟩, ⟨some 53, none, .pur (.fla 5) [.tmp 3]⟩, ⟨none, none, .eff (.st 1) [.tmp 53, .tmp 52]⟩]) [])
  (.seq (.reg (straight [⟨some 54, none, .ld (some 6) (.tmp 3)⟩, ⟨none, none, .eff (.st 6) [.tmp 2, .tmp 54]⟩]) [])
  (.ret))))))⟩
theorem K_compare_Add : compF Try.prog 26 = some S_compare_Add := by kernel_rfl

-- 31
def S_forebaylaw33_own_L1 : SCode :=
  .seq (.seq (.reg (straight [⟨some 5, none, .pur .mov [.tmp 4]⟩, ⟨some 6, none, .pur .mov [.tmp 0]⟩, ⟨some 7, none, .pur (.len false) [.tmp 6]⟩, ⟨some 8, none, .pur (.bin .lss) [.tmp 5, .tmp 7]⟩]) [8])
  (.cond (.tmp 8) (.skip) (.exit 0)))
  (.seq (.block 1 (.reg (straight [⟨some 11, none, .pur .mov [.tmp 3]⟩, ⟨some 12, none, .eff (.bsl 139 2) []⟩, ⟨some 13, none, .pur .mov [.tmp 0]⟩, ⟨some 14, none, .pur .mov [.tmp 4]⟩, ⟨some 15, none, .pur (.ixa 1) [.tmp 13, .tmp 14]⟩, ⟨some 16, none, .ld none (.tmp 15)⟩, ⟨some 17, none, .eff (.app 139 2 16 [.int .i64 0, .bool false]) [.tmp 12, .tmp 16]⟩, ⟨some 18, none, .eff (.bsl 59 1) [.tmp 17]⟩, ⟨some 19, none, .eff (.app 59 1 24 [.slice none 0 0]) [.tmp 11, .tmp 18]⟩, ⟨some 3, none, .pur .mov [.tmp 19]⟩]) [3]))
  (.reg (straight [⟨some 9, none, .pur .mov [.tmp 4]⟩, ⟨some 10, none, .pur (.bin .add) [.tmp 9, .const (.int .i64 1)]⟩, ⟨some 4, none, .pur .mov [.tmp 10]⟩]) [4]))
def S_forebaylaw33_own : Fun := ⟨21, [2, 4, 0, 8, 3], [.tmp 2],
  .seq (.reg (straight [⟨some 2, none, .pur .mov [.const (.slice none 0 0)]⟩]) [2])
  (.seq (.reg (straight [⟨some 3, none, .pur .mov [.const (.slice none 0 0)]⟩]) [3])
  (.seq (.seq (.reg (straight [⟨some 4, none, .pur .mov [.const (.int .i64 0)]⟩]) [4])
  (.block 0 (.loop S_forebaylaw33_own_L1)))
  (.seq (.reg (straight [⟨some 20, none, .pur .mov [.tmp 3]⟩, ⟨some 2, none, .pur .mov [.tmp 20]⟩]) [2])
  (.ret))))⟩
theorem K_forebaylaw33_own : compF Try.prog 31 = some S_forebaylaw33_own := by kernel_rfl

-- 35
def S_grid_Node : Fun := ⟨12, [4, 0, 1], [.tmp 4],
  .seq (.reg (straight [⟨some 4, none, .pur .mov [.const (.complex .f64 0 0)]⟩]) [4])
  (.seq (.reg (straight [⟨some 5, none, .pur .mov [.tmp 0]⟩, ⟨some 6, none, .eff (.call 92) [.tmp 5]⟩, ⟨some 7, none, .pur (.intF .f64) [.tmp 6]⟩, ⟨some 8, none, .pur .mov [.tmp 1]⟩, ⟨some 9, none, .eff (.call 92) [.tmp 8]⟩, ⟨some 10, none, .pur (.intF .f64) [.tmp 9]⟩, ⟨some 11, none, .pur (.cpx .f64) [.tmp 7, .tmp 10]⟩, ⟨some 4, none, .pur .mov [.tmp 11]⟩]) [4])
  (.ret))⟩
theorem K_grid_Node : compF Try.prog 35 = some S_grid_Node := by kernel_rfl

-- 38
def S_forebayref33_Before_L1 : SCode :=
  .seq (.seq (.reg (straight [⟨some 13, none, .pur .mov [.tmp 7]⟩, ⟨some 14, none, .pur (.bin .geq) [.tmp 13, .const (.int .i64 0)]⟩]) [14])
  (.cond (.tmp 14) (.skip) (.exit 0)))
  (.seq (.block 1 (.seq (.reg (straight [⟨some 17, none, .pur .mov [.tmp 0]⟩, ⟨some 18, none, .pur .mov [.tmp 7]⟩, ⟨some 19, none, .pur (.ixa 4) [.tmp 17, .tmp 18]⟩, ⟨some 20, none, .ld (some 4) (.tmp 19)⟩, ⟨some 8, none, .eff (.new 56 [.int .i64 0, .int .i64 0, .int .i64 0, .int .i64 0]) []⟩, ⟨none, none, .eff (.st 4) [.tmp 8, .tmp 20]⟩]) [8])
  (.seq (.seq (.reg (straight [⟨some 21, none, .pur (.ixaA 4 1) [.tmp 8, .const (.int .i64 2)]⟩, ⟨some 22, none, .ld none (.tmp 21)⟩, ⟨some 23, none, .pur (.ixaA 2 1) [.tmp 5, .const (.int .i64 0)]⟩, ⟨some 24, none, .ld none (.tmp 23)⟩, ⟨some 25, none, .pur (.bin .neq) [.tmp 22, .tmp 24]⟩, ⟨some 26, none, .pur .mov [.tmp 25]⟩, ⟨some 27, some (26, false), .pur (.ixaA 4 1) [.tmp 8, .const (.int .i64 3)]⟩, ⟨some 28, some (26, false), .ld none (.tmp 27)⟩, ⟨some 29, some (26, false), .pur (.ixaA 2 1) [.tmp 5, .const (.int .i64 1)]⟩, ⟨some 30, some (26, false), .ld none (.tmp 29)⟩, ⟨some 31, some (26, false), .pur (.bin .neq) [.tmp 28, .tmp 30]⟩, ⟨some 32, none, .pur .pick [.tmp 26, .const (.bool true), .tmp 31]⟩]) [32])
  (.cond (.tmp 32) (.exit 1) (.skip)))
  (.seq (.reg (straight [⟨some 33, none, .pur (.ixaA 4 1) [.tmp 8, .const (.int .i64 0)]⟩, ⟨some 34, none, .ld none (.tmp 33)⟩, ⟨some 35, none, .pur (.ixaA 4 1) [.tmp 8, .const (.int .i64 1)]⟩, ⟨some 36, none, .ld none (.tmp 35)⟩, ⟨some 37, none, .pur (.bld [.int .i64 0, .int .i64 0] [(0, 1), (1, 1)]) [.tmp 34, .tmp 36]⟩, ⟨some 9, none, .eff (.new 57 [.int .i64 0, .int .i64 0]) []⟩, ⟨none, none, .eff (.st 2) [.tmp 9, .tmp 37]⟩]) [9])
  (.seq (.reg (.run ⟨some 38, none, .ld (some 2) (.tmp 9)⟩ (.run ⟨some 39, none, .ld (some 2) (.tmp 4)⟩ (.run ⟨some 40, none, .pur (.eqs false [.int .i64, .int .i64]) [.tmp 38, .tmp 39]⟩ (.run ⟨some 41, none, .pur .mov [.tmp 40]⟩ (.run ⟨some 42, some (41, false), .pur .mov [.tmp 0]⟩ (.run ⟨some 43, some (41, false), .pur .mov [.tmp 7]⟩ (.run ⟨some 44, some (41, false), .pur (.slc 4 false true) [.tmp 42, .tmp 43]⟩ (.run ⟨some 45, some (41, false), .ld (some 2) (.tmp 4)⟩ (.run ⟨some 46, some (41, false), .ld (some 2) (.tmp 9)⟩ (.eff ⟨some 47, some (41, false), .eff (.call 38) [.tmp 44, .tmp 45, .tmp 46]⟩ [] (.run ⟨some 48, none, .pur .pick [.tmp 41, .const (.bool true), .tmp 47]⟩ .done))))))))))) [48])
  (.cond (.tmp 48) (.seq (.reg (straight [⟨some 6, none, .pur .mov [.const (.bool true)]⟩]) [6])
  (.ret)) (.skip)))))))
  (.reg (straight [⟨some 15, none, .pur .mov [.tmp 7]⟩, ⟨some 16, none, .pur (.bin .sub) [.tmp 15, .const (.int .i64 1)]⟩, ⟨some 7, none, .pur .mov [.tmp 16]⟩]) [7]))
def S_forebayref33_Before : Fun := ⟨49, [6, 1, 2, 0, 7, 14, 8, 5, 32, 9, 4, 48], [.tmp 6],
  .seq (.reg (straight [⟨some 4, none, .eff (.box 57) [.tmp 1]⟩, ⟨some 5, none, .eff (.box 57) [.tmp 2]⟩, ⟨some 6, none, .pur .mov [.const (.bool false)]⟩]) [4, 5, 6])
  (.seq (.seq (.reg (straight [⟨some 10, none, .pur .mov [.tmp 0]⟩, ⟨some 11, none, .pur (.len false) [.tmp 10]⟩, ⟨some 12, none, .pur (.bin .sub) [.tmp 11, .const (.int .i64 1)]⟩, ⟨some 7, none, .pur .mov [.tmp 12]⟩]) [7])
  (.block 0 (.loop S_forebayref33_Before_L1)))
  (.seq (.reg (straight [⟨some 6, none, .pur .mov [.const (.bool false)]⟩]) [6])
  (.ret)))⟩
theorem K_forebayref33_Before : compF Try.prog 38 = some S_forebayref33_Before := by kernel_rfl

-- 40
def S_grid_Stage : Fun := ⟨6, [2, 0], [.tmp 2],
  .seq (.reg (straight [⟨some 2, none, .pur .mov [.const (.int .i64 0)]⟩]) [2])
  (.seq (.reg (straight [⟨some 3, none, .pur .mov [.tmp 0]⟩, ⟨some 4, none, .pur .im [.tmp 3]⟩, ⟨some 5, none, .eff (.call 93) [.tmp 4]⟩, ⟨some 2, none, .pur .mov [.tmp 5]⟩]) [2])
  (.ret))⟩
theorem K_grid_Stage : compF Try.prog 40 = some S_grid_Stage := by kernel_rfl

-- 44
def S_forebaylaw31_great_L1 : SCode :=
  .seq (.seq (.reg (straight [⟨some 4, none, .pur .mov [.tmp 3]⟩, ⟨some 5, none, .pur .mov [.tmp 0]⟩, ⟨some 6, none, .pur (.len false) [.tmp 5]⟩, ⟨some 7, none, .pur (.bin .lss) [.tmp 4, .tmp 6]⟩]) [7])
  (.cond (.tmp 7) (.skip) (.exit 0)))
  (.seq (.block 1 (.seq (.reg (straight [⟨some 10, none, .pur .mov [.tmp 3]⟩, ⟨some 11, none, .pur (.bin .geq) [.tmp 10, .const (.int .i64 1002)]⟩, ⟨some 12, none, .pur .mov [.tmp 11]⟩, ⟨some 13, some (12, false), .pur .mov [.tmp 0]⟩, ⟨some 14, some (12, false), .pur .mov [.tmp 3]⟩, ⟨some 15, some (12, false), .pur (.ixa 1) [.tmp 13, .tmp 14]⟩, ⟨some 16, some (12, false), .ld none (.tmp 15)⟩, ⟨some 17, some (12, false), .pur (.len false) [.tmp 16]⟩, ⟨some 18, some (12, false), .pur (.bin .gtr) [.tmp 17, .const (.int .i64 60)]⟩, ⟨some 19, none, .pur .pick [.tmp 12, .const (.bool true), .tmp 18]⟩]) [19])
  (.cond (.tmp 19) (.seq (.reg (straight [⟨some 2, none, .pur .mov [.const (.bool true)]⟩]) [2])
  (.ret)) (.skip))))
  (.reg (straight [⟨some 8, none, .pur .mov [.tmp 3]⟩, ⟨some 9, none, .pur (.bin .add) [.tmp 8, .const (.int .i64 1)]⟩, ⟨some 3, none, .pur .mov [.tmp 9]⟩]) [3]))
def S_forebaylaw31_great : Fun := ⟨20, [2, 3, 0, 7, 19], [.tmp 2],
  .seq (.reg (straight [⟨some 2, none, .pur .mov [.const (.bool false)]⟩]) [2])
  (.seq (.seq (.reg (straight [⟨some 3, none, .pur .mov [.const (.int .i64 0)]⟩]) [3])
  (.block 0 (.loop S_forebaylaw31_great_L1)))
  (.seq (.reg (straight [⟨some 2, none, .pur .mov [.const (.bool false)]⟩]) [2])
  (.ret)))⟩
theorem K_forebaylaw31_great : compF Try.prog 44 = some S_forebaylaw31_great := by kernel_rfl

-- 50
def S_reach_Reach_Len : Fun := ⟨10, [2, 0, 4], [.tmp 2],
  .seq (.reg (straight [⟨some 2, none, .pur .mov [.const (.int .i64 0)]⟩]) [2])
  (.seq (.seq (.reg (straight [⟨some 3, none, .pur .mov [.tmp 0]⟩, ⟨some 4, none, .pur (.eqn false 0) [.tmp 3]⟩]) [4])
  (.cond (.tmp 4) (.seq (.reg (straight [⟨some 2, none, .pur .mov [.const (.int .i64 0)]⟩]) [2])
  (.ret)) (.skip)))
  (.seq (.reg (straight [⟨some 5, none, .pur .mov [.tmp 0]⟩, ⟨some 6, none, .pur .nilc [.tmp 5]⟩, ⟨some 7, none, .pur (.fla 0) [.tmp 6]⟩, ⟨some 8, none, .ld none (.tmp 7)⟩, ⟨some 9, none, .pur (.len false) [.tmp 8]⟩, ⟨some 2, none, .pur .mov [.tmp 9]⟩]) [2])
  (.ret)))⟩
theorem K_reach_Reach_Len : compF Try.prog 50 = some S_reach_Reach_Len := by kernel_rfl

-- 61
def S_span_Widest_L1 : SCode :=
  .seq (.reg (straight [⟨some 21, none, .pur (.bin .lss) [.tmp 20, .tmp 19]⟩]) [21])
  (.seq (.cond (.tmp 21) (.skip) (.exit 0))
  (.seq (.block 1 (.seq (.reg (straight [⟨some 22, none, .pur (.ixa 1) [.tmp 18, .tmp 20]⟩, ⟨some 23, none, .ld none (.tmp 22)⟩, ⟨some 9, none, .pur .mov [.tmp 23]⟩]) [9])
  (.seq (.reg (straight [⟨some 24, none, .pur .mov [.tmp 6]⟩, ⟨some 25, none, .pur .mov [.tmp 9]⟩, ⟨some 26, none, .pur (.ixa 1) [.tmp 24, .tmp 25]⟩, ⟨some 27, none, .ld none (.tmp 26)⟩, ⟨some 28, none, .pur (.bin .add) [.tmp 27, .const (.int .i64 1)]⟩, ⟨some 29, none, .pur (.ixa 1) [.tmp 24, .tmp 25]⟩, ⟨none, none, .eff (.st 1) [.tmp 29, .tmp 28]⟩]) [])
  (.reg (straight [⟨some 30, none, .pur .mov [.tmp 7]⟩, ⟨some 31, none, .pur .mov [.tmp 6]⟩, ⟨some 32, none, .pur .mov [.tmp 9]⟩, ⟨some 33, none, .pur (.ixa 1) [.tmp 31, .tmp 32]⟩, ⟨some 34, none, .ld none (.tmp 33)⟩, ⟨some 35, none, .pur (.minmax true) [.tmp 30, .tmp 34]⟩, ⟨some 7, none, .pur .mov [.tmp 35]⟩]) [7]))))
  (.reg (straight [⟨some 36, none, .pur (.bin .add) [.tmp 20, .const (.int .i64 1)]⟩, ⟨some 20, none, .pur .mov [.tmp 36]⟩]) [20])))
def S_span_Widest : Fun := ⟨39, [2, 3, 0, 4, 20, 19, 21, 18, 6, 9, 7, 5], [.tmp 2, .tmp 3],
  .seq (.reg (straight [⟨some 2, none, .pur .mov [.const (.int .i64 0)]⟩, ⟨some 3, none, .pur .mov [.const (.int .i64 0)]⟩]) [2, 3])
  (.seq (.reg (straight [⟨some 11, none, .pur .mov [.tmp 0]⟩, ⟨some 12, none, .eff (.call 59) [.tmp 11]⟩, ⟨some 10, none, .pur .mov [.tmp 12]⟩, ⟨some 13, none, .pur (.ext 0) [.tmp 10]⟩, ⟨some 14, none, .pur (.ext 1) [.tmp 10]⟩, ⟨some 4, none, .pur .mov [.tmp 13]⟩, ⟨some 5, none, .pur .mov [.tmp 14]⟩]) [4, 5])
  (.seq (.reg (straight [⟨some 15, none, .pur .mov [.tmp 4]⟩, ⟨some 16, none, .pur (.len false) [.tmp 15]⟩, ⟨some 17, none, .eff (.mks 3 1 8 [.int .i64 0]) [.tmp 16, .tmp 16]⟩, ⟨some 6, none, .pur .mov [.tmp 17]⟩]) [6])
  (.seq (.reg (straight [⟨some 7, none, .pur .mov [.const (.int .i64 0)]⟩]) [7])
  (.seq (.seq (.reg (straight [⟨some 18, none, .pur .mov [.tmp 4]⟩, ⟨some 19, none, .pur (.len false) [.tmp 18]⟩, ⟨some 20, none, .pur .mov [.const (.int .i64 0)]⟩]) [18, 19, 20])
  (.block 0 (.loop S_span_Widest_L1)))
  (.seq (.reg (straight [⟨some 37, none, .pur .mov [.tmp 7]⟩, ⟨some 38, none, .pur .mov [.tmp 5]⟩, ⟨some 2, none, .pur .mov [.tmp 37]⟩, ⟨some 3, none, .pur .mov [.tmp 38]⟩]) [2, 3])
  (.ret))))))⟩
theorem K_span_Widest : compF Try.prog 61 = some S_span_Widest := by kernel_rfl

-- 62
def S_span_Plan_L1 : SCode :=
  .seq (.seq (.reg (straight [⟨some 26, none, .pur .mov [.tmp 10]⟩, ⟨some 27, none, .pur .mov [.tmp 0]⟩, ⟨some 28, none, .pur (.len false) [.tmp 27]⟩, ⟨some 29, none, .pur (.bin .lss) [.tmp 26, .tmp 28]⟩]) [29])
  (.cond (.tmp 29) (.skip) (.exit 0)))
  (.block 1 (.seq (.reg (straight [⟨some 30, none, .pur .mov [.tmp 7]⟩, ⟨some 31, none, .pur .mov [.tmp 9]⟩, ⟨some 32, none, .pur (.len false) [.tmp 31]⟩, ⟨some 33, none, .pur .mov [.tmp 8]⟩, ⟨some 34, none, .eff (.call 99) [.tmp 30, .tmp 32, .tmp 33]⟩, ⟨some 11, none, .pur .mov [.tmp 34]⟩]) [11])
  (.seq (.reg (straight [⟨some 35, none, .pur .mov [.tmp 10]⟩, ⟨some 36, none, .pur .mov [.tmp 11]⟩, ⟨some 37, none, .pur (.len false) [.tmp 36]⟩, ⟨some 38, none, .pur (.bin .add) [.tmp 35, .tmp 37]⟩, ⟨some 10, none, .pur .mov [.tmp 38]⟩]) [10])
  (.reg (straight [⟨some 39, none, .pur .mov [.tmp 9]⟩, ⟨some 40, none, .pur .mov [.tmp 11]⟩, ⟨some 41, none, .eff (.bsl 29 1) [.tmp 40]⟩, ⟨some 42, none, .eff (.app 29 1 24 [.slice none 0 0]) [.tmp 39, .tmp 41]⟩, ⟨some 9, none, .pur .mov [.tmp 42]⟩]) [9]))))
def S_span_Plan : Fun := ⟨44, [4, 5, 0, 6, 15, 1, 10, 29, 7, 9, 8, 11], [.tmp 4, .tmp 5],
  .seq (.reg (straight [⟨some 4, none, .pur .mov [.const (.slice none 0 0)]⟩, ⟨some 5, none, .pur .mov [.const (.int .i64 0)]⟩]) [4, 5])
  (.seq (.seq (.reg (straight [⟨some 12, none, .pur .mov [.tmp 0]⟩, ⟨some 13, none, .eff (.call 98) [.tmp 12]⟩, ⟨some 6, none, .pur .mov [.tmp 13]⟩]) [6])
  (.seq (.reg (straight [⟨some 14, none, .pur .mov [.tmp 6]⟩, ⟨some 15, none, .pur (.bin .neq) [.tmp 14, .const (.int .i64 0)]⟩]) [15])
  (.cond (.tmp 15) (.seq (.reg (straight [⟨some 16, none, .pur .mov [.tmp 6]⟩, ⟨some 4, none, .pur .mov [.const (.slice none 0 0)]⟩, ⟨some 5, none, .pur .mov [.tmp 16]⟩]) [4, 5])
  (.ret)) (.skip))))
  (.seq (.reg (straight [⟨some 17, none, .pur .mov [.tmp 0]⟩, ⟨some 18, none, .pur .mov [.tmp 0]⟩, ⟨some 19, none, .pur (.len false) [.tmp 18]⟩, ⟨some 20, none, .eff (.mks 3 1 8 [.int .i64 0]) [.tmp 19, .tmp 19]⟩, ⟨some 21, none, .pur (.bld [.slice none 0 0, .slice none 0 0] [(0, 1), (1, 1)]) [.tmp 17, .tmp 20]⟩, ⟨some 22, none, .eff (.box 155) [.tmp 21]⟩, ⟨some 7, none, .pur .mov [.tmp 22]⟩]) [7])
  (.seq (.reg (straight [⟨some 23, none, .pur .mov [.tmp 1]⟩, ⟨some 24, none, .pur (.minmax true) [.tmp 23, .const (.int .i64 1)]⟩, ⟨some 25, none, .pur (.minmax false) [.tmp 24, .const (.int .i64 64)]⟩, ⟨some 8, none, .pur .mov [.tmp 25]⟩]) [8])
  (.seq (.reg (straight [⟨some 9, none, .pur .mov [.const (.slice none 0 0)]⟩]) [9])
  (.seq (.seq (.reg (straight [⟨some 10, none, .pur .mov [.const (.int .i64 0)]⟩]) [10])
  (.block 0 (.loop S_span_Plan_L1)))
  (.seq (.reg (straight [⟨some 43, none, .pur .mov [.tmp 9]⟩, ⟨some 4, none, .pur .mov [.tmp 43]⟩, ⟨some 5, none, .pur .mov [.const (.int .i64 0)]⟩]) [4, 5])
  (.ret)))))))⟩
theorem K_span_Plan : compF Try.prog 62 = some S_span_Plan := by kernel_rfl

-- 73
def S_strand_Build_L1 : SCode :=
  .seq (.reg (straight [⟨some 27, none, .pur (.bin .lss) [.tmp 26, .tmp 25]⟩]) [27])
  (.seq (.cond (.tmp 27) (.skip) (.exit 0))
  (.seq (.block 1 (.seq (.reg (straight [⟨some 28, none, .pur (.ixa 3) [.tmp 24, .tmp 26]⟩, ⟨some 29, none, .ld (some 3) (.tmp 28)⟩, ⟨some 6, none, .eff (.new 158 [.int .i64 0, .int .i64 0, .int .i64 0]) []⟩, ⟨none, none, .eff (.st 3) [.tmp 6, .tmp 29]⟩]) [6])
  (.seq (.seq (.reg (straight [⟨some 30, none, .pur (.fla 0) [.tmp 6]⟩, ⟨some 31, none, .ld none (.tmp 30)⟩, ⟨some 32, none, .pur (.bin .lss) [.tmp 31, .const (.int .i64 1)]⟩, ⟨some 33, none, .pur .mov [.tmp 32]⟩, ⟨some 34, some (33, false), .pur (.fla 0) [.tmp 6]⟩, ⟨some 35, some (33, false), .ld none (.tmp 34)⟩, ⟨some 36, some (33, false), .pur (.bin .gtr) [.tmp 35, .const (.int .i64 12)]⟩, ⟨some 37, none, .pur .pick [.tmp 33, .const (.bool true), .tmp 36]⟩]) [37])
  (.cond (.tmp 37) (.seq (.reg (straight [⟨some 38, none, .pur (.bld [.slice none 0 0, .slice none 0 0, .slice none 0 0] []) []⟩, ⟨none, none, .eff (.st 3) [.tmp 2, .tmp 38]⟩, ⟨some 3, none, .pur .mov [.const (.int .i64 5)]⟩]) [3])
  (.ret)) (.skip)))
  (.seq (.reg (straight [⟨some 39, none, .pur .mov [.tmp 4]⟩, ⟨some 40, none, .eff (.call 103) [.tmp 39]⟩, ⟨some 7, none, .pur .mov [.tmp 40]⟩]) [7])
  (.seq (.seq (.reg (straight [⟨some 41, none, .pur .mov [.tmp 7]⟩, ⟨some 42, none, .ld (some 3) (.tmp 6)⟩, ⟨some 43, none, .eff (.call 104) [.tmp 41, .tmp 42]⟩, ⟨some 44, none, .pur .not [.tmp 43]⟩]) [44])
  (.cond (.tmp 44) (.seq (.reg (straight [⟨some 45, none, .pur (.bld [.slice none 0 0, .slice none 0 0, .slice none 0 0] []) []⟩, ⟨none, none, .eff (.st 3) [.tmp 2, .tmp 45]⟩, ⟨some 3, none, .pur .mov [.const (.int .i64 4)]⟩]) [3])
  (.ret)) (.skip)))
  (.seq (.reg (straight [⟨some 46, none, .pur .mov [.tmp 4]⟩, ⟨some 47, none, .pur .mov [.tmp 7]⟩, ⟨some 48, none, .ld (some 3) (.tmp 6)⟩, ⟨some 49, none, .eff (.call 105) [.tmp 46, .tmp 47, .tmp 48]⟩]) [])
  (.seq (.reg (straight [⟨some 50, none, .pur .mov [.tmp 4]⟩, ⟨some 51, none, .pur .nilc [.tmp 50]⟩, ⟨some 52, none, .pur (.fla 4) [.tmp 51]⟩, ⟨some 53, none, .ld none (.tmp 52)⟩]) [53])
  (.cond (.tmp 53) (.seq (.reg (straight [⟨some 54, none, .pur (.bld [.slice none 0 0, .slice none 0 0, .slice none 0 0] []) []⟩, ⟨none, none, .eff (.st 3) [.tmp 2, .tmp 54]⟩, ⟨some 3, none, .pur .mov [.const (.int .i64 9)]⟩]) [3])
  (.ret)) (.skip)))))))))
  (.reg (straight [⟨some 55, none, .pur (.bin .add) [.tmp 26, .const (.int .i64 1)]⟩, ⟨some 26, none, .pur .mov [.tmp 55]⟩]) [26])))
def S_strand_Build : Fun := ⟨60, [2, 3, 4, 0, 26, 25, 27, 24, 6, 37, 7, 44, 53], [.cell 2 (some 3), .tmp 3],
  .seq (.reg (straight [⟨some 2, none, .eff (.new 98 [.slice none 0 0, .slice none 0 0, .slice none 0 0]) []⟩, ⟨some 3, none, .pur .mov [.const (.int .i64 0)]⟩]) [2, 3])
  (.seq (.reg (straight [⟨some 8, none, .pur (.bld [.slice none 0 0, .slice none 0 0, .slice none 0 0, .slice none 0 0, .bool false] []) []⟩, ⟨some 9, none, .eff (.box 162) [.tmp 8]⟩, ⟨some 4, none, .pur .mov [.tmp 9]⟩]) [4])
  (.seq (.reg (.run ⟨some 10, none, .pur .mov [.tmp 4]⟩ (.run ⟨some 11, none, .pur .mov [.tmp 4]⟩ (.run ⟨some 12, none, .pur .nilc [.tmp 11]⟩ (.run ⟨some 13, none, .pur (.fla 3) [.tmp 12]⟩ (.run ⟨some 14, none, .ld none (.tmp 13)⟩ (.run ⟨some 15, none, .pur .mov [.tmp 4]⟩ (.run ⟨some 16, none, .pur (.bld [.int .i64 0, .int .i64 0, .int .i64 0] []) []⟩ (.eff ⟨some 17, none, .eff (.call 102) [.tmp 15, .tmp 16, .const (.slice none 0 0)]⟩ [⟨some 14, none, .ld none (.tmp 13)⟩] (.run ⟨some 18, none, .pur (.bld [.int .i64 0, .bool false, .int .i64 0, .slice none 0 0, .int .i64 0, .int .i64 0, .int .i64 0, .slice none 0 0, .int .i64 0, .int .i64 0, .slice none 0 0, .slice none 0 0] [(0, 1), (2, 1)]) [.const (.int .i64 1), .tmp 17]⟩ (.eff ⟨some 19, none, .eff (.box 169) [.tmp 18]⟩ [⟨some 14, none, .ld none (.tmp 13)⟩] (.eff ⟨some 20, none, .eff (.bsl 163 1) [.tmp 19]⟩ [⟨some 14, none, .ld none (.tmp 13)⟩] (.eff ⟨some 21, none, .eff (.app 163 1 8 [.pointer none]) [.tmp 14, .tmp 20]⟩ [] (.run ⟨some 22, none, .pur .nilc [.tmp 10]⟩ (.run ⟨some 23, none, .pur (.fla 3) [.tmp 22]⟩ (.eff ⟨none, none, .eff (.st 1) [.tmp 23, .tmp 21]⟩ [] .done))))))))))))))) [])
  (.seq (.seq (.reg (straight [⟨some 24, none, .pur .mov [.tmp 0]⟩, ⟨some 25, none, .pur (.len false) [.tmp 24]⟩, ⟨some 26, none, .pur .mov [.const (.int .i64 0)]⟩]) [24, 25, 26])
  (.block 0 (.loop S_strand_Build_L1)))
  (.seq (.reg (straight [⟨some 56, none, .pur .mov [.tmp 4]⟩, ⟨some 57, none, .pur .nilc [.tmp 56]⟩, ⟨some 58, none, .pur (.fla 0) [.tmp 57]⟩, ⟨some 59, none, .ld (some 3) (.tmp 58)⟩, ⟨none, none, .eff (.st 3) [.tmp 2, .tmp 59]⟩, ⟨some 3, none, .pur .mov [.const (.int .i64 0)]⟩]) [3])
  (.ret)))))⟩
theorem K_strand_Build : compF Try.prog 73 = some S_strand_Build := by kernel_rfl

-- 75
def S_forebayref30_Build : Fun := ⟨26, [2, 3, 0, 4, 18], [.tmp 2, .tmp 3],
  .seq (.reg (straight [⟨some 2, none, .pur .mov [.const (.pointer none)]⟩, ⟨some 3, none, .pur .mov [.const (.int .i64 0)]⟩]) [2, 3])
  (.seq (.reg (straight [⟨some 5, none, .pur .mov [.tmp 0]⟩, ⟨some 6, none, .pur (.bld [.slice none 0 0, .int .i64 0, .slice none 0 0, .slice none 0 0, .slice none 0 0, .bool false, .int .i64 0] [(0, 1)]) [.tmp 5]⟩, ⟨some 7, none, .eff (.box 175) [.tmp 6]⟩, ⟨some 4, none, .pur .mov [.tmp 7]⟩]) [4])
  (.seq (.reg (straight [⟨some 8, none, .pur .mov [.tmp 4]⟩, ⟨some 9, none, .pur (.bld [.int .i64 0, .int .i64 0, .int .i64 0] []) []⟩, ⟨some 10, none, .pur .mov [.tmp 4]⟩, ⟨some 11, none, .pur (.bld [.int .i64 0, .int .i64 0, .int .i64 0] []) []⟩, ⟨some 12, none, .eff (.call 107) [.tmp 10, .tmp 11, .const (.slice none 0 0)]⟩, ⟨some 13, none, .eff (.call 106) [.tmp 8, .const (.int .i64 0), .tmp 9, .tmp 12, .const (.slice none 0 0)]⟩]) [])
  (.seq (.seq (.reg (straight [⟨some 14, none, .pur .mov [.tmp 4]⟩, ⟨some 15, none, .pur .nilc [.tmp 14]⟩, ⟨some 16, none, .pur (.fla 6) [.tmp 15]⟩, ⟨some 17, none, .ld none (.tmp 16)⟩, ⟨some 18, none, .pur (.bin .neq) [.tmp 17, .const (.int .i64 0)]⟩]) [18])
  (.cond (.tmp 18) (.seq (.reg (.run ⟨some 19, none, .pur (.bld [.slice none 0 0, .int .i64 0, .slice none 0 0, .slice none 0 0, .slice none 0 0, .bool false, .int .i64 0] []) []⟩ (.run ⟨some 21, none, .pur .mov [.tmp 4]⟩ (.run ⟨some 22, none, .pur .nilc [.tmp 21]⟩ (.run ⟨some 23, none, .pur (.fla 6) [.tmp 22]⟩ (.run ⟨some 24, none, .ld none (.tmp 23)⟩ (.eff ⟨some 20, none, .eff (.box 175) [.tmp 19]⟩ [⟨some 24, none, .ld none (.tmp 23)⟩] (.run ⟨some 2, none, .pur .mov [.tmp 20]⟩ (.run ⟨some 3, none, .pur .mov [.tmp 24]⟩ .done)))))))) [2, 3])
  (.ret)) (.skip)))
  (.seq (.reg (straight [⟨some 25, none, .pur .mov [.tmp 4]⟩, ⟨some 2, none, .pur .mov [.tmp 25]⟩, ⟨some 3, none, .pur .mov [.const (.int .i64 0)]⟩]) [2, 3])
  (.ret)))))⟩
theorem K_forebayref30_Build : compF Try.prog 75 = some S_forebayref30_Build := by kernel_rfl

-- 83
def S_forebaylaw24_of_1 : Fun := ⟨20, [7, 1, 2, 6, 3, 0, 4], [.tmp 7],
  .seq (.reg (straight [⟨some 6, none, .eff (.box 28) [.tmp 1]⟩, ⟨some 7, none, .pur .mov [.const (.bool false)]⟩]) [6, 7])
  (.seq (.reg (straight [⟨some 8, none, .ld none (.tmp 2)⟩, ⟨some 9, none, .ld (some 4) (.tmp 6)⟩, ⟨some 10, none, .eff (.bsl 28 4) [.tmp 9]⟩, ⟨some 11, none, .eff (.app 28 4 32 [.int .i64 0, .int .i64 0, .int .i64 0, .int .i64 0]) [.tmp 8, .tmp 10]⟩, ⟨none, none, .eff (.st 1) [.tmp 2, .tmp 11]⟩]) [])
  (.seq (.reg (straight [⟨some 12, none, .ld none (.tmp 3)⟩, ⟨some 13, none, .pur .mov [.tmp 0]⟩, ⟨some 14, none, .eff (.bsl 3 1) [.tmp 13]⟩, ⟨some 15, none, .eff (.app 3 1 8 [.int .i64 0]) [.tmp 12, .tmp 14]⟩, ⟨none, none, .eff (.st 1) [.tmp 3, .tmp 15]⟩]) [])
  (.seq (.reg (straight [⟨some 16, none, .ld none (.tmp 2)⟩, ⟨some 17, none, .pur (.len false) [.tmp 16]⟩, ⟨some 18, none, .ld none (.tmp 4)⟩, ⟨some 19, none, .pur (.bin .lss) [.tmp 17, .tmp 18]⟩, ⟨some 7, none, .pur .mov [.tmp 19]⟩]) [7])
  (.ret))))⟩
theorem K_forebaylaw24_of_1 : compF Try.prog 83 = some S_forebaylaw24_of_1 := by kernel_rfl

-- 87
def S_compare_Add_1 : Fun := ⟨7, [3, 0, 2, 1], [.tmp 3],
  .seq (.reg (straight [⟨some 2, none, .eff (.box 129) [.tmp 0]⟩, ⟨some 3, none, .pur .mov [.const (.bool false)]⟩]) [2, 3])
  (.seq (.reg (straight [⟨some 4, none, .ld (some 11) (.tmp 2)⟩, ⟨some 5, none, .ld (some 11) (.tmp 1)⟩, ⟨some 6, none, .eff (.call 88) [.tmp 4, .tmp 5]⟩, ⟨some 3, none, .pur .mov [.tmp 6]⟩]) [3])
  (.ret))⟩
theorem K_compare_Add_1 : compF Try.prog 87 = some S_compare_Add_1 := by kernel_rfl

-- 105
def S_strand_builder_mark : Fun := ⟨148, [2, 5, 9, 14, 0, 1, 35, 6, 68, 93, 112, 117, 124, 129, 7], [],
  .seq (.reg (straight [⟨some 5, none, .eff (.box 158) [.tmp 2]⟩]) [5])
  (.seq (.reg (straight [⟨some 8, none, .pur (.fla 0) [.tmp 5]⟩, ⟨some 9, none, .ld none (.tmp 8)⟩]) [9])
  (.block 0 (.seq (.reg (straight [⟨some 15, none, .pur (.bin .eql) [.tmp 9, .const (.int .i64 4)]⟩, ⟨some 14, none, .pur .mov [.tmp 15]⟩]) [14])
  (.cond (.tmp 14) (.reg (.run ⟨some 16, none, .pur .mov [.tmp 0]⟩ (.run ⟨some 17, none, .pur .mov [.tmp 0]⟩ (.run ⟨some 18, none, .pur .nilc [.tmp 17]⟩ (.run ⟨some 19, none, .pur (.fla 3) [.tmp 18]⟩ (.run ⟨some 20, none, .ld none (.tmp 19)⟩ (.run ⟨some 21, none, .pur .mov [.tmp 0]⟩ (.run ⟨some 22, none, .pur (.bld [.int .i64 0, .int .i64 0, .int .i64 0] []) []⟩ (.run ⟨some 23, none, .pur .mov [.tmp 1]⟩ (.run ⟨some 24, none, .pur .nilc [.tmp 23]⟩ (.run ⟨some 25, none, .pur (.fla 2) [.tmp 24]⟩ (.run ⟨some 26, none, .ld none (.tmp 25)⟩ (.eff ⟨some 27, none, .eff (.bsl 3 1) [.tmp 26]⟩ [⟨some 20, none, .ld none (.tmp 19)⟩] (.eff ⟨some 28, none, .eff (.call 102) [.tmp 21, .tmp 22, .tmp 27]⟩ [⟨some 20, none, .ld none (.tmp 19)⟩] (.run ⟨some 29, none, .pur (.bld [.int .i64 0, .bool false, .int .i64 0, .slice none 0 0, .int .i64 0, .int .i64 0, .int .i64 0, .slice none 0 0, .int .i64 0, .int .i64 0, .slice none 0 0, .slice none 0 0] [(0, 1), (1, 1), (2, 1)]) [.const (.int .i64 1), .const (.bool true), .tmp 28]⟩ (.eff ⟨some 30, none, .eff (.box 169) [.tmp 29]⟩ [⟨some 20, none, .ld none (.tmp 19)⟩] (.eff ⟨some 31, none, .eff (.bsl 163 1) [.tmp 30]⟩ [⟨some 20, none, .ld none (.tmp 19)⟩] (.eff ⟨some 32, none, .eff (.app 163 1 8 [.pointer none]) [.tmp 20, .tmp 31]⟩ [] (.run ⟨some 33, none, .pur .nilc [.tmp 16]⟩ (.run ⟨some 34, none, .pur (.fla 3) [.tmp 33]⟩ (.eff ⟨none, none, .eff (.st 1) [.tmp 34, .tmp 32]⟩ [] .done)))))))))))))))))))) []) (.seq (.reg (straight [⟨some 36, none, .pur (.bin .eql) [.tmp 9, .const (.int .i64 5)]⟩, ⟨some 35, none, .pur .mov [.tmp 36]⟩]) [35])
  (.cond (.tmp 35) (.seq (.reg (straight [⟨some 37, none, .pur .mov [.tmp 0]⟩, ⟨some 38, none, .eff (.call 115) [.tmp 37]⟩]) [])
  (.seq (.reg (straight [⟨some 39, none, .pur .mov [.tmp 0]⟩, ⟨some 40, none, .eff (.call 103) [.tmp 39]⟩, ⟨some 6, none, .pur .mov [.tmp 40]⟩]) [6])
  (.seq (.reg (.run ⟨some 41, none, .pur .mov [.tmp 6]⟩ (.run ⟨some 42, none, .pur .mov [.tmp 6]⟩ (.run ⟨some 43, none, .pur .nilc [.tmp 42]⟩ (.run ⟨some 44, none, .pur (.fla 3) [.tmp 43]⟩ (.run ⟨some 45, none, .ld none (.tmp 44)⟩ (.run ⟨some 46, none, .pur .mov [.tmp 1]⟩ (.run ⟨some 47, none, .pur .nilc [.tmp 46]⟩ (.run ⟨some 48, none, .pur (.fla 2) [.tmp 47]⟩ (.run ⟨some 49, none, .ld none (.tmp 48)⟩ (.eff ⟨some 50, none, .eff (.bsl 3 1) [.tmp 49]⟩ [⟨some 45, none, .ld none (.tmp 44)⟩] (.eff ⟨some 51, none, .eff (.app 3 1 8 [.int .i64 0]) [.tmp 45, .tmp 50]⟩ [] (.run ⟨some 52, none, .pur .nilc [.tmp 41]⟩ (.run ⟨some 53, none, .pur (.fla 3) [.tmp 52]⟩ (.eff ⟨none, none, .eff (.st 1) [.tmp 53, .tmp 51]⟩ [] .done)))))))))))))) [])
  (.reg (.run ⟨some 54, none, .pur .mov [.tmp 6]⟩ (.run ⟨some 55, none, .pur .mov [.tmp 0]⟩ (.run ⟨some 56, none, .pur .mov [.tmp 6]⟩ (.run ⟨some 57, none, .pur .nilc [.tmp 56]⟩ (.run ⟨some 58, none, .pur (.fla 4) [.tmp 57]⟩ (.run ⟨some 59, none, .ld (some 3) (.tmp 58)⟩ (.run ⟨some 60, none, .pur .mov [.tmp 6]⟩ (.run ⟨some 61, none, .pur .nilc [.tmp 60]⟩ (.run ⟨some 62, none, .pur (.fla 2) [.tmp 61]⟩ (.run ⟨some 63, none, .ld none (.tmp 62)⟩ (.eff ⟨some 64, none, .eff (.bsl 3 1) [.tmp 63]⟩ [⟨some 59, none, .ld (some 3) (.tmp 58)⟩] (.eff ⟨some 65, none, .eff (.call 102) [.tmp 55, .tmp 59, .tmp 64]⟩ [] (.run ⟨some 66, none, .pur .nilc [.tmp 54]⟩ (.run ⟨some 67, none, .pur (.fla 2) [.tmp 66]⟩ (.eff ⟨none, none, .eff (.st 1) [.tmp 67, .tmp 65]⟩ [] .done))))))))))))))) [])))) (.seq (.reg (straight [⟨some 69, none, .pur (.bin .eql) [.tmp 9, .const (.int .i64 6)]⟩, ⟨some 68, none, .pur .mov [.tmp 69]⟩]) [68])
  (.cond (.tmp 68) (.seq (.reg (.run ⟨some 70, none, .pur .mov [.tmp 1]⟩ (.run ⟨some 71, none, .pur .mov [.tmp 0]⟩ (.run ⟨some 72, none, .pur .mov [.tmp 1]⟩ (.run ⟨some 73, none, .pur .nilc [.tmp 72]⟩ (.run ⟨some 74, none, .pur (.fla 4) [.tmp 73]⟩ (.run ⟨some 75, none, .ld (some 3) (.tmp 74)⟩ (.run ⟨some 76, none, .pur .mov [.tmp 1]⟩ (.run ⟨some 77, none, .pur .nilc [.tmp 76]⟩ (.run ⟨some 78, none, .pur (.fla 2) [.tmp 77]⟩ (.run ⟨some 79, none, .ld none (.tmp 78)⟩ (.run ⟨some 81, none, .pur .mov [.tmp 1]⟩ (.run ⟨some 82, none, .pur .nilc [.tmp 81]⟩ (.run ⟨some 83, none, .pur (.fla 3) [.tmp 82]⟩ (.run ⟨some 84, none, .ld none (.tmp 83)⟩ (.eff ⟨some 80, none, .eff (.bsl 3 1) [.tmp 79]⟩ [⟨some 84, none, .ld none (.tmp 83)⟩, ⟨some 75, none, .ld (some 3) (.tmp 74)⟩] (.eff ⟨some 85, none, .eff (.bsl 29 1) [.tmp 80, .tmp 84]⟩ [⟨some 75, none, .ld (some 3) (.tmp 74)⟩] (.eff ⟨some 86, none, .eff (.call 116) [.tmp 85]⟩ [⟨some 75, none, .ld (some 3) (.tmp 74)⟩] (.eff ⟨some 87, none, .eff (.call 102) [.tmp 71, .tmp 75, .tmp 86]⟩ [] (.run ⟨some 88, none, .pur .nilc [.tmp 70]⟩ (.run ⟨some 89, none, .pur (.fla 2) [.tmp 88]⟩ (.eff ⟨none, none, .eff (.st 1) [.tmp 89, .tmp 87]⟩ [] .done))))))))))))))))))))) [])
  (.reg (straight [⟨some 90, none, .pur .mov [.tmp 1]⟩, ⟨some 91, none, .pur .nilc [.tmp 90]⟩, ⟨some 92, none, .pur (.fla 3) [.tmp 91]⟩, ⟨none, none, .eff (.st 1) [.tmp 92, .const (.slice none 0 0)]⟩]) [])) (.seq (.reg (straight [⟨some 94, none, .pur (.bin .eql) [.tmp 9, .const (.int .i64 7)]⟩, ⟨some 93, none, .pur .mov [.tmp 94]⟩]) [93])
  (.cond (.tmp 93) (.reg (.run ⟨some 95, none, .pur .mov [.tmp 0]⟩ (.run ⟨some 96, none, .pur .mov [.tmp 0]⟩ (.run ⟨some 97, none, .pur .nilc [.tmp 96]⟩ (.run ⟨some 98, none, .pur (.fla 3) [.tmp 97]⟩ (.run ⟨some 99, none, .ld none (.tmp 98)⟩ (.run ⟨some 100, none, .pur (.fla 1) [.tmp 5]⟩ (.run ⟨some 101, none, .ld none (.tmp 100)⟩ (.run ⟨some 102, none, .pur .mov [.tmp 1]⟩ (.run ⟨some 103, none, .pur .nilc [.tmp 102]⟩ (.run ⟨some 104, none, .pur (.fla 2) [.tmp 103]⟩ (.run ⟨some 105, none, .ld none (.tmp 104)⟩ (.run ⟨some 106, none, .pur (.bld [.int .i64 0, .bool false, .int .i64 0, .slice none 0 0, .int .i64 0, .int .i64 0, .int .i64 0, .slice none 0 0, .int .i64 0, .int .i64 0, .slice none 0 0, .slice none 0 0] [(0, 1), (8, 1), (2, 1)]) [.const (.int .i64 3), .tmp 101, .tmp 105]⟩ (.eff ⟨some 107, none, .eff (.box 169) [.tmp 106]⟩ [⟨some 99, none, .ld none (.tmp 98)⟩] (.eff ⟨some 108, none, .eff (.bsl 163 1) [.tmp 107]⟩ [⟨some 99, none, .ld none (.tmp 98)⟩] (.eff ⟨some 109, none, .eff (.app 163 1 8 [.pointer none]) [.tmp 99, .tmp 108]⟩ [] (.run ⟨some 110, none, .pur .nilc [.tmp 95]⟩ (.run ⟨some 111, none, .pur (.fla 3) [.tmp 110]⟩ (.eff ⟨none, none, .eff (.st 1) [.tmp 111, .tmp 109]⟩ [] .done)))))))))))))))))) []) (.seq (.reg (straight [⟨some 113, none, .pur (.bin .eql) [.tmp 9, .const (.int .i64 9)]⟩, ⟨some 112, none, .pur .mov [.tmp 113]⟩]) [112])
  (.cond (.tmp 112) (.reg (straight [⟨some 114, none, .pur .mov [.tmp 0]⟩, ⟨some 115, none, .pur .mov [.tmp 1]⟩, ⟨some 116, none, .eff (.call 117) [.tmp 114, .tmp 115]⟩]) []) (.seq (.seq (.reg (straight [⟨some 118, none, .pur (.bin .eql) [.tmp 9, .const (.int .i64 11)]⟩, ⟨some 117, none, .pur .mov [.tmp 118]⟩]) [117])
  (.cond (.tmp 117) (.skip) (.reg (straight [⟨some 119, none, .pur (.bin .eql) [.tmp 9, .const (.int .i64 12)]⟩, ⟨some 117, none, .pur .mov [.tmp 119]⟩]) [117])))
  (.cond (.tmp 117) (.reg (straight [⟨some 120, none, .pur .mov [.tmp 0]⟩, ⟨some 121, none, .pur .mov [.tmp 1]⟩, ⟨some 122, none, .ld (some 3) (.tmp 5)⟩, ⟨some 123, none, .eff (.call 118) [.tmp 120, .tmp 121, .tmp 122]⟩]) []) (.seq (.reg (straight [⟨some 125, none, .pur (.bin .eql) [.tmp 9, .const (.int .i64 10)]⟩, ⟨some 124, none, .pur .mov [.tmp 125]⟩]) [124])
  (.cond (.tmp 124) (.reg (straight [⟨some 126, none, .pur .mov [.tmp 0]⟩, ⟨some 127, none, .pur .mov [.tmp 1]⟩, ⟨some 128, none, .eff (.call 119) [.tmp 126, .tmp 127]⟩]) []) (.seq (.reg (straight [⟨some 130, none, .pur (.bin .eql) [.tmp 9, .const (.int .i64 8)]⟩, ⟨some 129, none, .pur .mov [.tmp 130]⟩]) [129])
  (.cond (.tmp 129) (.seq (.reg (straight [⟨some 131, none, .pur .mov [.tmp 0]⟩, ⟨some 132, none, .eff (.call 115) [.tmp 131]⟩]) [])
  (.seq (.reg (straight [⟨some 133, none, .pur .mov [.tmp 0]⟩, ⟨some 134, none, .eff (.call 103) [.tmp 133]⟩, ⟨some 7, none, .pur .mov [.tmp 134]⟩]) [7])
  (.reg (.run ⟨some 135, none, .pur .mov [.tmp 7]⟩ (.run ⟨some 136, none, .pur .mov [.tmp 0]⟩ (.run ⟨some 137, none, .pur .mov [.tmp 7]⟩ (.run ⟨some 138, none, .pur .nilc [.tmp 137]⟩ (.run ⟨some 139, none, .pur (.fla 4) [.tmp 138]⟩ (.run ⟨some 140, none, .ld (some 3) (.tmp 139)⟩ (.run ⟨some 141, none, .pur .mov [.tmp 1]⟩ (.run ⟨some 142, none, .pur .nilc [.tmp 141]⟩ (.run ⟨some 143, none, .pur (.fla 11) [.tmp 142]⟩ (.run ⟨some 144, none, .ld none (.tmp 143)⟩ (.eff ⟨some 145, none, .eff (.call 102) [.tmp 136, .tmp 140, .tmp 144]⟩ [] (.run ⟨some 146, none, .pur .nilc [.tmp 135]⟩ (.run ⟨some 147, none, .pur (.fla 2) [.tmp 146]⟩ (.eff ⟨none, none, .eff (.st 1) [.tmp 147, .tmp 145]⟩ [] .done)))))))))))))) []))) (.reg (straight [⟨some 10, none, .pur .mov [.tmp 0]⟩, ⟨some 11, none, .pur .mov [.tmp 1]⟩, ⟨some 12, none, .ld (some 3) (.tmp 5)⟩, ⟨some 13, none, .eff (.call 120) [.tmp 10, .tmp 11, .tmp 12]⟩]) [])))))))))))))))))))⟩
theorem K_strand_builder_mark : compF Try.prog 105 = some S_strand_builder_mark := by kernel_rfl

-- 119
def S_strand_builder_done : Fun := ⟨41, [0, 4, 1], [],
  .seq (.reg (straight [⟨some 5, none, .pur .mov [.tmp 0]⟩, ⟨some 6, none, .eff (.call 115) [.tmp 5]⟩]) [])
  (.seq (.reg (straight [⟨some 7, none, .pur .mov [.tmp 0]⟩, ⟨some 8, none, .eff (.call 103) [.tmp 7]⟩, ⟨some 4, none, .pur .mov [.tmp 8]⟩]) [4])
  (.seq (.reg (.run ⟨some 9, none, .pur .mov [.tmp 4]⟩ (.run ⟨some 10, none, .pur .mov [.tmp 1]⟩ (.run ⟨some 11, none, .pur .nilc [.tmp 10]⟩ (.run ⟨some 12, none, .pur (.fla 7) [.tmp 11]⟩ (.run ⟨some 13, none, .ld none (.tmp 12)⟩ (.run ⟨some 14, none, .pur .mov [.tmp 1]⟩ (.run ⟨some 15, none, .pur .nilc [.tmp 14]⟩ (.run ⟨some 16, none, .pur (.fla 4) [.tmp 15]⟩ (.run ⟨some 17, none, .pur (.fla 2) [.tmp 16]⟩ (.run ⟨some 18, none, .ld none (.tmp 17)⟩ (.run ⟨some 19, none, .pur .mov [.tmp 1]⟩ (.run ⟨some 20, none, .pur .nilc [.tmp 19]⟩ (.run ⟨some 21, none, .pur (.fla 2) [.tmp 20]⟩ (.run ⟨some 22, none, .ld none (.tmp 21)⟩ (.run ⟨some 23, none, .pur (.bld [.int .i64 0, .int .i64 0] [(0, 1), (1, 1)]) [.tmp 18, .tmp 22]⟩ (.eff ⟨some 24, none, .eff (.bsl 197 2) [.tmp 23]⟩ [⟨some 13, none, .ld none (.tmp 12)⟩] (.eff ⟨some 25, none, .eff (.app 197 2 16 [.int .i64 0, .int .i64 0]) [.tmp 13, .tmp 24]⟩ [] (.run ⟨some 26, none, .pur .nilc [.tmp 9]⟩ (.run ⟨some 27, none, .pur (.fla 10) [.tmp 26]⟩ (.eff ⟨none, none, .eff (.st 1) [.tmp 27, .tmp 25]⟩ [] .done)))))))))))))))))))) [])
  (.reg (.run ⟨some 28, none, .pur .mov [.tmp 4]⟩ (.run ⟨some 29, none, .pur .mov [.tmp 4]⟩ (.run ⟨some 30, none, .pur .nilc [.tmp 29]⟩ (.run ⟨some 31, none, .pur (.fla 11) [.tmp 30]⟩ (.run ⟨some 32, none, .ld none (.tmp 31)⟩ (.run ⟨some 33, none, .pur .mov [.tmp 1]⟩ (.run ⟨some 34, none, .pur .nilc [.tmp 33]⟩ (.run ⟨some 35, none, .pur (.fla 2) [.tmp 34]⟩ (.run ⟨some 36, none, .ld none (.tmp 35)⟩ (.eff ⟨some 37, none, .eff (.bsl 3 1) [.tmp 36]⟩ [⟨some 32, none, .ld none (.tmp 31)⟩] (.eff ⟨some 38, none, .eff (.app 3 1 8 [.int .i64 0]) [.tmp 32, .tmp 37]⟩ [] (.run ⟨some 39, none, .pur .nilc [.tmp 28]⟩ (.run ⟨some 40, none, .pur (.fla 11) [.tmp 39]⟩ (.eff ⟨none, none, .eff (.st 1) [.tmp 40, .tmp 38]⟩ [] .done)))))))))))))) [])))⟩
theorem K_strand_builder_done : compF Try.prog 119 = some S_strand_builder_done := by kernel_rfl

-- 121
def S_forebayref30_Dag_next : Fun := ⟨50, [2, 0, 13, 3, 42], [.cell 2 (some 3)],
  .seq (.reg (straight [⟨some 2, none, .eff (.new 116 [.int .i64 0, .int .i64 0, .int .i64 0]) []⟩]) [2])
  (.seq (.seq (.reg (straight [⟨some 4, none, .pur .mov [.tmp 0]⟩, ⟨some 5, none, .pur .nilc [.tmp 4]⟩, ⟨some 6, none, .pur (.fla 1) [.tmp 5]⟩, ⟨some 7, none, .ld none (.tmp 6)⟩, ⟨some 8, none, .pur .mov [.tmp 0]⟩, ⟨some 9, none, .pur .nilc [.tmp 8]⟩, ⟨some 10, none, .pur (.fla 0) [.tmp 9]⟩, ⟨some 11, none, .ld none (.tmp 10)⟩, ⟨some 12, none, .pur (.len false) [.tmp 11]⟩, ⟨some 13, none, .pur (.bin .eql) [.tmp 7, .tmp 12]⟩]) [13])
  (.cond (.tmp 13) (.seq (.reg (straight [⟨some 14, none, .pur .mov [.tmp 0]⟩, ⟨some 15, none, .pur .nilc [.tmp 14]⟩, ⟨some 16, none, .pur (.fla 5) [.tmp 15]⟩, ⟨none, none, .eff (.st 1) [.tmp 16, .const (.bool true)]⟩]) [])
  (.seq (.reg (straight [⟨some 17, none, .pur (.bld [.int .i64 0, .int .i64 0, .int .i64 0] []) []⟩, ⟨none, none, .eff (.st 3) [.tmp 2, .tmp 17]⟩]) [])
  (.ret))) (.skip)))
  (.seq (.reg (.run ⟨some 18, none, .pur .mov [.tmp 0]⟩ (.run ⟨some 19, none, .pur .nilc [.tmp 18]⟩ (.run ⟨some 20, none, .pur (.fla 0) [.tmp 19]⟩ (.run ⟨some 21, none, .ld none (.tmp 20)⟩ (.run ⟨some 22, none, .pur .mov [.tmp 0]⟩ (.run ⟨some 23, none, .pur .nilc [.tmp 22]⟩ (.run ⟨some 24, none, .pur (.fla 1) [.tmp 23]⟩ (.run ⟨some 25, none, .ld none (.tmp 24)⟩ (.run ⟨some 26, none, .pur (.ixa 3) [.tmp 21, .tmp 25]⟩ (.run ⟨some 27, none, .ld (some 3) (.tmp 26)⟩ (.eff ⟨some 3, none, .eff (.new 116 [.int .i64 0, .int .i64 0, .int .i64 0]) []⟩ [⟨some 27, none, .ld (some 3) (.tmp 26)⟩, ⟨some 25, none, .ld none (.tmp 24)⟩, ⟨some 21, none, .ld none (.tmp 20)⟩] (.eff ⟨none, none, .eff (.st 3) [.tmp 3, .tmp 27]⟩ [] .done)))))))))))) [3])
  (.seq (.reg (straight [⟨some 28, none, .pur .mov [.tmp 0]⟩, ⟨some 29, none, .pur .nilc [.tmp 28]⟩, ⟨some 30, none, .pur (.fla 1) [.tmp 29]⟩, ⟨some 31, none, .ld none (.tmp 30)⟩, ⟨some 32, none, .pur (.bin .add) [.tmp 31, .const (.int .i64 1)]⟩, ⟨some 33, none, .pur .nilc [.tmp 28]⟩, ⟨some 34, none, .pur (.fla 1) [.tmp 33]⟩, ⟨none, none, .eff (.st 1) [.tmp 34, .tmp 32]⟩]) [])
  (.seq (.seq (.reg (straight [⟨some 35, none, .pur (.fla 0) [.tmp 3]⟩, ⟨some 36, none, .ld none (.tmp 35)⟩, ⟨some 37, none, .pur (.bin .lss) [.tmp 36, .const (.int .i64 1)]⟩, ⟨some 38, none, .pur .mov [.tmp 37]⟩, ⟨some 39, some (38, false), .pur (.fla 0) [.tmp 3]⟩, ⟨some 40, some (38, false), .ld none (.tmp 39)⟩, ⟨some 41, some (38, false), .pur (.bin .gtr) [.tmp 40, .const (.int .i64 12)]⟩, ⟨some 42, none, .pur .pick [.tmp 38, .const (.bool true), .tmp 41]⟩]) [42])
  (.cond (.tmp 42) (.seq (.reg (straight [⟨some 43, none, .pur .mov [.tmp 0]⟩, ⟨some 44, none, .pur .nilc [.tmp 43]⟩, ⟨some 45, none, .pur (.fla 6) [.tmp 44]⟩, ⟨none, none, .eff (.st 1) [.tmp 45, .const (.int .i64 5)]⟩]) [])
  (.reg (straight [⟨some 46, none, .pur .mov [.tmp 0]⟩, ⟨some 47, none, .pur .nilc [.tmp 46]⟩, ⟨some 48, none, .pur (.fla 5) [.tmp 47]⟩, ⟨none, none, .eff (.st 1) [.tmp 48, .const (.bool true)]⟩]) [])) (.skip)))
  (.seq (.reg (straight [⟨some 49, none, .ld (some 3) (.tmp 3)⟩, ⟨none, none, .eff (.st 3) [.tmp 2, .tmp 49]⟩]) [])
  (.ret))))))⟩
theorem K_forebayref30_Dag_next : compF Try.prog 121 = some S_forebayref30_Dag_next := by kernel_rfl

end Go.Proofs.Ytilofhocodbknaa
