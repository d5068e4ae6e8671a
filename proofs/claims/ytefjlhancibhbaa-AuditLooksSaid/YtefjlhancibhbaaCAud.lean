import Derived.Test.YtefjlhancibhbaaKj
import Derived.Test.YtefjlhancibhbaaProg
import Derived.KernelRfl
namespace Go.Proofs.Ytefjlhancibhbaa
open Go Go.Kx Go.Proofs
set_option linter.unusedVariables false
set_option maxRecDepth 100000

-- 3
def S_forebaylaw37_AuditLooks_L1 : SCode :=
  .seq (.seq (.reg (straight [⟨some 29, none, .pur .mov [.tmp 12]⟩, ⟨some 30, none, .pur .mov [.tmp 0]⟩, ⟨some 31, none, .pur (.len false) [.tmp 30]⟩, ⟨some 32, none, .pur (.bin .lss) [.tmp 29, .tmp 31]⟩]) [32])
  (.cond (.tmp 32) (.skip) (.exit 0)))
  (.seq (.block 1 (.seq (.reg (.run ⟨some 35, none, .pur .mov [.tmp 7]⟩ (.run ⟨some 36, none, .pur .mov [.tmp 0]⟩ (.run ⟨some 37, none, .pur .mov [.tmp 12]⟩ (.run ⟨some 38, none, .pur (.ixa 2) [.tmp 36, .tmp 37]⟩ (.run ⟨some 39, none, .pur (.ixaA 2 1) [.tmp 38, .const (.int .i64 0)]⟩ (.run ⟨some 40, none, .ld none (.tmp 39)⟩ (.run ⟨some 41, none, .pur .mov [.tmp 0]⟩ (.run ⟨some 42, none, .pur .mov [.tmp 12]⟩ (.run ⟨some 43, none, .pur (.ixa 2) [.tmp 41, .tmp 42]⟩ (.run ⟨some 44, none, .pur (.ixaA 2 1) [.tmp 43, .const (.int .i64 1)]⟩ (.run ⟨some 45, none, .ld none (.tmp 44)⟩ (.run ⟨some 46, none, .pur (.bld [.int .i64 0, .int .i64 0, .int .i64 0, .int .i64 0] [(0, 1), (1, 1)]) [.tmp 40, .tmp 45]⟩ (.eff ⟨some 47, none, .eff (.bsl 30 4) [.tmp 46]⟩ [] (.eff ⟨some 48, none, .eff (.app 30 4 32 [.int .i64 0, .int .i64 0, .int .i64 0, .int .i64 0]) [.tmp 35, .tmp 47]⟩ [] (.eff ⟨some 7, none, .pur .mov [.tmp 48]⟩ [] .done))))))))))))))) [7])
  (.seq (.reg (.run ⟨some 49, none, .pur .mov [.tmp 8]⟩ (.run ⟨some 50, none, .pur .mov [.tmp 0]⟩ (.run ⟨some 51, none, .pur .mov [.tmp 12]⟩ (.run ⟨some 52, none, .pur (.ixa 2) [.tmp 50, .tmp 51]⟩ (.run ⟨some 53, none, .pur (.ixaA 2 1) [.tmp 52, .const (.int .i64 0)]⟩ (.run ⟨some 54, none, .ld none (.tmp 53)⟩ (.run ⟨some 55, none, .pur .mov [.tmp 0]⟩ (.run ⟨some 56, none, .pur .mov [.tmp 12]⟩ (.run ⟨some 57, none, .pur (.ixa 2) [.tmp 55, .tmp 56]⟩ (.run ⟨some 58, none, .pur (.ixaA 2 1) [.tmp 57, .const (.int .i64 1)]⟩ (.run ⟨some 59, none, .ld none (.tmp 58)⟩ (.run ⟨some 60, none, .pur (.bld [.int .i64 0, .int .i64 0] [(0, 1), (1, 1)]) [.tmp 54, .tmp 59]⟩ (.eff ⟨some 61, none, .eff (.bsl 32 2) [.tmp 60]⟩ [] (.eff ⟨some 62, none, .eff (.app 32 2 16 [.int .i64 0, .int .i64 0]) [.tmp 49, .tmp 61]⟩ [] (.eff ⟨some 8, none, .pur .mov [.tmp 62]⟩ [] .done))))))))))))))) [8])
  (.seq (.reg (straight [⟨some 63, none, .pur .mov [.tmp 0]⟩, ⟨some 64, none, .pur .mov [.tmp 12]⟩, ⟨some 65, none, .pur (.ixa 2) [.tmp 63, .tmp 64]⟩, ⟨some 66, none, .pur (.ixaA 2 1) [.tmp 65, .const (.int .i64 0)]⟩, ⟨some 67, none, .ld none (.tmp 66)⟩, ⟨some 68, none, .pur (.bin .eql) [.tmp 67, .const (.int .i64 0)]⟩, ⟨some 69, none, .pur .mov [.tmp 68]⟩, ⟨some 70, some (69, false), .pur .mov [.tmp 0]⟩, ⟨some 71, some (69, false), .pur .mov [.tmp 12]⟩, ⟨some 72, some (69, false), .pur (.ixa 2) [.tmp 70, .tmp 71]⟩, ⟨some 73, some (69, false), .pur (.ixaA 2 1) [.tmp 72, .const (.int .i64 0)]⟩, ⟨some 74, some (69, false), .ld none (.tmp 73)⟩, ⟨some 75, some (69, false), .pur (.bin .eql) [.tmp 74, .const (.int .i64 1)]⟩, ⟨some 76, none, .pur .pick [.tmp 69, .const (.bool true), .tmp 75]⟩]) [76])
  (.cond (.tmp 76) (.reg (straight [⟨some 77, none, .pur .mov [.tmp 10]⟩, ⟨some 78, none, .pur (.bin .add) [.tmp 77, .const (.int .i64 1)]⟩, ⟨some 10, none, .pur .mov [.tmp 78]⟩]) [10]) (.skip))))))
  (.reg (straight [⟨some 33, none, .pur .mov [.tmp 12]⟩, ⟨some 34, none, .pur (.bin .add) [.tmp 33, .const (.int .i64 1)]⟩, ⟨some 12, none, .pur .mov [.tmp 34]⟩]) [12]))
def S_forebaylaw37_AuditLooks_L2 : SCode :=
  .seq (.seq (.reg (straight [⟨some 79, none, .pur .mov [.tmp 13]⟩, ⟨some 80, none, .pur .mov [.tmp 1]⟩, ⟨some 81, none, .pur (.len false) [.tmp 80]⟩, ⟨some 82, none, .pur (.bin .lss) [.tmp 79, .tmp 81]⟩]) [82])
  (.cond (.tmp 82) (.skip) (.exit 2)))
  (.seq (.block 3 (.seq (.seq (.reg (straight [⟨some 85, none, .pur .mov [.tmp 1]⟩, ⟨some 86, none, .pur .mov [.tmp 13]⟩, ⟨some 87, none, .pur (.ixa 1) [.tmp 85, .tmp 86]⟩, ⟨some 88, none, .ld none (.tmp 87)⟩, ⟨some 89, none, .pur (.len false) [.tmp 88]⟩, ⟨some 90, none, .pur (.bin .gtr) [.tmp 89, .const (.int .i64 100)]⟩]) [90])
  (.cond (.tmp 90) (.seq (.reg (straight [⟨some 6, none, .pur .mov [.const (.bool true)]⟩]) [6])
  (.ret)) (.skip)))
  (.seq (.reg (straight [⟨some 91, none, .pur .mov [.tmp 9]⟩, ⟨some 92, none, .eff (.bsl 3 1) []⟩, ⟨some 93, none, .pur .mov [.tmp 1]⟩, ⟨some 94, none, .pur .mov [.tmp 13]⟩, ⟨some 95, none, .pur (.ixa 1) [.tmp 93, .tmp 94]⟩, ⟨some 96, none, .ld none (.tmp 95)⟩, ⟨some 97, none, .eff (.app 3 1 8 [.int .i64 0]) [.tmp 92, .tmp 96]⟩, ⟨some 98, none, .eff (.bsl 24 1) [.tmp 97]⟩, ⟨some 99, none, .eff (.app 24 1 24 [.slice none 0 0]) [.tmp 91, .tmp 98]⟩, ⟨some 9, none, .pur .mov [.tmp 99]⟩]) [9])
  (.reg (straight [⟨some 100, none, .pur .mov [.tmp 11]⟩, ⟨some 101, none, .pur .mov [.tmp 1]⟩, ⟨some 102, none, .pur .mov [.tmp 13]⟩, ⟨some 103, none, .pur (.ixa 1) [.tmp 101, .tmp 102]⟩, ⟨some 104, none, .ld none (.tmp 103)⟩, ⟨some 105, none, .pur (.len false) [.tmp 104]⟩, ⟨some 106, none, .pur (.bin .add) [.tmp 100, .tmp 105]⟩, ⟨some 11, none, .pur .mov [.tmp 106]⟩]) [11]))))
  (.reg (straight [⟨some 83, none, .pur .mov [.tmp 13]⟩, ⟨some 84, none, .pur (.bin .add) [.tmp 83, .const (.int .i64 1)]⟩, ⟨some 13, none, .pur .mov [.tmp 84]⟩]) [13]))
def S_forebaylaw37_AuditLooks : Fun := ⟨130, [6, 15, 0, 1, 2, 28, 12, 32, 7, 8, 76, 10, 13, 82, 90, 9, 11], [.tmp 6],
  .seq (.reg (straight [⟨some 6, none, .pur .mov [.const (.bool false)]⟩]) [6])
  (.seq (.seq (.reg (straight [⟨some 14, none, .eff (.call 8) []⟩, ⟨some 15, none, .pur .not [.tmp 14]⟩]) [15])
  (.cond (.tmp 15) (.seq (.reg (straight [⟨some 6, none, .pur .mov [.const (.bool false)]⟩]) [6])
  (.ret)) (.skip)))
  (.seq (.seq (.reg (straight [⟨some 16, none, .pur .mov [.tmp 0]⟩, ⟨some 17, none, .pur (.len false) [.tmp 16]⟩, ⟨some 18, none, .pur (.bin .gtr) [.tmp 17, .const (.int .i64 100)]⟩, ⟨some 19, none, .pur .mov [.tmp 18]⟩, ⟨some 20, some (19, false), .pur .mov [.tmp 1]⟩, ⟨some 21, some (19, false), .pur (.len false) [.tmp 20]⟩, ⟨some 22, some (19, false), .pur (.bin .gtr) [.tmp 21, .const (.int .i64 100)]⟩, ⟨some 23, none, .pur .pick [.tmp 19, .const (.bool true), .tmp 22]⟩, ⟨some 24, none, .pur .mov [.tmp 23]⟩, ⟨some 25, some (24, false), .pur .mov [.tmp 2]⟩, ⟨some 26, some (24, false), .pur (.len false) [.tmp 25]⟩, ⟨some 27, some (24, false), .pur (.bin .gtr) [.tmp 26, .const (.int .i64 500)]⟩, ⟨some 28, none, .pur .pick [.tmp 24, .const (.bool true), .tmp 27]⟩]) [28])
  (.cond (.tmp 28) (.seq (.reg (straight [⟨some 6, none, .pur .mov [.const (.bool true)]⟩]) [6])
  (.ret)) (.skip)))
  (.seq (.reg (straight [⟨some 7, none, .pur .mov [.const (.slice none 0 0)]⟩]) [7])
  (.seq (.reg (straight [⟨some 8, none, .pur .mov [.const (.slice none 0 0)]⟩]) [8])
  (.seq (.reg (straight [⟨some 9, none, .pur .mov [.const (.slice none 0 0)]⟩]) [9])
  (.seq (.reg (straight [⟨some 10, none, .pur .mov [.const (.int .i64 0)]⟩, ⟨some 11, none, .pur .mov [.const (.int .i64 0)]⟩]) [10, 11])
  (.seq (.seq (.reg (straight [⟨some 12, none, .pur .mov [.const (.int .i64 0)]⟩]) [12])
  (.block 0 (.loop S_forebaylaw37_AuditLooks_L1)))
  (.seq (.seq (.reg (straight [⟨some 13, none, .pur .mov [.const (.int .i64 0)]⟩]) [13])
  (.block 2 (.loop S_forebaylaw37_AuditLooks_L2)))
  (.seq (.reg (straight [⟨some 107, none, .pur .mov [.tmp 7]⟩, ⟨some 108, none, .pur .mov [.tmp 9]⟩, ⟨some 109, none, .eff (.bsl 3 1) []⟩, ⟨some 110, none, .pur .mov [.tmp 2]⟩, ⟨some 111, none, .eff (.app 3 1 8 [.int .i64 0]) [.tmp 109, .tmp 110]⟩, ⟨some 112, none, .eff (.call 9) [.tmp 107, .tmp 108, .tmp 111]⟩, ⟨some 113, none, .pur .mov [.tmp 8]⟩, ⟨some 114, none, .pur .mov [.tmp 1]⟩, ⟨some 115, none, .pur .mov [.tmp 2]⟩, ⟨some 116, none, .eff (.call 10) [.tmp 113, .tmp 114, .tmp 115]⟩, ⟨some 117, none, .pur (.bin .eql) [.tmp 112, .tmp 116]⟩, ⟨some 118, none, .pur .mov [.tmp 117]⟩, ⟨some 119, some (118, true), .pur .mov [.tmp 7]⟩, ⟨some 120, some (118, true), .eff (.call 11) [.tmp 119]⟩, ⟨some 121, some (118, true), .pur .mov [.tmp 10]⟩, ⟨some 122, some (118, true), .pur (.bin .eql) [.tmp 120, .tmp 121]⟩, ⟨some 123, none, .pur .pick [.tmp 118, .tmp 122, .const (.bool false)]⟩, ⟨some 124, none, .pur .mov [.tmp 123]⟩, ⟨some 125, some (124, true), .pur .mov [.tmp 9]⟩, ⟨some 126, some (124, true), .eff (.call 12) [.tmp 125]⟩, ⟨some 127, some (124, true), .pur .mov [.tmp 11]⟩, ⟨some 128, some (124, true), .pur (.bin .eql) [.tmp 126, .tmp 127]⟩, ⟨some 129, none, .pur .pick [.tmp 124, .tmp 128, .const (.bool false)]⟩, ⟨some 6, none, .pur .mov [.tmp 129]⟩]) [6])
  (.ret))))))))))⟩
theorem K_forebaylaw37_AuditLooks : compF Try.prog 3 = some S_forebaylaw37_AuditLooks := by kernel_rfl

-- 8
def S_forebaylaw37_works : Fun := ⟨40, [0, 1], [.tmp 0],
  .seq (.reg (straight [⟨some 0, none, .pur .mov [.const (.bool false)]⟩]) [0])
  (.seq (.reg (straight [⟨some 2, none, .pur (.bld [.int .i64 0, .int .i64 0, .int .i64 0, .int .i64 0] [(0, 1), (1, 1)]) [.const (.int .i64 4), .const (.int .i64 1)]⟩, ⟨some 3, none, .eff (.bsl 30 4) [.tmp 2]⟩, ⟨some 1, none, .pur .mov [.tmp 3]⟩]) [1])
  (.seq (.reg (straight [⟨some 4, none, .pur .mov [.tmp 1]⟩, ⟨some 5, none, .eff (.bsl 3 1) [.const (.int .i64 1)]⟩, ⟨some 6, none, .eff (.call 9) [.tmp 4, .const (.slice none 0 0), .tmp 5]⟩, ⟨some 7, none, .pur (.bin .eql) [.tmp 6, .const (.int .i64 0)]⟩, ⟨some 8, none, .pur .mov [.tmp 7]⟩, ⟨some 9, some (8, true), .pur .mov [.tmp 1]⟩, ⟨some 10, some (8, true), .eff (.bsl 3 1) [.const (.int .i64 1)]⟩, ⟨some 11, some (8, true), .eff (.bsl 24 1) [.tmp 10]⟩, ⟨some 12, some (8, true), .eff (.bsl 3 1) [.const (.int .i64 1)]⟩, ⟨some 13, some (8, true), .eff (.call 9) [.tmp 9, .tmp 11, .tmp 12]⟩, ⟨some 14, some (8, true), .pur (.bin .eql) [.tmp 13, .const (.int .i64 10)]⟩, ⟨some 15, none, .pur .pick [.tmp 8, .tmp 14, .const (.bool false)]⟩, ⟨some 16, none, .pur .mov [.tmp 15]⟩, ⟨some 17, some (16, true), .pur .mov [.tmp 1]⟩, ⟨some 18, some (16, true), .eff (.bsl 3 1) [.const (.int .i64 3)]⟩, ⟨some 19, some (16, true), .eff (.call 9) [.tmp 17, .const (.slice none 0 0), .tmp 18]⟩, ⟨some 20, some (16, true), .pur (.bin .eql) [.tmp 19, .const (.int .i64 5)]⟩, ⟨some 21, none, .pur .pick [.tmp 16, .tmp 20, .const (.bool false)]⟩, ⟨some 22, none, .pur .mov [.tmp 21]⟩, ⟨some 23, some (22, true), .pur (.bld [.int .i64 0, .int .i64 0, .int .i64 0, .int .i64 0] []) []⟩, ⟨some 24, some (22, true), .pur (.bld [.int .i64 0, .int .i64 0, .int .i64 0, .int .i64 0] [(0, 1)]) [.const (.int .i64 4)]⟩, ⟨some 25, some (22, true), .eff (.bsl 30 4) [.tmp 23, .tmp 24]⟩, ⟨some 26, some (22, true), .eff (.call 11) [.tmp 25]⟩, ⟨some 27, some (22, true), .pur (.bin .eql) [.tmp 26, .const (.int .i64 1)]⟩, ⟨some 28, none, .pur .pick [.tmp 22, .tmp 27, .const (.bool false)]⟩, ⟨some 29, none, .pur .mov [.tmp 28]⟩, ⟨some 30, some (29, true), .eff (.bsl 3 1) [.const (.int .i64 1), .const (.int .i64 2)]⟩, ⟨some 31, some (29, true), .eff (.bsl 3 1) [.const (.int .i64 3)]⟩, ⟨some 32, some (29, true), .eff (.bsl 24 1) [.tmp 30, .tmp 31]⟩, ⟨some 33, some (29, true), .eff (.call 12) [.tmp 32]⟩, ⟨some 34, some (29, true), .pur (.bin .eql) [.tmp 33, .const (.int .i64 3)]⟩, ⟨some 35, none, .pur .pick [.tmp 29, .tmp 34, .const (.bool false)]⟩, ⟨some 36, none, .pur .mov [.tmp 35]⟩, ⟨some 37, some (36, true), .eff (.call 35) [.const (.pointer none)]⟩, ⟨some 38, some (36, true), .pur (.bin .eql) [.tmp 37, .const (.int .i64 7)]⟩, ⟨some 39, none, .pur .pick [.tmp 36, .tmp 38, .const (.bool false)]⟩, ⟨some 0, none, .pur .mov [.tmp 39]⟩]) [0])
  (.ret)))⟩
theorem K_forebaylaw37_works : compF Try.prog 8 = some S_forebaylaw37_works := by kernel_rfl

-- 9
def S_audit_Look_L1 : SCode :=
  .seq (.reg (straight [⟨some 26, none, .pur (.bin .lss) [.tmp 25, .tmp 24]⟩]) [26])
  (.seq (.cond (.tmp 26) (.skip) (.exit 0))
  (.seq (.block 1 (.seq (.reg (straight [⟨some 27, none, .pur (.ixa 4) [.tmp 23, .tmp 25]⟩, ⟨some 28, none, .ld (some 4) (.tmp 27)⟩, ⟨some 9, none, .eff (.new 30 [.int .i64 0, .int .i64 0, .int .i64 0, .int .i64 0]) []⟩, ⟨none, none, .eff (.st 4) [.tmp 9, .tmp 28]⟩]) [9])
  (.seq (.reg (straight [⟨some 29, none, .pur .mov [.tmp 7]⟩, ⟨some 30, none, .ld (some 4) (.tmp 9)⟩, ⟨some 31, none, .eff (.call 36) [.tmp 29, .tmp 30]⟩, ⟨some 10, none, .pur .mov [.tmp 31]⟩]) [10])
  (.seq (.reg (straight [⟨some 32, none, .pur .mov [.tmp 10]⟩, ⟨some 33, none, .pur (.bin .neq) [.tmp 32, .const (.int .i64 0)]⟩]) [33])
  (.cond (.tmp 33) (.seq (.reg (straight [⟨some 34, none, .pur .mov [.tmp 10]⟩, ⟨some 6, none, .pur .mov [.tmp 34]⟩]) [6])
  (.ret)) (.skip))))))
  (.reg (straight [⟨some 35, none, .pur (.bin .add) [.tmp 25, .const (.int .i64 1)]⟩, ⟨some 25, none, .pur .mov [.tmp 35]⟩]) [25])))
def S_audit_Look_L3 : SCode :=
  .seq (.reg (straight [⟨some 45, none, .pur (.bin .lss) [.tmp 44, .tmp 43]⟩]) [45])
  (.seq (.cond (.tmp 45) (.skip) (.exit 4))
  (.seq (.block 5 (.seq (.reg (straight [⟨some 46, none, .pur (.ixa 1) [.tmp 42, .tmp 44]⟩, ⟨some 47, none, .ld none (.tmp 46)⟩, ⟨some 14, none, .pur .mov [.tmp 47]⟩]) [14])
  (.seq (.reg (straight [⟨some 49, none, .pur .mov [.tmp 7]⟩, ⟨some 50, none, .pur .mov [.tmp 14]⟩, ⟨some 51, none, .eff (.call 37) [.tmp 49, .tmp 50]⟩, ⟨some 48, none, .pur .mov [.tmp 51]⟩, ⟨some 52, none, .pur (.ext 0) [.tmp 48]⟩, ⟨some 53, none, .pur (.ext 1) [.tmp 48]⟩, ⟨some 15, none, .pur .mov [.tmp 52]⟩, ⟨some 16, none, .pur .mov [.tmp 53]⟩]) [16])
  (.seq (.reg (straight [⟨some 54, none, .pur .mov [.tmp 16]⟩, ⟨some 55, none, .pur (.bin .neq) [.tmp 54, .const (.int .i64 0)]⟩]) [55])
  (.cond (.tmp 55) (.seq (.reg (straight [⟨some 56, none, .pur .mov [.tmp 16]⟩, ⟨some 6, none, .pur .mov [.tmp 56]⟩]) [6])
  (.ret)) (.skip))))))
  (.reg (straight [⟨some 57, none, .pur (.bin .add) [.tmp 44, .const (.int .i64 1)]⟩, ⟨some 44, none, .pur .mov [.tmp 57]⟩]) [44])))
def S_audit_Look_L2 : SCode :=
  .seq (.reg (straight [⟨some 39, none, .pur (.bin .lss) [.tmp 38, .tmp 37]⟩]) [39])
  (.seq (.cond (.tmp 39) (.skip) (.exit 2))
  (.seq (.block 3 (.seq (.reg (straight [⟨some 40, none, .pur (.ixa 1) [.tmp 36, .tmp 38]⟩, ⟨some 41, none, .ld none (.tmp 40)⟩, ⟨some 12, none, .pur .mov [.tmp 41]⟩]) [12])
  (.seq (.reg (straight [⟨some 42, none, .pur .mov [.tmp 12]⟩, ⟨some 43, none, .pur (.len false) [.tmp 42]⟩, ⟨some 44, none, .pur .mov [.const (.int .i64 0)]⟩]) [42, 43, 44])
  (.block 4 (.loop S_audit_Look_L3)))))
  (.reg (straight [⟨some 58, none, .pur (.bin .add) [.tmp 38, .const (.int .i64 1)]⟩, ⟨some 38, none, .pur .mov [.tmp 58]⟩]) [38])))
def S_audit_Look : Fun := ⟨59, [6, 2, 0, 25, 24, 26, 23, 7, 9, 10, 33, 1, 38, 37, 39, 36, 12, 44, 43, 45, 42, 14, 16, 55], [.tmp 6],
  .seq (.reg (straight [⟨some 6, none, .pur .mov [.const (.int .i64 0)]⟩]) [6])
  (.seq (.reg (straight [⟨some 17, none, .pur .mov [.tmp 2]⟩, ⟨some 18, none, .pur .mov [.tmp 2]⟩, ⟨some 19, none, .pur (.len false) [.tmp 18]⟩, ⟨some 20, none, .eff (.mks 4 1 1 [.bool false]) [.tmp 19, .tmp 19]⟩, ⟨some 21, none, .pur (.bld [.slice none 0 0, .slice none 0 0] [(0, 1), (1, 1)]) [.tmp 17, .tmp 20]⟩, ⟨some 22, none, .eff (.box 77) [.tmp 21]⟩, ⟨some 7, none, .pur .mov [.tmp 22]⟩]) [7])
  (.seq (.seq (.reg (straight [⟨some 23, none, .pur .mov [.tmp 0]⟩, ⟨some 24, none, .pur (.len false) [.tmp 23]⟩, ⟨some 25, none, .pur .mov [.const (.int .i64 0)]⟩]) [23, 24, 25])
  (.block 0 (.loop S_audit_Look_L1)))
  (.seq (.seq (.reg (straight [⟨some 36, none, .pur .mov [.tmp 1]⟩, ⟨some 37, none, .pur (.len false) [.tmp 36]⟩, ⟨some 38, none, .pur .mov [.const (.int .i64 0)]⟩]) [36, 37, 38])
  (.block 2 (.loop S_audit_Look_L2)))
  (.seq (.reg (straight [⟨some 6, none, .pur .mov [.const (.int .i64 0)]⟩]) [6])
  (.ret)))))⟩
theorem K_audit_Look : compF Try.prog 9 = some S_audit_Look := by kernel_rfl

-- 10
def S_forebayref37_Look_L1 : SCode :=
  .seq (.seq (.reg (straight [⟨some 18, none, .pur .mov [.tmp 10]⟩, ⟨some 19, none, .pur .mov [.tmp 0]⟩, ⟨some 20, none, .pur (.len false) [.tmp 19]⟩, ⟨some 21, none, .pur (.bin .lss) [.tmp 18, .tmp 20]⟩]) [21])
  (.cond (.tmp 21) (.skip) (.exit 0)))
  (.seq (.block 1 (.seq (.reg (straight [⟨some 24, none, .pur .mov [.tmp 0]⟩, ⟨some 25, none, .pur .mov [.tmp 10]⟩, ⟨some 26, none, .pur (.ixa 2) [.tmp 24, .tmp 25]⟩, ⟨some 27, none, .pur (.fla 0) [.tmp 26]⟩, ⟨some 28, none, .ld none (.tmp 27)⟩, ⟨some 29, none, .pur .mov [.tmp 0]⟩, ⟨some 30, none, .pur .mov [.tmp 10]⟩, ⟨some 31, none, .pur (.ixa 2) [.tmp 29, .tmp 30]⟩, ⟨some 32, none, .pur (.fla 1) [.tmp 31]⟩, ⟨some 33, none, .ld none (.tmp 32)⟩, ⟨some 11, none, .pur .mov [.tmp 28]⟩, ⟨some 12, none, .pur .mov [.tmp 33]⟩]) [11, 12])
  (.seq (.seq (.reg (straight [⟨some 34, none, .pur .mov [.tmp 11]⟩, ⟨some 35, none, .pur (.bin .lss) [.tmp 34, .const (.int .i64 0)]⟩, ⟨some 36, none, .pur .mov [.tmp 35]⟩, ⟨some 37, some (36, false), .pur .mov [.tmp 11]⟩, ⟨some 38, some (36, false), .pur (.bin .gtr) [.tmp 37, .const (.int .i64 24)]⟩, ⟨some 39, none, .pur .pick [.tmp 36, .const (.bool true), .tmp 38]⟩]) [39])
  (.cond (.tmp 39) (.seq (.reg (straight [⟨some 6, none, .pur .mov [.const (.int .i64 3)]⟩]) [6])
  (.ret)) (.skip)))
  (.seq (.seq (.reg (straight [⟨some 40, none, .pur .mov [.tmp 12]⟩, ⟨some 41, none, .pur (.bin .neq) [.tmp 40, .const (.int .i64 0)]⟩, ⟨some 42, none, .pur .mov [.tmp 41]⟩, ⟨some 43, some (42, true), .pur .mov [.tmp 7]⟩, ⟨some 44, some (42, true), .pur .mov [.tmp 11]⟩, ⟨some 45, some (42, true), .eff (.call 38) [.tmp 43, .tmp 44]⟩, ⟨some 46, none, .pur .pick [.tmp 42, .tmp 45, .const (.bool false)]⟩, ⟨some 47, none, .pur .mov [.tmp 46]⟩, ⟨some 48, some (47, false), .pur .mov [.tmp 12]⟩, ⟨some 49, some (47, false), .pur (.bin .eql) [.tmp 48, .const (.int .i64 0)]⟩, ⟨some 50, some (47, false), .pur .mov [.tmp 49]⟩, ⟨some 51, some (50, true), .pur .mov [.tmp 7]⟩, ⟨some 52, some (50, true), .pur .mov [.tmp 11]⟩, ⟨some 53, some (50, true), .eff (.call 38) [.tmp 51, .tmp 52]⟩, ⟨some 54, some (50, true), .pur .not [.tmp 53]⟩, ⟨some 55, some (47, false), .pur .pick [.tmp 50, .tmp 54, .const (.bool false)]⟩, ⟨some 56, some (47, false), .pur .mov [.tmp 55]⟩, ⟨some 57, some (56, true), .pur .mov [.tmp 11]⟩, ⟨some 58, some (56, true), .pur (.bin .neq) [.tmp 57, .const (.int .i64 3)]⟩, ⟨some 59, some (47, false), .pur .pick [.tmp 56, .tmp 58, .const (.bool false)]⟩, ⟨some 60, none, .pur .pick [.tmp 47, .const (.bool true), .tmp 59]⟩]) [60])
  (.cond (.tmp 60) (.seq (.reg (straight [⟨some 6, none, .pur .mov [.const (.int .i64 8)]⟩]) [6])
  (.ret)) (.skip)))
  (.seq (.seq (.reg (straight [⟨some 61, none, .pur .mov [.tmp 12]⟩, ⟨some 62, none, .pur (.bin .eql) [.tmp 61, .const (.int .i64 0)]⟩]) [62])
  (.cond (.tmp 62) (.exit 1) (.skip)))
  (.seq (.seq (.reg (straight [⟨some 63, none, .pur .mov [.tmp 12]⟩, ⟨some 64, none, .pur (.bin .lss) [.tmp 63, .const (.int .i64 1)]⟩, ⟨some 65, none, .pur .mov [.tmp 64]⟩, ⟨some 66, some (65, false), .pur .mov [.tmp 12]⟩, ⟨some 67, some (65, false), .pur .mov [.tmp 2]⟩, ⟨some 68, some (65, false), .pur (.len false) [.tmp 67]⟩, ⟨some 69, some (65, false), .pur (.bin .gtr) [.tmp 66, .tmp 68]⟩, ⟨some 70, none, .pur .pick [.tmp 65, .const (.bool true), .tmp 69]⟩, ⟨some 71, none, .pur .mov [.tmp 70]⟩, ⟨some 72, some (71, false), .pur .mov [.tmp 2]⟩, ⟨some 73, some (71, false), .pur .mov [.tmp 12]⟩, ⟨some 74, some (71, false), .pur (.bin .sub) [.tmp 73, .const (.int .i64 1)]⟩, ⟨some 75, some (71, false), .pur (.ixa 1) [.tmp 72, .tmp 74]⟩, ⟨some 76, some (71, false), .ld none (.tmp 75)⟩, ⟨some 77, some (71, false), .pur (.bin .eql) [.tmp 76, .const (.int .i64 0)]⟩, ⟨some 78, none, .pur .pick [.tmp 71, .const (.bool true), .tmp 77]⟩]) [78])
  (.cond (.tmp 78) (.seq (.reg (straight [⟨some 6, none, .pur .mov [.const (.int .i64 7)]⟩]) [6])
  (.ret)) (.skip)))
  (.seq (.seq (.reg (straight [⟨some 79, none, .pur .mov [.tmp 9]⟩, ⟨some 80, none, .pur .mov [.tmp 12]⟩, ⟨some 81, none, .eff (.call 38) [.tmp 79, .tmp 80]⟩]) [81])
  (.cond (.tmp 81) (.seq (.reg (straight [⟨some 6, none, .pur .mov [.const (.int .i64 10)]⟩]) [6])
  (.ret)) (.skip)))
  (.seq (.reg (straight [⟨some 82, none, .pur .mov [.tmp 9]⟩, ⟨some 83, none, .pur .mov [.tmp 12]⟩, ⟨some 84, none, .eff (.bsl 3 1) [.tmp 83]⟩, ⟨some 85, none, .eff (.app 3 1 8 [.int .i64 0]) [.tmp 82, .tmp 84]⟩, ⟨some 9, none, .pur .mov [.tmp 85]⟩]) [9])
  (.seq (.reg (.run ⟨some 86, none, .pur .mov [.tmp 11]⟩ (.run ⟨some 87, none, .pur (.bin .neq) [.tmp 86, .const (.int .i64 3)]⟩ (.run ⟨some 88, none, .pur .mov [.tmp 87]⟩ (.run ⟨some 89, some (88, true), .pur .mov [.tmp 2]⟩ (.run ⟨some 90, some (88, true), .pur .mov [.tmp 12]⟩ (.run ⟨some 91, some (88, true), .pur (.bin .sub) [.tmp 90, .const (.int .i64 1)]⟩ (.run ⟨some 92, some (88, true), .pur (.ixa 1) [.tmp 89, .tmp 91]⟩ (.run ⟨some 93, some (88, true), .ld none (.tmp 92)⟩ (.run ⟨some 94, some (88, true), .pur (.bin .eql) [.tmp 93, .const (.int .i64 3)]⟩ (.run ⟨some 95, some (88, true), .pur .mov [.tmp 8]⟩ (.run ⟨some 96, some (88, true), .pur .mov [.tmp 11]⟩ (.eff ⟨some 97, some (88, true), .eff (.call 38) [.tmp 95, .tmp 96]⟩ [⟨some 93, some (88, true), .ld none (.tmp 92)⟩] (.run ⟨some 98, some (88, true), .pur (.eqb true) [.tmp 94, .tmp 97]⟩ (.run ⟨some 99, none, .pur .pick [.tmp 88, .tmp 98, .const (.bool false)]⟩ .done)))))))))))))) [99])
  (.cond (.tmp 99) (.seq (.reg (straight [⟨some 6, none, .pur .mov [.const (.int .i64 5)]⟩]) [6])
  (.ret)) (.skip)))))))))))
  (.reg (straight [⟨some 22, none, .pur .mov [.tmp 10]⟩, ⟨some 23, none, .pur (.bin .add) [.tmp 22, .const (.int .i64 1)]⟩, ⟨some 10, none, .pur .mov [.tmp 23]⟩]) [10]))
def S_forebayref37_Look_L3 : SCode :=
  .seq (.seq (.reg (straight [⟨some 106, none, .pur .mov [.tmp 14]⟩, ⟨some 107, none, .pur .mov [.tmp 1]⟩, ⟨some 108, none, .pur .mov [.tmp 13]⟩, ⟨some 109, none, .pur (.ixa 1) [.tmp 107, .tmp 108]⟩, ⟨some 110, none, .ld none (.tmp 109)⟩, ⟨some 111, none, .pur (.len false) [.tmp 110]⟩, ⟨some 112, none, .pur (.bin .lss) [.tmp 106, .tmp 111]⟩]) [112])
  (.cond (.tmp 112) (.skip) (.exit 4)))
  (.seq (.block 5 (.seq (.reg (straight [⟨some 115, none, .pur .mov [.tmp 1]⟩, ⟨some 116, none, .pur .mov [.tmp 13]⟩, ⟨some 117, none, .pur (.ixa 1) [.tmp 115, .tmp 116]⟩, ⟨some 118, none, .ld none (.tmp 117)⟩, ⟨some 119, none, .pur .mov [.tmp 14]⟩, ⟨some 120, none, .pur (.ixa 1) [.tmp 118, .tmp 119]⟩, ⟨some 121, none, .ld none (.tmp 120)⟩, ⟨some 15, none, .pur .mov [.tmp 121]⟩]) [15])
  (.seq (.seq (.reg (straight [⟨some 122, none, .pur .mov [.tmp 15]⟩, ⟨some 123, none, .pur (.bin .lss) [.tmp 122, .const (.int .i64 1)]⟩, ⟨some 124, none, .pur .mov [.tmp 123]⟩, ⟨some 125, some (124, false), .pur .mov [.tmp 15]⟩, ⟨some 126, some (124, false), .pur .mov [.tmp 2]⟩, ⟨some 127, some (124, false), .pur (.len false) [.tmp 126]⟩, ⟨some 128, some (124, false), .pur (.bin .gtr) [.tmp 125, .tmp 127]⟩, ⟨some 129, none, .pur .pick [.tmp 124, .const (.bool true), .tmp 128]⟩, ⟨some 130, none, .pur .mov [.tmp 129]⟩, ⟨some 131, some (130, false), .pur .mov [.tmp 2]⟩, ⟨some 132, some (130, false), .pur .mov [.tmp 15]⟩, ⟨some 133, some (130, false), .pur (.bin .sub) [.tmp 132, .const (.int .i64 1)]⟩, ⟨some 134, some (130, false), .pur (.ixa 1) [.tmp 131, .tmp 133]⟩, ⟨some 135, some (130, false), .ld none (.tmp 134)⟩, ⟨some 136, some (130, false), .pur (.bin .eql) [.tmp 135, .const (.int .i64 0)]⟩, ⟨some 137, none, .pur .pick [.tmp 130, .const (.bool true), .tmp 136]⟩]) [137])
  (.cond (.tmp 137) (.seq (.reg (straight [⟨some 6, none, .pur .mov [.const (.int .i64 7)]⟩]) [6])
  (.ret)) (.skip)))
  (.seq (.seq (.reg (straight [⟨some 138, none, .pur .mov [.tmp 9]⟩, ⟨some 139, none, .pur .mov [.tmp 15]⟩, ⟨some 140, none, .eff (.call 38) [.tmp 138, .tmp 139]⟩]) [140])
  (.cond (.tmp 140) (.seq (.reg (straight [⟨some 6, none, .pur .mov [.const (.int .i64 10)]⟩]) [6])
  (.ret)) (.skip)))
  (.reg (straight [⟨some 141, none, .pur .mov [.tmp 9]⟩, ⟨some 142, none, .pur .mov [.tmp 15]⟩, ⟨some 143, none, .eff (.bsl 3 1) [.tmp 142]⟩, ⟨some 144, none, .eff (.app 3 1 8 [.int .i64 0]) [.tmp 141, .tmp 143]⟩, ⟨some 9, none, .pur .mov [.tmp 144]⟩]) [9])))))
  (.reg (straight [⟨some 113, none, .pur .mov [.tmp 14]⟩, ⟨some 114, none, .pur (.bin .add) [.tmp 113, .const (.int .i64 1)]⟩, ⟨some 14, none, .pur .mov [.tmp 114]⟩]) [14]))
def S_forebayref37_Look_L2 : SCode :=
  .seq (.seq (.reg (straight [⟨some 100, none, .pur .mov [.tmp 13]⟩, ⟨some 101, none, .pur .mov [.tmp 1]⟩, ⟨some 102, none, .pur (.len false) [.tmp 101]⟩, ⟨some 103, none, .pur (.bin .lss) [.tmp 100, .tmp 102]⟩]) [103])
  (.cond (.tmp 103) (.skip) (.exit 2)))
  (.seq (.block 3 (.seq (.reg (straight [⟨some 14, none, .pur .mov [.const (.int .i64 0)]⟩]) [14])
  (.block 4 (.loop S_forebayref37_Look_L3))))
  (.reg (straight [⟨some 104, none, .pur .mov [.tmp 13]⟩, ⟨some 105, none, .pur (.bin .add) [.tmp 104, .const (.int .i64 1)]⟩, ⟨some 13, none, .pur .mov [.tmp 105]⟩]) [13]))
def S_forebayref37_Look : Fun := ⟨145, [6, 10, 0, 21, 11, 39, 12, 7, 60, 62, 2, 78, 9, 81, 8, 99, 13, 1, 103, 14, 112, 15, 137, 140], [.tmp 6],
  .seq (.reg (straight [⟨some 6, none, .pur .mov [.const (.int .i64 0)]⟩]) [6])
  (.seq (.reg (straight [⟨some 16, none, .eff (.bsl 3 1) [.const (.int .i64 0), .const (.int .i64 1), .const (.int .i64 2), .const (.int .i64 7), .const (.int .i64 8), .const (.int .i64 13), .const (.int .i64 17), .const (.int .i64 20)]⟩, ⟨some 7, none, .pur .mov [.tmp 16]⟩]) [7])
  (.seq (.reg (straight [⟨some 17, none, .eff (.bsl 3 1) [.const (.int .i64 18), .const (.int .i64 19), .const (.int .i64 21), .const (.int .i64 22), .const (.int .i64 23), .const (.int .i64 24)]⟩, ⟨some 8, none, .pur .mov [.tmp 17]⟩]) [8])
  (.seq (.reg (straight [⟨some 9, none, .pur .mov [.const (.slice none 0 0)]⟩]) [9])
  (.seq (.seq (.reg (straight [⟨some 10, none, .pur .mov [.const (.int .i64 0)]⟩]) [10])
  (.block 0 (.loop S_forebayref37_Look_L1)))
  (.seq (.seq (.reg (straight [⟨some 13, none, .pur .mov [.const (.int .i64 0)]⟩]) [13])
  (.block 2 (.loop S_forebayref37_Look_L2)))
  (.seq (.reg (straight [⟨some 6, none, .pur .mov [.const (.int .i64 0)]⟩]) [6])
  (.ret)))))))⟩
theorem K_forebayref37_Look : compF Try.prog 10 = some S_forebayref37_Look := by kernel_rfl

-- 11
def S_audit_Idle_L1 : SCode :=
  .seq (.reg (straight [⟨some 9, none, .pur (.bin .lss) [.tmp 8, .tmp 7]⟩]) [9])
  (.seq (.cond (.tmp 9) (.skip) (.exit 0))
  (.seq (.block 1 (.seq (.reg (straight [⟨some 10, none, .pur (.ixa 4) [.tmp 6, .tmp 8]⟩, ⟨some 11, none, .ld (some 4) (.tmp 10)⟩, ⟨some 5, none, .eff (.new 30 [.int .i64 0, .int .i64 0, .int .i64 0, .int .i64 0]) []⟩, ⟨none, none, .eff (.st 4) [.tmp 5, .tmp 11]⟩]) [5])
  (.seq (.reg (straight [⟨some 12, none, .pur (.fla 0) [.tmp 5]⟩, ⟨some 13, none, .ld none (.tmp 12)⟩, ⟨some 14, none, .pur (.bin .eql) [.tmp 13, .const (.int .i64 0)]⟩, ⟨some 15, none, .pur .mov [.tmp 14]⟩, ⟨some 16, some (15, false), .pur (.fla 0) [.tmp 5]⟩, ⟨some 17, some (15, false), .ld none (.tmp 16)⟩, ⟨some 18, some (15, false), .pur (.bin .eql) [.tmp 17, .const (.int .i64 1)]⟩, ⟨some 19, none, .pur .pick [.tmp 15, .const (.bool true), .tmp 18]⟩]) [19])
  (.cond (.tmp 19) (.reg (straight [⟨some 20, none, .pur .mov [.tmp 3]⟩, ⟨some 21, none, .pur (.bin .add) [.tmp 20, .const (.int .i64 1)]⟩, ⟨some 3, none, .pur .mov [.tmp 21]⟩]) [3]) (.skip)))))
  (.reg (straight [⟨some 22, none, .pur (.bin .add) [.tmp 8, .const (.int .i64 1)]⟩, ⟨some 8, none, .pur .mov [.tmp 22]⟩]) [8])))
def S_audit_Idle : Fun := ⟨24, [2, 0, 8, 7, 9, 6, 5, 19, 3], [.tmp 2],
  .seq (.reg (straight [⟨some 2, none, .pur .mov [.const (.int .i64 0)]⟩]) [2])
  (.seq (.reg (straight [⟨some 3, none, .pur .mov [.const (.int .i64 0)]⟩]) [3])
  (.seq (.seq (.reg (straight [⟨some 6, none, .pur .mov [.tmp 0]⟩, ⟨some 7, none, .pur (.len false) [.tmp 6]⟩, ⟨some 8, none, .pur .mov [.const (.int .i64 0)]⟩]) [6, 7, 8])
  (.block 0 (.loop S_audit_Idle_L1)))
  (.seq (.reg (straight [⟨some 23, none, .pur .mov [.tmp 3]⟩, ⟨some 2, none, .pur .mov [.tmp 23]⟩]) [2])
  (.ret))))⟩
theorem K_audit_Idle : compF Try.prog 11 = some S_audit_Idle := by kernel_rfl

-- 12
def S_audit_Waiting_L1 : SCode :=
  .seq (.reg (straight [⟨some 9, none, .pur (.bin .lss) [.tmp 8, .tmp 7]⟩]) [9])
  (.seq (.cond (.tmp 9) (.skip) (.exit 0))
  (.seq (.block 1 (.seq (.reg (straight [⟨some 10, none, .pur (.ixa 1) [.tmp 6, .tmp 8]⟩, ⟨some 11, none, .ld none (.tmp 10)⟩, ⟨some 5, none, .pur .mov [.tmp 11]⟩]) [5])
  (.reg (straight [⟨some 12, none, .pur .mov [.tmp 3]⟩, ⟨some 13, none, .pur .mov [.tmp 5]⟩, ⟨some 14, none, .pur (.len false) [.tmp 13]⟩, ⟨some 15, none, .pur (.bin .add) [.tmp 12, .tmp 14]⟩, ⟨some 3, none, .pur .mov [.tmp 15]⟩]) [3])))
  (.reg (straight [⟨some 16, none, .pur (.bin .add) [.tmp 8, .const (.int .i64 1)]⟩, ⟨some 8, none, .pur .mov [.tmp 16]⟩]) [8])))
def S_audit_Waiting : Fun := ⟨18, [2, 0, 8, 7, 9, 6, 3, 5], [.tmp 2],
  .seq (.reg (straight [⟨some 2, none, .pur .mov [.const (.int .i64 0)]⟩]) [2])
  (.seq (.reg (straight [⟨some 3, none, .pur .mov [.const (.int .i64 0)]⟩]) [3])
  (.seq (.seq (.reg (straight [⟨some 6, none, .pur .mov [.tmp 0]⟩, ⟨some 7, none, .pur (.len false) [.tmp 6]⟩, ⟨some 8, none, .pur .mov [.const (.int .i64 0)]⟩]) [6, 7, 8])
  (.block 0 (.loop S_audit_Waiting_L1)))
  (.seq (.reg (straight [⟨some 17, none, .pur .mov [.tmp 3]⟩, ⟨some 2, none, .pur .mov [.tmp 17]⟩]) [2])
  (.ret))))⟩
theorem K_audit_Waiting : compF Try.prog 12 = some S_audit_Waiting := by kernel_rfl

-- 35
def S_audit_Check_L1 : SCode :=
  .seq (.reg (straight [⟨some 11, none, .pur (.bin .lss) [.tmp 10, .tmp 9]⟩]) [11])
  (.seq (.cond (.tmp 11) (.skip) (.exit 0))
  (.seq (.block 1 (.seq (.reg (straight [⟨some 12, none, .pur .mov [.tmp 10]⟩, ⟨some 4, none, .pur .mov [.tmp 12]⟩]) [4])
  (.reg (straight [⟨some 13, none, .pur .mov [.tmp 3]⟩, ⟨some 14, none, .pur .mov [.tmp 4]⟩, ⟨some 15, none, .pur .mov [.tmp 0]⟩, ⟨some 16, none, .pur .mov [.tmp 4]⟩, ⟨some 17, none, .pur (.bin .add) [.tmp 16, .const (.int .i64 1)]⟩, ⟨some 18, none, .eff (.call 61) [.tmp 15, .tmp 17]⟩, ⟨some 19, none, .pur (.ixa 1) [.tmp 13, .tmp 14]⟩, ⟨none, none, .eff (.st 1) [.tmp 19, .tmp 18]⟩]) [])))
  (.reg (straight [⟨some 20, none, .pur (.bin .add) [.tmp 10, .const (.int .i64 1)]⟩, ⟨some 10, none, .pur .mov [.tmp 20]⟩]) [10])))
def S_audit_Check : Fun := ⟨27, [2, 0, 6, 3, 10, 9, 11, 4], [.tmp 2],
  .seq (.reg (straight [⟨some 2, none, .pur .mov [.const (.int .i64 0)]⟩]) [2])
  (.seq (.seq (.reg (straight [⟨some 5, none, .pur .mov [.tmp 0]⟩, ⟨some 6, none, .pur (.eqn false 0) [.tmp 5]⟩]) [6])
  (.cond (.tmp 6) (.seq (.reg (straight [⟨some 2, none, .pur .mov [.const (.int .i64 7)]⟩]) [2])
  (.ret)) (.skip)))
  (.seq (.reg (straight [⟨some 7, none, .eff (.mks 3 1 8 [.int .i64 0]) [.const (.int .i64 256), .const (.int .i64 256)]⟩, ⟨some 3, none, .pur .mov [.tmp 7]⟩]) [3])
  (.seq (.seq (.reg (straight [⟨some 8, none, .pur .mov [.tmp 3]⟩, ⟨some 9, none, .pur (.len false) [.tmp 8]⟩, ⟨some 10, none, .pur .mov [.const (.int .i64 0)]⟩]) [9, 10])
  (.block 0 (.loop S_audit_Check_L1)))
  (.seq (.reg (straight [⟨some 21, none, .pur .mov [.tmp 0]⟩, ⟨some 22, none, .eff (.call 62) [.tmp 21]⟩, ⟨some 23, none, .pur .mov [.tmp 0]⟩, ⟨some 24, none, .eff (.call 63) [.tmp 23]⟩, ⟨some 25, none, .pur .mov [.tmp 3]⟩, ⟨some 26, none, .eff (.call 9) [.tmp 22, .tmp 24, .tmp 25]⟩, ⟨some 2, none, .pur .mov [.tmp 26]⟩]) [2])
  (.ret)))))⟩
theorem K_audit_Check : compF Try.prog 35 = some S_audit_Check := by kernel_rfl

-- 36
def S_audit_hands_hold : Fun := ⟨66, [4, 1, 3, 7, 16, 39, 0, 6, 5, 64], [.tmp 4],
  .seq (.reg (straight [⟨some 3, none, .eff (.box 30) [.tmp 1]⟩, ⟨some 4, none, .pur .mov [.const (.int .i64 0)]⟩]) [3, 4])
  (.seq (.block 0 (.seq (.reg (straight [⟨some 8, none, .pur (.fla 0) [.tmp 3]⟩, ⟨some 9, none, .ld none (.tmp 8)⟩, ⟨some 10, none, .pur (.bin .lss) [.tmp 9, .const (.int .i64 0)]⟩, ⟨some 11, none, .pur .mov [.tmp 10]⟩, ⟨some 12, some (11, false), .pur (.fla 0) [.tmp 3]⟩, ⟨some 13, some (11, false), .ld none (.tmp 12)⟩, ⟨some 14, some (11, false), .pur (.bin .gtr) [.tmp 13, .const (.int .i64 24)]⟩, ⟨some 15, none, .pur .pick [.tmp 11, .const (.bool true), .tmp 14]⟩, ⟨some 7, none, .pur .mov [.tmp 15]⟩]) [7])
  (.cond (.tmp 7) (.seq (.reg (straight [⟨some 4, none, .pur .mov [.const (.int .i64 3)]⟩]) [4])
  (.ret)) (.seq (.seq (.reg (straight [⟨some 17, none, .pur (.fla 1) [.tmp 3]⟩, ⟨some 18, none, .ld none (.tmp 17)⟩, ⟨some 19, none, .pur (.bin .neq) [.tmp 18, .const (.int .i64 0)]⟩, ⟨some 20, none, .pur .mov [.tmp 19]⟩, ⟨some 21, some (20, true), .pur (.fla 0) [.tmp 3]⟩, ⟨some 22, some (20, true), .ld none (.tmp 21)⟩, ⟨some 23, some (20, true), .eff (.call 64) [.tmp 22]⟩, ⟨some 24, none, .pur .pick [.tmp 20, .tmp 23, .const (.bool false)]⟩, ⟨some 16, none, .pur .mov [.tmp 24]⟩]) [16])
  (.cond (.tmp 16) (.skip) (.reg (straight [⟨some 25, none, .pur (.fla 1) [.tmp 3]⟩, ⟨some 26, none, .ld none (.tmp 25)⟩, ⟨some 27, none, .pur (.bin .eql) [.tmp 26, .const (.int .i64 0)]⟩, ⟨some 28, none, .pur .mov [.tmp 27]⟩, ⟨some 29, some (28, true), .pur (.fla 0) [.tmp 3]⟩, ⟨some 30, some (28, true), .ld none (.tmp 29)⟩, ⟨some 31, some (28, true), .eff (.call 64) [.tmp 30]⟩, ⟨some 32, some (28, true), .pur .not [.tmp 31]⟩, ⟨some 33, none, .pur .pick [.tmp 28, .tmp 32, .const (.bool false)]⟩, ⟨some 34, none, .pur .mov [.tmp 33]⟩, ⟨some 35, some (34, true), .pur (.fla 0) [.tmp 3]⟩, ⟨some 36, some (34, true), .ld none (.tmp 35)⟩, ⟨some 37, some (34, true), .pur (.bin .neq) [.tmp 36, .const (.int .i64 3)]⟩, ⟨some 38, none, .pur .pick [.tmp 34, .tmp 37, .const (.bool false)]⟩, ⟨some 16, none, .pur .mov [.tmp 38]⟩]) [16])))
  (.cond (.tmp 16) (.seq (.reg (straight [⟨some 4, none, .pur .mov [.const (.int .i64 8)]⟩]) [4])
  (.ret)) (.seq (.reg (straight [⟨some 40, none, .pur (.fla 1) [.tmp 3]⟩, ⟨some 41, none, .ld none (.tmp 40)⟩, ⟨some 42, none, .pur (.bin .eql) [.tmp 41, .const (.int .i64 0)]⟩, ⟨some 39, none, .pur .mov [.tmp 42]⟩]) [39])
  (.cond (.tmp 39) (.seq (.reg (straight [⟨some 4, none, .pur .mov [.const (.int .i64 0)]⟩]) [4])
  (.ret)) (.skip))))))))
  (.seq (.reg (straight [⟨some 44, none, .pur .mov [.tmp 0]⟩, ⟨some 45, none, .pur (.fla 1) [.tmp 3]⟩, ⟨some 46, none, .ld none (.tmp 45)⟩, ⟨some 47, none, .eff (.call 37) [.tmp 44, .tmp 46]⟩, ⟨some 43, none, .pur .mov [.tmp 47]⟩, ⟨some 48, none, .pur (.ext 0) [.tmp 43]⟩, ⟨some 49, none, .pur (.ext 1) [.tmp 43]⟩, ⟨some 5, none, .pur .mov [.tmp 48]⟩, ⟨some 6, none, .pur .mov [.tmp 49]⟩]) [5, 6])
  (.seq (.seq (.reg (straight [⟨some 50, none, .pur .mov [.tmp 6]⟩, ⟨some 51, none, .pur (.bin .eql) [.tmp 50, .const (.int .i64 0)]⟩, ⟨some 52, none, .pur .mov [.tmp 51]⟩, ⟨some 53, some (52, true), .pur (.fla 0) [.tmp 3]⟩, ⟨some 54, some (52, true), .ld none (.tmp 53)⟩, ⟨some 55, some (52, true), .pur (.bin .neq) [.tmp 54, .const (.int .i64 3)]⟩, ⟨some 56, none, .pur .pick [.tmp 52, .tmp 55, .const (.bool false)]⟩, ⟨some 57, none, .pur .mov [.tmp 56]⟩, ⟨some 58, some (57, true), .pur (.fla 0) [.tmp 3]⟩, ⟨some 59, some (57, true), .ld none (.tmp 58)⟩, ⟨some 60, some (57, true), .eff (.call 65) [.tmp 59]⟩, ⟨some 61, some (57, true), .pur .mov [.tmp 5]⟩, ⟨some 62, some (57, true), .pur (.bin .eql) [.tmp 61, .const (.int .i64 3)]⟩, ⟨some 63, some (57, true), .pur (.eqb true) [.tmp 60, .tmp 62]⟩, ⟨some 64, none, .pur .pick [.tmp 57, .tmp 63, .const (.bool false)]⟩]) [64])
  (.cond (.tmp 64) (.seq (.reg (straight [⟨some 4, none, .pur .mov [.const (.int .i64 5)]⟩]) [4])
  (.ret)) (.skip)))
  (.seq (.reg (straight [⟨some 65, none, .pur .mov [.tmp 6]⟩, ⟨some 4, none, .pur .mov [.tmp 65]⟩]) [4])
  (.ret)))))⟩
theorem K_audit_hands_hold : compF Try.prog 36 = some S_audit_hands_hold := by kernel_rfl

-- 37
def S_audit_hands_take : Fun := ⟨53, [4, 5, 1, 0, 6, 29], [.tmp 4, .tmp 5],
  .seq (.reg (straight [⟨some 4, none, .pur .mov [.const (.int .i64 0)]⟩, ⟨some 5, none, .pur .mov [.const (.int .i64 0)]⟩]) [4, 5])
  (.seq (.block 0 (.seq (.reg (straight [⟨some 7, none, .pur .mov [.tmp 1]⟩, ⟨some 8, none, .pur (.bin .lss) [.tmp 7, .const (.int .i64 1)]⟩, ⟨some 9, none, .pur .mov [.tmp 8]⟩, ⟨some 10, some (9, false), .pur .mov [.tmp 1]⟩, ⟨some 11, some (9, false), .pur .mov [.tmp 0]⟩, ⟨some 12, some (9, false), .pur .nilc [.tmp 11]⟩, ⟨some 13, some (9, false), .pur (.fla 0) [.tmp 12]⟩, ⟨some 14, some (9, false), .ld none (.tmp 13)⟩, ⟨some 15, some (9, false), .pur (.len false) [.tmp 14]⟩, ⟨some 16, some (9, false), .pur (.bin .gtr) [.tmp 10, .tmp 15]⟩, ⟨some 17, none, .pur .pick [.tmp 9, .const (.bool true), .tmp 16]⟩, ⟨some 18, none, .pur .mov [.tmp 17]⟩, ⟨some 19, some (18, false), .pur .mov [.tmp 0]⟩, ⟨some 20, some (18, false), .pur .nilc [.tmp 19]⟩, ⟨some 21, some (18, false), .pur (.fla 0) [.tmp 20]⟩, ⟨some 22, some (18, false), .ld none (.tmp 21)⟩, ⟨some 23, some (18, false), .pur .mov [.tmp 1]⟩, ⟨some 24, some (18, false), .pur (.bin .sub) [.tmp 23, .const (.int .i64 1)]⟩, ⟨some 25, some (18, false), .pur (.ixa 1) [.tmp 22, .tmp 24]⟩, ⟨some 26, some (18, false), .ld none (.tmp 25)⟩, ⟨some 27, some (18, false), .pur (.bin .eql) [.tmp 26, .const (.int .i64 0)]⟩, ⟨some 28, none, .pur .pick [.tmp 18, .const (.bool true), .tmp 27]⟩, ⟨some 6, none, .pur .mov [.tmp 28]⟩]) [6])
  (.cond (.tmp 6) (.seq (.reg (straight [⟨some 4, none, .pur .mov [.const (.int .i64 0)]⟩, ⟨some 5, none, .pur .mov [.const (.int .i64 7)]⟩]) [4, 5])
  (.ret)) (.seq (.reg (straight [⟨some 30, none, .pur .mov [.tmp 0]⟩, ⟨some 31, none, .pur .nilc [.tmp 30]⟩, ⟨some 32, none, .pur (.fla 1) [.tmp 31]⟩, ⟨some 33, none, .ld none (.tmp 32)⟩, ⟨some 34, none, .pur .mov [.tmp 1]⟩, ⟨some 35, none, .pur (.bin .sub) [.tmp 34, .const (.int .i64 1)]⟩, ⟨some 36, none, .pur (.ixa 1) [.tmp 33, .tmp 35]⟩, ⟨some 37, none, .ld none (.tmp 36)⟩, ⟨some 29, none, .pur .mov [.tmp 37]⟩]) [29])
  (.cond (.tmp 29) (.seq (.reg (straight [⟨some 4, none, .pur .mov [.const (.int .i64 0)]⟩, ⟨some 5, none, .pur .mov [.const (.int .i64 10)]⟩]) [4, 5])
  (.ret)) (.skip))))))
  (.seq (.reg (straight [⟨some 38, none, .pur .mov [.tmp 0]⟩, ⟨some 39, none, .pur .nilc [.tmp 38]⟩, ⟨some 40, none, .pur (.fla 1) [.tmp 39]⟩, ⟨some 41, none, .ld none (.tmp 40)⟩, ⟨some 42, none, .pur .mov [.tmp 1]⟩, ⟨some 43, none, .pur (.bin .sub) [.tmp 42, .const (.int .i64 1)]⟩, ⟨some 44, none, .pur (.ixa 1) [.tmp 41, .tmp 43]⟩, ⟨none, none, .eff (.st 1) [.tmp 44, .const (.bool true)]⟩]) [])
  (.seq (.reg (straight [⟨some 45, none, .pur .mov [.tmp 0]⟩, ⟨some 46, none, .pur .nilc [.tmp 45]⟩, ⟨some 47, none, .pur (.fla 0) [.tmp 46]⟩, ⟨some 48, none, .ld none (.tmp 47)⟩, ⟨some 49, none, .pur .mov [.tmp 1]⟩, ⟨some 50, none, .pur (.bin .sub) [.tmp 49, .const (.int .i64 1)]⟩, ⟨some 51, none, .pur (.ixa 1) [.tmp 48, .tmp 50]⟩, ⟨some 52, none, .ld none (.tmp 51)⟩, ⟨some 4, none, .pur .mov [.tmp 52]⟩, ⟨some 5, none, .pur .mov [.const (.int .i64 0)]⟩]) [4, 5])
  (.ret))))⟩
theorem K_audit_hands_take : compF Try.prog 37 = some S_audit_hands_take := by kernel_rfl

-- 38
def S_forebayref10_Has_L1 : SCode :=
  .seq (.seq (.reg (straight [⟨some 6, none, .pur .mov [.tmp 5]⟩, ⟨some 7, none, .pur .mov [.tmp 0]⟩, ⟨some 8, none, .pur (.len false) [.tmp 7]⟩, ⟨some 9, none, .pur (.bin .lss) [.tmp 6, .tmp 8]⟩]) [9])
  (.cond (.tmp 9) (.skip) (.exit 0)))
  (.seq (.block 1 (.seq (.reg (straight [⟨some 12, none, .pur .mov [.tmp 0]⟩, ⟨some 13, none, .pur .mov [.tmp 5]⟩, ⟨some 14, none, .pur (.ixa 1) [.tmp 12, .tmp 13]⟩, ⟨some 15, none, .ld none (.tmp 14)⟩, ⟨some 16, none, .pur .mov [.tmp 1]⟩, ⟨some 17, none, .pur (.bin .eql) [.tmp 15, .tmp 16]⟩]) [17])
  (.cond (.tmp 17) (.seq (.reg (straight [⟨some 4, none, .pur .mov [.const (.bool true)]⟩]) [4])
  (.ret)) (.skip))))
  (.reg (straight [⟨some 10, none, .pur .mov [.tmp 5]⟩, ⟨some 11, none, .pur (.bin .add) [.tmp 10, .const (.int .i64 1)]⟩, ⟨some 5, none, .pur .mov [.tmp 11]⟩]) [5]))
def S_forebayref10_Has : Fun := ⟨18, [4, 5, 0, 9, 1, 17], [.tmp 4],
  .seq (.reg (straight [⟨some 4, none, .pur .mov [.const (.bool false)]⟩]) [4])
  (.seq (.seq (.reg (straight [⟨some 5, none, .pur .mov [.const (.int .i64 0)]⟩]) [5])
  (.block 0 (.loop S_forebayref10_Has_L1)))
  (.seq (.reg (straight [⟨some 4, none, .pur .mov [.const (.bool false)]⟩]) [4])
  (.ret)))⟩
theorem K_forebayref10_Has : compF Try.prog 38 = some S_forebayref10_Has := by kernel_rfl

-- 64
def S_audit_empty : Fun := ⟨13, [2, 0, 3, 4], [.tmp 2],
  .seq (.reg (straight [⟨some 2, none, .pur .mov [.const (.bool false)]⟩]) [2])
  (.seq (.seq (.reg (straight [⟨some 3, none, .pur .mov [.tmp 0]⟩]) [3])
  (.block 0 (.seq (.seq (.reg (straight [⟨some 5, none, .pur (.bin .eql) [.tmp 3, .const (.int .i64 0)]⟩, ⟨some 4, none, .pur .mov [.tmp 5]⟩]) [4])
  (.cond (.tmp 4) (.skip) (.seq (.reg (straight [⟨some 6, none, .pur (.bin .eql) [.tmp 3, .const (.int .i64 1)]⟩, ⟨some 4, none, .pur .mov [.tmp 6]⟩]) [4])
  (.cond (.tmp 4) (.skip) (.seq (.reg (straight [⟨some 7, none, .pur (.bin .eql) [.tmp 3, .const (.int .i64 2)]⟩, ⟨some 4, none, .pur .mov [.tmp 7]⟩]) [4])
  (.cond (.tmp 4) (.skip) (.seq (.reg (straight [⟨some 8, none, .pur (.bin .eql) [.tmp 3, .const (.int .i64 7)]⟩, ⟨some 4, none, .pur .mov [.tmp 8]⟩]) [4])
  (.cond (.tmp 4) (.skip) (.seq (.reg (straight [⟨some 9, none, .pur (.bin .eql) [.tmp 3, .const (.int .i64 8)]⟩, ⟨some 4, none, .pur .mov [.tmp 9]⟩]) [4])
  (.cond (.tmp 4) (.skip) (.seq (.reg (straight [⟨some 10, none, .pur (.bin .eql) [.tmp 3, .const (.int .i64 13)]⟩, ⟨some 4, none, .pur .mov [.tmp 10]⟩]) [4])
  (.cond (.tmp 4) (.skip) (.seq (.reg (straight [⟨some 11, none, .pur (.bin .eql) [.tmp 3, .const (.int .i64 17)]⟩, ⟨some 4, none, .pur .mov [.tmp 11]⟩]) [4])
  (.cond (.tmp 4) (.skip) (.reg (straight [⟨some 12, none, .pur (.bin .eql) [.tmp 3, .const (.int .i64 20)]⟩, ⟨some 4, none, .pur .mov [.tmp 12]⟩]) [4])))))))))))))))
  (.cond (.tmp 4) (.seq (.reg (straight [⟨some 2, none, .pur .mov [.const (.bool true)]⟩]) [2])
  (.ret)) (.skip)))))
  (.seq (.reg (straight [⟨some 2, none, .pur .mov [.const (.bool false)]⟩]) [2])
  (.ret)))⟩
theorem K_audit_empty : compF Try.prog 64 = some S_audit_empty := by kernel_rfl

-- 65
def S_audit_looped : Fun := ⟨10, [2, 0], [.tmp 2],
  .seq (.reg (straight [⟨some 2, none, .pur .mov [.const (.bool false)]⟩]) [2])
  (.seq (.reg (straight [⟨some 3, none, .pur .mov [.tmp 0]⟩, ⟨some 4, none, .pur (.bin .geq) [.tmp 3, .const (.int .i64 18)]⟩, ⟨some 5, none, .pur .mov [.tmp 4]⟩, ⟨some 6, some (5, true), .pur .mov [.tmp 0]⟩, ⟨some 7, some (5, true), .eff (.call 64) [.tmp 6]⟩, ⟨some 8, some (5, true), .pur .not [.tmp 7]⟩, ⟨some 9, none, .pur .pick [.tmp 5, .tmp 8, .const (.bool false)]⟩, ⟨some 2, none, .pur .mov [.tmp 9]⟩]) [2])
  (.ret))⟩
theorem K_audit_looped : compF Try.prog 65 = some S_audit_looped := by kernel_rfl

end Go.Proofs.Ytefjlhancibhbaa
