import Derived.Test.YtjdpejggafefjaaDoorKj
import Derived.Test.YtjdpejggafefjaaDoorProg
import Derived.KernelRfl
namespace Go.Proofs.YtjdpejggafefjaaDoor
open Go Go.Kx Go.Proofs
set_option linter.unusedVariables false
set_option maxRecDepth 100000

-- 6
def S_forebaylaw05_WordsNumbers : Fun := ⟨55, [4, 12, 1, 15, 0, 5, 7, 6, 8, 9, 10], [.tmp 4],
  .seq (.reg (straight [⟨some 4, none, .pur .mov [.const (.bool false)]⟩]) [4])
  (.seq (.seq (.reg (straight [⟨some 11, none, .eff (.call 28) []⟩, ⟨some 12, none, .pur .not [.tmp 11]⟩]) [12])
  (.cond (.tmp 12) (.seq (.reg (straight [⟨some 4, none, .pur .mov [.const (.bool false)]⟩]) [4])
  (.ret)) (.skip)))
  (.seq (.seq (.reg (straight [⟨some 13, none, .pur .mov [.tmp 1]⟩, ⟨some 14, none, .pur (.len true) [.tmp 13]⟩, ⟨some 15, none, .pur (.bin .gtr) [.tmp 14, .const (.int .i64 1000)]⟩]) [15])
  (.cond (.tmp 15) (.seq (.reg (straight [⟨some 4, none, .pur .mov [.const (.bool true)]⟩]) [4])
  (.ret)) (.skip)))
  (.seq (.reg (straight [⟨some 17, none, .pur .mov [.tmp 1]⟩, ⟨some 18, none, .eff (.call 29) [.tmp 17]⟩, ⟨some 16, none, .pur .mov [.tmp 18]⟩, ⟨some 19, none, .pur (.ext 0) [.tmp 16]⟩, ⟨some 20, none, .pur (.ext 1) [.tmp 16]⟩, ⟨some 5, none, .pur .mov [.tmp 19]⟩, ⟨some 6, none, .pur .mov [.tmp 20]⟩]) [5, 6])
  (.seq (.reg (straight [⟨some 22, none, .pur .mov [.tmp 1]⟩, ⟨some 23, none, .eff (.call 30) [.tmp 22]⟩, ⟨some 21, none, .pur .mov [.tmp 23]⟩, ⟨some 24, none, .pur (.ext 0) [.tmp 21]⟩, ⟨some 25, none, .pur (.ext 1) [.tmp 21]⟩, ⟨some 7, none, .pur .mov [.tmp 24]⟩, ⟨some 8, none, .pur .mov [.tmp 25]⟩]) [7, 8])
  (.seq (.reg (straight [⟨some 27, none, .pur .mov [.tmp 0]⟩, ⟨some 28, none, .eff (.call 31) [.tmp 27]⟩, ⟨some 29, none, .eff (.call 29) [.tmp 28]⟩, ⟨some 26, none, .pur .mov [.tmp 29]⟩, ⟨some 30, none, .pur (.ext 0) [.tmp 26]⟩, ⟨some 31, none, .pur (.ext 1) [.tmp 26]⟩, ⟨some 9, none, .pur .mov [.tmp 30]⟩, ⟨some 10, none, .pur .mov [.tmp 31]⟩]) [9, 10])
  (.seq (.reg (straight [⟨some 32, none, .pur .mov [.tmp 0]⟩, ⟨some 33, none, .eff (.call 31) [.tmp 32]⟩, ⟨some 34, none, .pur .mov [.tmp 0]⟩, ⟨some 35, none, .eff (.call 32) [.tmp 34]⟩, ⟨some 36, none, .pur (.bin .eql) [.tmp 33, .tmp 35]⟩, ⟨some 37, none, .pur .mov [.tmp 36]⟩, ⟨some 38, some (37, true), .pur .mov [.tmp 5]⟩, ⟨some 39, some (37, true), .pur .mov [.tmp 7]⟩, ⟨some 40, some (37, true), .pur (.bin .eql) [.tmp 38, .tmp 39]⟩, ⟨some 41, none, .pur .pick [.tmp 37, .tmp 40, .const (.bool false)]⟩, ⟨some 42, none, .pur .mov [.tmp 41]⟩, ⟨some 43, some (42, true), .pur .mov [.tmp 6]⟩, ⟨some 44, some (42, true), .pur .mov [.tmp 8]⟩, ⟨some 45, some (42, true), .pur (.eqb false) [.tmp 43, .tmp 44]⟩, ⟨some 46, none, .pur .pick [.tmp 42, .tmp 45, .const (.bool false)]⟩, ⟨some 47, none, .pur .mov [.tmp 46]⟩, ⟨some 48, some (47, true), .pur .mov [.tmp 9]⟩, ⟨some 49, some (47, true), .pur .mov [.tmp 0]⟩, ⟨some 50, some (47, true), .pur (.bin .eql) [.tmp 48, .tmp 49]⟩, ⟨some 51, none, .pur .pick [.tmp 47, .tmp 50, .const (.bool false)]⟩, ⟨some 52, none, .pur .mov [.tmp 51]⟩, ⟨some 53, some (52, true), .pur .mov [.tmp 10]⟩, ⟨some 54, none, .pur .pick [.tmp 52, .tmp 53, .const (.bool false)]⟩, ⟨some 4, none, .pur .mov [.tmp 54]⟩]) [4])
  (.ret)))))))⟩
theorem K_forebaylaw05_WordsNumbers : compF Tryd.prog 6 = some S_forebaylaw05_WordsNumbers := by kernel_rfl

-- 7
def S_forebaylaw05_WordsLists : Fun := ⟨63, [4, 13, 1, 0, 21, 9, 5, 7, 6, 8, 11, 10], [.tmp 4],
  .seq (.reg (straight [⟨some 4, none, .pur .mov [.const (.bool false)]⟩]) [4])
  (.seq (.seq (.reg (straight [⟨some 12, none, .eff (.call 28) []⟩, ⟨some 13, none, .pur .not [.tmp 12]⟩]) [13])
  (.cond (.tmp 13) (.seq (.reg (straight [⟨some 4, none, .pur .mov [.const (.bool false)]⟩]) [4])
  (.ret)) (.skip)))
  (.seq (.seq (.reg (straight [⟨some 14, none, .pur .mov [.tmp 1]⟩, ⟨some 15, none, .pur (.len true) [.tmp 14]⟩, ⟨some 16, none, .pur (.bin .gtr) [.tmp 15, .const (.int .i64 1000)]⟩, ⟨some 17, none, .pur .mov [.tmp 16]⟩, ⟨some 18, some (17, false), .pur .mov [.tmp 0]⟩, ⟨some 19, some (17, false), .pur (.len false) [.tmp 18]⟩, ⟨some 20, some (17, false), .pur (.bin .gtr) [.tmp 19, .const (.int .i64 200)]⟩, ⟨some 21, none, .pur .pick [.tmp 17, .const (.bool true), .tmp 20]⟩]) [21])
  (.cond (.tmp 21) (.seq (.reg (straight [⟨some 4, none, .pur .mov [.const (.bool true)]⟩]) [4])
  (.ret)) (.skip)))
  (.seq (.reg (straight [⟨some 23, none, .pur .mov [.tmp 1]⟩, ⟨some 24, none, .eff (.call 33) [.tmp 23]⟩, ⟨some 22, none, .pur .mov [.tmp 24]⟩, ⟨some 25, none, .pur (.ext 0) [.tmp 22]⟩, ⟨some 26, none, .pur (.ext 1) [.tmp 22]⟩, ⟨some 5, none, .pur .mov [.tmp 25]⟩, ⟨some 6, none, .pur .mov [.tmp 26]⟩]) [5, 6])
  (.seq (.reg (straight [⟨some 28, none, .pur .mov [.tmp 1]⟩, ⟨some 29, none, .eff (.call 34) [.tmp 28]⟩, ⟨some 27, none, .pur .mov [.tmp 29]⟩, ⟨some 30, none, .pur (.ext 0) [.tmp 27]⟩, ⟨some 31, none, .pur (.ext 1) [.tmp 27]⟩, ⟨some 7, none, .pur .mov [.tmp 30]⟩, ⟨some 8, none, .pur .mov [.tmp 31]⟩]) [7, 8])
  (.seq (.reg (straight [⟨some 32, none, .eff (.bsl 3 1) []⟩, ⟨some 33, none, .pur .mov [.tmp 0]⟩, ⟨some 34, none, .eff (.app 3 1 8 [.int .i64 0]) [.tmp 32, .tmp 33]⟩, ⟨some 35, none, .eff (.call 35) [.tmp 34]⟩, ⟨some 9, none, .pur .mov [.tmp 35]⟩]) [9])
  (.seq (.reg (straight [⟨some 37, none, .pur .mov [.tmp 9]⟩, ⟨some 38, none, .eff (.call 33) [.tmp 37]⟩, ⟨some 36, none, .pur .mov [.tmp 38]⟩, ⟨some 39, none, .pur (.ext 0) [.tmp 36]⟩, ⟨some 40, none, .pur (.ext 1) [.tmp 36]⟩, ⟨some 10, none, .pur .mov [.tmp 39]⟩, ⟨some 11, none, .pur .mov [.tmp 40]⟩]) [10, 11])
  (.seq (.reg (straight [⟨some 41, none, .pur .mov [.tmp 5]⟩, ⟨some 42, none, .pur .mov [.tmp 7]⟩, ⟨some 43, none, .eff (.call 36) [.tmp 41, .tmp 42]⟩, ⟨some 44, none, .pur .mov [.tmp 43]⟩, ⟨some 45, some (44, true), .pur .mov [.tmp 6]⟩, ⟨some 46, some (44, true), .pur .mov [.tmp 8]⟩, ⟨some 47, some (44, true), .pur (.eqb false) [.tmp 45, .tmp 46]⟩, ⟨some 48, none, .pur .pick [.tmp 44, .tmp 47, .const (.bool false)]⟩, ⟨some 49, none, .pur .mov [.tmp 48]⟩, ⟨some 50, some (49, true), .pur .mov [.tmp 9]⟩, ⟨some 51, some (49, true), .pur .mov [.tmp 0]⟩, ⟨some 52, some (49, true), .eff (.call 37) [.tmp 51]⟩, ⟨some 53, some (49, true), .pur (.bin .eql) [.tmp 50, .tmp 52]⟩, ⟨some 54, none, .pur .pick [.tmp 49, .tmp 53, .const (.bool false)]⟩, ⟨some 55, none, .pur .mov [.tmp 54]⟩, ⟨some 56, some (55, true), .pur .mov [.tmp 11]⟩, ⟨some 57, none, .pur .pick [.tmp 55, .tmp 56, .const (.bool false)]⟩, ⟨some 58, none, .pur .mov [.tmp 57]⟩, ⟨some 59, some (58, true), .pur .mov [.tmp 10]⟩, ⟨some 60, some (58, true), .pur .mov [.tmp 0]⟩, ⟨some 61, some (58, true), .eff (.call 36) [.tmp 59, .tmp 60]⟩, ⟨some 62, none, .pur .pick [.tmp 58, .tmp 61, .const (.bool false)]⟩, ⟨some 4, none, .pur .mov [.tmp 62]⟩]) [4])
  (.ret))))))))⟩
theorem K_forebaylaw05_WordsLists : compF Tryd.prog 7 = some S_forebaylaw05_WordsLists := by kernel_rfl

-- 10
def S_forebaylaw05_WordsLines_L1 : SCode :=
  .seq (.seq (.reg (straight [⟨some 16, none, .pur .mov [.tmp 5]⟩, ⟨some 17, none, .pur .mov [.tmp 1]⟩, ⟨some 18, none, .pur (.len false) [.tmp 17]⟩, ⟨some 19, none, .pur (.bin .lss) [.tmp 16, .tmp 18]⟩]) [19])
  (.cond (.tmp 19) (.skip) (.exit 0)))
  (.seq (.block 1 (.seq (.reg (straight [⟨some 22, none, .pur .mov [.tmp 1]⟩, ⟨some 23, none, .pur .mov [.tmp 5]⟩, ⟨some 24, none, .pur (.ixa 1) [.tmp 22, .tmp 23]⟩, ⟨some 25, none, .ld none (.tmp 24)⟩, ⟨some 26, none, .pur (.len true) [.tmp 25]⟩, ⟨some 27, none, .pur (.bin .gtr) [.tmp 26, .const (.int .i64 200)]⟩]) [27])
  (.cond (.tmp 27) (.seq (.reg (straight [⟨some 4, none, .pur .mov [.const (.bool true)]⟩]) [4])
  (.ret)) (.skip))))
  (.reg (straight [⟨some 20, none, .pur .mov [.tmp 5]⟩, ⟨some 21, none, .pur (.bin .add) [.tmp 20, .const (.int .i64 1)]⟩, ⟨some 5, none, .pur .mov [.tmp 21]⟩]) [5]))
def S_forebaylaw05_WordsLines : Fun := ⟨49, [4, 7, 0, 1, 15, 5, 19, 27], [.tmp 4],
  .seq (.reg (straight [⟨some 4, none, .pur .mov [.const (.bool false)]⟩]) [4])
  (.seq (.seq (.reg (straight [⟨some 6, none, .eff (.call 28) []⟩, ⟨some 7, none, .pur .not [.tmp 6]⟩]) [7])
  (.cond (.tmp 7) (.seq (.reg (straight [⟨some 4, none, .pur .mov [.const (.bool false)]⟩]) [4])
  (.ret)) (.skip)))
  (.seq (.seq (.reg (straight [⟨some 8, none, .pur .mov [.tmp 0]⟩, ⟨some 9, none, .pur (.len true) [.tmp 8]⟩, ⟨some 10, none, .pur (.bin .gtr) [.tmp 9, .const (.int .i64 3000)]⟩, ⟨some 11, none, .pur .mov [.tmp 10]⟩, ⟨some 12, some (11, false), .pur .mov [.tmp 1]⟩, ⟨some 13, some (11, false), .pur (.len false) [.tmp 12]⟩, ⟨some 14, some (11, false), .pur (.bin .gtr) [.tmp 13, .const (.int .i64 200)]⟩, ⟨some 15, none, .pur .pick [.tmp 11, .const (.bool true), .tmp 14]⟩]) [15])
  (.cond (.tmp 15) (.seq (.reg (straight [⟨some 4, none, .pur .mov [.const (.bool true)]⟩]) [4])
  (.ret)) (.skip)))
  (.seq (.seq (.reg (straight [⟨some 5, none, .pur .mov [.const (.int .i64 0)]⟩]) [5])
  (.block 0 (.loop S_forebaylaw05_WordsLines_L1)))
  (.seq (.reg (straight [⟨some 28, none, .pur .mov [.tmp 0]⟩, ⟨some 29, none, .eff (.call 47) [.tmp 28]⟩, ⟨some 30, none, .pur .mov [.tmp 0]⟩, ⟨some 31, none, .eff (.call 27) [.tmp 30]⟩, ⟨some 32, none, .eff (.call 46) [.tmp 29, .tmp 31]⟩, ⟨some 33, none, .pur .mov [.tmp 32]⟩, ⟨some 34, some (33, true), .pur .mov [.tmp 0]⟩, ⟨some 35, some (33, true), .eff (.call 48) [.tmp 34]⟩, ⟨some 36, some (33, true), .pur .mov [.tmp 0]⟩, ⟨some 37, some (33, true), .eff (.call 26) [.tmp 36]⟩, ⟨some 38, some (33, true), .eff (.call 46) [.tmp 35, .tmp 37]⟩, ⟨some 39, none, .pur .pick [.tmp 33, .tmp 38, .const (.bool false)]⟩, ⟨some 40, none, .pur .mov [.tmp 39]⟩, ⟨some 41, some (40, true), .eff (.bsl 9 1) []⟩, ⟨some 42, some (40, true), .pur .mov [.tmp 1]⟩, ⟨some 43, some (40, true), .eff (.app 9 1 16 [.string ⟨#[]⟩]) [.tmp 41, .tmp 42]⟩, ⟨some 44, some (40, true), .eff (.call 49) [.tmp 43]⟩, ⟨some 45, some (40, true), .pur .mov [.tmp 1]⟩, ⟨some 46, some (40, true), .eff (.call 50) [.tmp 45]⟩, ⟨some 47, some (40, true), .pur (.bin .eql) [.tmp 44, .tmp 46]⟩, ⟨some 48, none, .pur .pick [.tmp 40, .tmp 47, .const (.bool false)]⟩, ⟨some 4, none, .pur .mov [.tmp 48]⟩]) [4])
  (.ret)))))⟩
theorem K_forebaylaw05_WordsLines : compF Tryd.prog 10 = some S_forebaylaw05_WordsLines := by kernel_rfl

-- 11
def S_forebaylaw05_WordsBack_L1 : SCode :=
  .seq (.seq (.reg (straight [⟨some 13, none, .pur .mov [.tmp 5]⟩, ⟨some 14, none, .pur .mov [.tmp 0]⟩, ⟨some 15, none, .pur (.len false) [.tmp 14]⟩, ⟨some 16, none, .pur (.bin .lss) [.tmp 13, .tmp 15]⟩]) [16])
  (.cond (.tmp 16) (.skip) (.exit 0)))
  (.seq (.block 1 (.seq (.seq (.reg (straight [⟨some 19, none, .pur .mov [.tmp 0]⟩, ⟨some 20, none, .pur .mov [.tmp 5]⟩, ⟨some 21, none, .pur (.ixa 1) [.tmp 19, .tmp 20]⟩, ⟨some 22, none, .ld none (.tmp 21)⟩, ⟨some 23, none, .pur (.len true) [.tmp 22]⟩, ⟨some 24, none, .pur (.bin .gtr) [.tmp 23, .const (.int .i64 100)]⟩]) [24])
  (.cond (.tmp 24) (.seq (.reg (straight [⟨some 2, none, .pur .mov [.const (.bool true)]⟩]) [2])
  (.ret)) (.skip)))
  (.seq (.reg (.run ⟨some 25, none, .pur .mov [.tmp 0]⟩ (.run ⟨some 26, none, .pur .mov [.tmp 5]⟩ (.run ⟨some 27, none, .pur (.ixa 1) [.tmp 25, .tmp 26]⟩ (.run ⟨some 28, none, .ld none (.tmp 27)⟩ (.run ⟨some 30, none, .pur .mov [.tmp 0]⟩ (.run ⟨some 31, none, .pur .mov [.tmp 5]⟩ (.run ⟨some 32, none, .pur (.ixa 1) [.tmp 30, .tmp 31]⟩ (.run ⟨some 33, none, .ld none (.tmp 32)⟩ (.eff ⟨some 29, none, .eff (.call 27) [.tmp 28]⟩ [⟨some 33, none, .ld none (.tmp 32)⟩] (.eff ⟨some 34, none, .eff (.call 26) [.tmp 33]⟩ [] (.run ⟨some 6, none, .pur .mov [.tmp 29]⟩ (.run ⟨some 7, none, .pur .mov [.tmp 34]⟩ .done)))))))))))) [6, 7])
  (.seq (.reg (straight [⟨some 35, none, .pur .mov [.tmp 6]⟩, ⟨some 36, none, .pur (.len false) [.tmp 35]⟩, ⟨some 37, none, .pur (.bin .eql) [.tmp 36, .const (.int .i64 1)]⟩, ⟨some 38, none, .pur .mov [.tmp 37]⟩, ⟨some 39, some (38, true), .pur .mov [.tmp 6]⟩, ⟨some 40, some (38, true), .pur (.ixa 1) [.tmp 39, .const (.int .i64 0)]⟩, ⟨some 41, some (38, true), .ld none (.tmp 40)⟩, ⟨some 42, some (38, true), .pur .mov [.tmp 0]⟩, ⟨some 43, some (38, true), .pur .mov [.tmp 5]⟩, ⟨some 44, some (38, true), .pur (.ixa 1) [.tmp 42, .tmp 43]⟩, ⟨some 45, some (38, true), .ld none (.tmp 44)⟩, ⟨some 46, some (38, true), .pur (.bin .eql) [.tmp 41, .tmp 45]⟩, ⟨some 47, none, .pur .pick [.tmp 38, .tmp 46, .const (.bool false)]⟩, ⟨some 48, none, .pur .mov [.tmp 47]⟩, ⟨some 49, some (48, true), .pur .mov [.tmp 7]⟩, ⟨some 50, some (48, true), .pur (.len false) [.tmp 49]⟩, ⟨some 51, some (48, true), .pur (.bin .eql) [.tmp 50, .const (.int .i64 1)]⟩, ⟨some 52, none, .pur .pick [.tmp 48, .tmp 51, .const (.bool false)]⟩, ⟨some 53, none, .pur .mov [.tmp 52]⟩, ⟨some 54, some (53, true), .pur .mov [.tmp 7]⟩, ⟨some 55, some (53, true), .pur (.ixa 1) [.tmp 54, .const (.int .i64 0)]⟩, ⟨some 56, some (53, true), .ld none (.tmp 55)⟩, ⟨some 57, some (53, true), .pur .mov [.tmp 0]⟩, ⟨some 58, some (53, true), .pur .mov [.tmp 5]⟩, ⟨some 59, some (53, true), .pur (.ixa 1) [.tmp 57, .tmp 58]⟩, ⟨some 60, some (53, true), .ld none (.tmp 59)⟩, ⟨some 61, some (53, true), .pur (.bin .eql) [.tmp 56, .tmp 60]⟩, ⟨some 62, none, .pur .pick [.tmp 53, .tmp 61, .const (.bool false)]⟩]) [62])
  (.cond (.tmp 62) (.seq (.reg (straight [⟨some 63, none, .pur .mov [.tmp 3]⟩, ⟨some 64, none, .pur .mov [.tmp 0]⟩, ⟨some 65, none, .pur .mov [.tmp 5]⟩, ⟨some 66, none, .pur (.ixa 1) [.tmp 64, .tmp 65]⟩, ⟨some 67, none, .ld none (.tmp 66)⟩, ⟨some 68, none, .eff (.bsl 9 1) [.tmp 67]⟩, ⟨some 69, none, .eff (.app 9 1 16 [.string ⟨#[]⟩]) [.tmp 63, .tmp 68]⟩, ⟨some 3, none, .pur .mov [.tmp 69]⟩]) [3])
  (.reg (straight [⟨some 70, none, .pur .mov [.tmp 4]⟩, ⟨some 71, none, .pur .mov [.tmp 0]⟩, ⟨some 72, none, .pur .mov [.tmp 5]⟩, ⟨some 73, none, .pur (.ixa 1) [.tmp 71, .tmp 72]⟩, ⟨some 74, none, .ld none (.tmp 73)⟩, ⟨some 75, none, .pur (.bin .add) [.tmp 70, .tmp 74]⟩, ⟨some 76, none, .pur (.bin .add) [.tmp 75, .const (.string ⟨#[10]⟩)]⟩, ⟨some 4, none, .pur .mov [.tmp 76]⟩]) [4])) (.skip))))))
  (.reg (straight [⟨some 17, none, .pur .mov [.tmp 5]⟩, ⟨some 18, none, .pur (.bin .add) [.tmp 17, .const (.int .i64 1)]⟩, ⟨some 5, none, .pur .mov [.tmp 18]⟩]) [5]))
def S_forebaylaw05_WordsBack : Fun := ⟨90, [2, 9, 0, 12, 5, 16, 24, 6, 7, 62, 3, 4], [.tmp 2],
  .seq (.reg (straight [⟨some 2, none, .pur .mov [.const (.bool false)]⟩]) [2])
  (.seq (.seq (.reg (straight [⟨some 8, none, .eff (.call 28) []⟩, ⟨some 9, none, .pur .not [.tmp 8]⟩]) [9])
  (.cond (.tmp 9) (.seq (.reg (straight [⟨some 2, none, .pur .mov [.const (.bool false)]⟩]) [2])
  (.ret)) (.skip)))
  (.seq (.seq (.reg (straight [⟨some 10, none, .pur .mov [.tmp 0]⟩, ⟨some 11, none, .pur (.len false) [.tmp 10]⟩, ⟨some 12, none, .pur (.bin .gtr) [.tmp 11, .const (.int .i64 100)]⟩]) [12])
  (.cond (.tmp 12) (.seq (.reg (straight [⟨some 2, none, .pur .mov [.const (.bool true)]⟩]) [2])
  (.ret)) (.skip)))
  (.seq (.reg (straight [⟨some 3, none, .pur .mov [.const (.slice none 0 0)]⟩]) [3])
  (.seq (.reg (straight [⟨some 4, none, .pur .mov [.const (.string ⟨#[]⟩)]⟩]) [4])
  (.seq (.seq (.reg (straight [⟨some 5, none, .pur .mov [.const (.int .i64 0)]⟩]) [5])
  (.block 0 (.loop S_forebaylaw05_WordsBack_L1)))
  (.seq (.reg (straight [⟨some 77, none, .eff (.bsl 9 1) []⟩, ⟨some 78, none, .pur .mov [.tmp 3]⟩, ⟨some 79, none, .eff (.app 9 1 16 [.string ⟨#[]⟩]) [.tmp 77, .tmp 78]⟩, ⟨some 80, none, .eff (.call 49) [.tmp 79]⟩, ⟨some 81, none, .eff (.call 47) [.tmp 80]⟩, ⟨some 82, none, .pur .mov [.tmp 3]⟩, ⟨some 83, none, .eff (.call 46) [.tmp 81, .tmp 82]⟩, ⟨some 84, none, .pur .mov [.tmp 83]⟩, ⟨some 85, some (84, true), .pur .mov [.tmp 4]⟩, ⟨some 86, some (84, true), .eff (.call 48) [.tmp 85]⟩, ⟨some 87, some (84, true), .pur .mov [.tmp 3]⟩, ⟨some 88, some (84, true), .eff (.call 46) [.tmp 86, .tmp 87]⟩, ⟨some 89, none, .pur .pick [.tmp 84, .tmp 88, .const (.bool false)]⟩, ⟨some 2, none, .pur .mov [.tmp 89]⟩]) [2])
  (.ret)))))))⟩
theorem K_forebaylaw05_WordsBack : compF Tryd.prog 11 = some S_forebaylaw05_WordsBack := by kernel_rfl

-- 26
def S_forebayref05_Lines_L1 : SCode :=
  .seq (.seq (.reg (straight [⟨some 6, none, .pur .mov [.tmp 5]⟩, ⟨some 7, none, .pur .mov [.tmp 0]⟩, ⟨some 8, none, .pur (.len true) [.tmp 7]⟩, ⟨some 9, none, .pur (.bin .lss) [.tmp 6, .tmp 8]⟩]) [9])
  (.cond (.tmp 9) (.skip) (.exit 0)))
  (.seq (.block 1 (.seq (.seq (.reg (straight [⟨some 12, none, .pur .mov [.tmp 0]⟩, ⟨some 13, none, .pur .mov [.tmp 5]⟩, ⟨some 14, none, .pur .ixs [.tmp 12, .tmp 13]⟩, ⟨some 15, none, .pur (.bin .eql) [.tmp 14, .const (.int .u8 10)]⟩]) [15])
  (.cond (.tmp 15) (.seq (.reg (straight [⟨some 16, none, .pur .mov [.tmp 3]⟩, ⟨some 17, none, .pur .mov [.tmp 4]⟩, ⟨some 18, none, .eff (.bsl 9 1) [.tmp 17]⟩, ⟨some 19, none, .eff (.app 9 1 16 [.string ⟨#[]⟩]) [.tmp 16, .tmp 18]⟩, ⟨some 3, none, .pur .mov [.tmp 19]⟩]) [3])
  (.seq (.reg (straight [⟨some 4, none, .pur .mov [.const (.string ⟨#[]⟩)]⟩]) [4])
  (.exit 1))) (.skip)))
  (.reg (straight [⟨some 20, none, .pur .mov [.tmp 4]⟩, ⟨some 21, none, .pur .mov [.tmp 0]⟩, ⟨some 22, none, .pur .mov [.tmp 5]⟩, ⟨some 23, none, .pur .mov [.tmp 5]⟩, ⟨some 24, none, .pur (.bin .add) [.tmp 23, .const (.int .i64 1)]⟩, ⟨some 25, none, .pur (.sls true true) [.tmp 21, .tmp 22, .tmp 24]⟩, ⟨some 26, none, .pur (.bin .add) [.tmp 20, .tmp 25]⟩, ⟨some 4, none, .pur .mov [.tmp 26]⟩]) [4])))
  (.reg (straight [⟨some 10, none, .pur .mov [.tmp 5]⟩, ⟨some 11, none, .pur (.bin .add) [.tmp 10, .const (.int .i64 1)]⟩, ⟨some 5, none, .pur .mov [.tmp 11]⟩]) [5]))
def S_forebayref05_Lines : Fun := ⟨34, [2, 5, 0, 9, 15, 3, 4, 28], [.tmp 2],
  .seq (.reg (straight [⟨some 2, none, .pur .mov [.const (.slice none 0 0)]⟩]) [2])
  (.seq (.reg (straight [⟨some 3, none, .pur .mov [.const (.slice none 0 0)]⟩]) [3])
  (.seq (.reg (straight [⟨some 4, none, .pur .mov [.const (.string ⟨#[]⟩)]⟩]) [4])
  (.seq (.seq (.reg (straight [⟨some 5, none, .pur .mov [.const (.int .i64 0)]⟩]) [5])
  (.block 0 (.loop S_forebayref05_Lines_L1)))
  (.seq (.seq (.reg (straight [⟨some 27, none, .pur .mov [.tmp 4]⟩, ⟨some 28, none, .pur (.bin .neq) [.tmp 27, .const (.string ⟨#[]⟩)]⟩]) [28])
  (.cond (.tmp 28) (.reg (straight [⟨some 29, none, .pur .mov [.tmp 3]⟩, ⟨some 30, none, .pur .mov [.tmp 4]⟩, ⟨some 31, none, .eff (.bsl 9 1) [.tmp 30]⟩, ⟨some 32, none, .eff (.app 9 1 16 [.string ⟨#[]⟩]) [.tmp 29, .tmp 31]⟩, ⟨some 3, none, .pur .mov [.tmp 32]⟩]) [3]) (.skip)))
  (.seq (.reg (straight [⟨some 33, none, .pur .mov [.tmp 3]⟩, ⟨some 2, none, .pur .mov [.tmp 33]⟩]) [2])
  (.ret))))))⟩
theorem K_forebayref05_Lines : compF Tryd.prog 26 = some S_forebayref05_Lines := by kernel_rfl

-- 27
def S_forebayref05_Fields_L1 : SCode :=
  .seq (.seq (.reg (straight [⟨some 6, none, .pur .mov [.tmp 5]⟩, ⟨some 7, none, .pur .mov [.tmp 0]⟩, ⟨some 8, none, .pur (.len true) [.tmp 7]⟩, ⟨some 9, none, .pur (.bin .leq) [.tmp 6, .tmp 8]⟩]) [9])
  (.cond (.tmp 9) (.skip) (.exit 0)))
  (.seq (.block 1 (.seq (.seq (.reg (straight [⟨some 12, none, .pur .mov [.tmp 5]⟩, ⟨some 13, none, .pur .mov [.tmp 0]⟩, ⟨some 14, none, .pur (.len true) [.tmp 13]⟩, ⟨some 15, none, .pur (.bin .lss) [.tmp 12, .tmp 14]⟩, ⟨some 16, none, .pur .mov [.tmp 15]⟩, ⟨some 17, some (16, true), .pur .mov [.tmp 0]⟩, ⟨some 18, some (16, true), .pur .mov [.tmp 5]⟩, ⟨some 19, some (16, true), .pur .ixs [.tmp 17, .tmp 18]⟩, ⟨some 20, some (16, true), .pur (.bin .neq) [.tmp 19, .const (.int .u8 32)]⟩, ⟨some 21, none, .pur .pick [.tmp 16, .tmp 20, .const (.bool false)]⟩]) [21])
  (.cond (.tmp 21) (.seq (.reg (straight [⟨some 22, none, .pur .mov [.tmp 4]⟩, ⟨some 23, none, .pur .mov [.tmp 0]⟩, ⟨some 24, none, .pur .mov [.tmp 5]⟩, ⟨some 25, none, .pur .mov [.tmp 5]⟩, ⟨some 26, none, .pur (.bin .add) [.tmp 25, .const (.int .i64 1)]⟩, ⟨some 27, none, .pur (.sls true true) [.tmp 23, .tmp 24, .tmp 26]⟩, ⟨some 28, none, .pur (.bin .add) [.tmp 22, .tmp 27]⟩, ⟨some 4, none, .pur .mov [.tmp 28]⟩]) [4])
  (.exit 1)) (.skip)))
  (.seq (.seq (.reg (straight [⟨some 29, none, .pur .mov [.tmp 4]⟩, ⟨some 30, none, .pur (.bin .neq) [.tmp 29, .const (.string ⟨#[]⟩)]⟩]) [30])
  (.cond (.tmp 30) (.reg (straight [⟨some 31, none, .pur .mov [.tmp 3]⟩, ⟨some 32, none, .pur .mov [.tmp 4]⟩, ⟨some 33, none, .eff (.bsl 9 1) [.tmp 32]⟩, ⟨some 34, none, .eff (.app 9 1 16 [.string ⟨#[]⟩]) [.tmp 31, .tmp 33]⟩, ⟨some 3, none, .pur .mov [.tmp 34]⟩]) [3]) (.skip)))
  (.reg (straight [⟨some 4, none, .pur .mov [.const (.string ⟨#[]⟩)]⟩]) [4]))))
  (.reg (straight [⟨some 10, none, .pur .mov [.tmp 5]⟩, ⟨some 11, none, .pur (.bin .add) [.tmp 10, .const (.int .i64 1)]⟩, ⟨some 5, none, .pur .mov [.tmp 11]⟩]) [5]))
def S_forebayref05_Fields : Fun := ⟨36, [2, 5, 0, 9, 21, 4, 30, 3], [.tmp 2],
  .seq (.reg (straight [⟨some 2, none, .pur .mov [.const (.slice none 0 0)]⟩]) [2])
  (.seq (.reg (straight [⟨some 3, none, .pur .mov [.const (.slice none 0 0)]⟩]) [3])
  (.seq (.reg (straight [⟨some 4, none, .pur .mov [.const (.string ⟨#[]⟩)]⟩]) [4])
  (.seq (.seq (.reg (straight [⟨some 5, none, .pur .mov [.const (.int .i64 0)]⟩]) [5])
  (.block 0 (.loop S_forebayref05_Fields_L1)))
  (.seq (.reg (straight [⟨some 35, none, .pur .mov [.tmp 3]⟩, ⟨some 2, none, .pur .mov [.tmp 35]⟩]) [2])
  (.ret)))))⟩
theorem K_forebayref05_Fields : compF Tryd.prog 27 = some S_forebayref05_Fields := by kernel_rfl

-- 28
def S_forebaylaw05_works : Fun := ⟨40, [0, 1, 2, 4, 3], [.tmp 0],
  .seq (.reg (straight [⟨some 0, none, .pur .mov [.const (.bool false)]⟩]) [0])
  (.seq (.reg (straight [⟨some 6, none, .eff (.call 29) [.const (.string ⟨#[45, 52, 55]⟩)]⟩, ⟨some 5, none, .pur .mov [.tmp 6]⟩, ⟨some 7, none, .pur (.ext 0) [.tmp 5]⟩, ⟨some 8, none, .pur (.ext 1) [.tmp 5]⟩, ⟨some 1, none, .pur .mov [.tmp 7]⟩, ⟨some 2, none, .pur .mov [.tmp 8]⟩]) [1, 2])
  (.seq (.reg (straight [⟨some 10, none, .eff (.call 33) [.const (.string ⟨#[49, 44, 45, 50]⟩)]⟩, ⟨some 9, none, .pur .mov [.tmp 10]⟩, ⟨some 11, none, .pur (.ext 0) [.tmp 9]⟩, ⟨some 12, none, .pur (.ext 1) [.tmp 9]⟩, ⟨some 3, none, .pur .mov [.tmp 11]⟩, ⟨some 4, none, .pur .mov [.tmp 12]⟩]) [3, 4])
  (.seq (.reg (straight [⟨some 13, none, .eff (.call 31) [.const (.int .i64 (-47))]⟩, ⟨some 14, none, .pur (.bin .eql) [.tmp 13, .const (.string ⟨#[45, 52, 55]⟩)]⟩, ⟨some 15, none, .pur .mov [.tmp 14]⟩, ⟨some 16, some (15, true), .pur .mov [.tmp 1]⟩, ⟨some 17, some (15, true), .pur (.bin .eql) [.tmp 16, .const (.int .i64 (-47))]⟩, ⟨some 18, none, .pur .pick [.tmp 15, .tmp 17, .const (.bool false)]⟩, ⟨some 19, none, .pur .mov [.tmp 18]⟩, ⟨some 20, some (19, true), .pur .mov [.tmp 2]⟩, ⟨some 21, none, .pur .pick [.tmp 19, .tmp 20, .const (.bool false)]⟩, ⟨some 22, none, .pur .mov [.tmp 21]⟩, ⟨some 23, some (22, true), .pur .mov [.tmp 4]⟩, ⟨some 24, none, .pur .pick [.tmp 22, .tmp 23, .const (.bool false)]⟩, ⟨some 25, none, .pur .mov [.tmp 24]⟩, ⟨some 26, some (25, true), .pur .mov [.tmp 3]⟩, ⟨some 27, some (25, true), .eff (.bsl 3 1) [.const (.int .i64 1), .const (.int .i64 (-2))]⟩, ⟨some 28, some (25, true), .eff (.call 36) [.tmp 26, .tmp 27]⟩, ⟨some 29, none, .pur .pick [.tmp 25, .tmp 28, .const (.bool false)]⟩, ⟨some 30, none, .pur .mov [.tmp 29]⟩, ⟨some 31, some (30, true), .pur .mov [.tmp 3]⟩, ⟨some 32, some (30, true), .eff (.call 35) [.tmp 31]⟩, ⟨some 33, some (30, true), .pur (.bin .eql) [.tmp 32, .const (.string ⟨#[49, 44, 45, 50]⟩)]⟩, ⟨some 34, none, .pur .pick [.tmp 30, .tmp 33, .const (.bool false)]⟩, ⟨some 35, none, .pur .mov [.tmp 34]⟩, ⟨some 36, some (35, true), .eff (.bsl 9 1) [.const (.string ⟨#[97]⟩), .const (.string ⟨#[98]⟩)]⟩, ⟨some 37, some (35, true), .eff (.call 49) [.tmp 36]⟩, ⟨some 38, some (35, true), .pur (.bin .eql) [.tmp 37, .const (.string ⟨#[97, 32, 98]⟩)]⟩, ⟨some 39, none, .pur .pick [.tmp 35, .tmp 38, .const (.bool false)]⟩, ⟨some 0, none, .pur .mov [.tmp 39]⟩]) [0])
  (.ret))))⟩
theorem K_forebaylaw05_works : compF Tryd.prog 28 = some S_forebaylaw05_works := by kernel_rfl

-- 29
def S_words_Num_L1 : SCode :=
  .seq (.reg (straight [⟨some 13, none, .eff .nxt [.tmp 12]⟩, ⟨some 14, none, .pur (.ext 0) [.tmp 13]⟩]) [13, 14])
  (.seq (.cond (.tmp 14) (.skip) (.exit 0))
  (.block 1 (.seq (.reg (straight [⟨some 15, none, .pur (.ext 2) [.tmp 13]⟩, ⟨some 6, none, .pur .mov [.tmp 15]⟩]) [6])
  (.seq (.seq (.reg (straight [⟨some 16, none, .pur .mov [.tmp 6]⟩, ⟨some 17, none, .pur (.bin .lss) [.tmp 16, .const (.int .i32 48)]⟩, ⟨some 18, none, .pur .mov [.tmp 17]⟩, ⟨some 19, some (18, false), .pur .mov [.tmp 6]⟩, ⟨some 20, some (18, false), .pur (.bin .gtr) [.tmp 19, .const (.int .i32 57)]⟩, ⟨some 21, none, .pur .pick [.tmp 18, .const (.bool true), .tmp 20]⟩]) [21])
  (.cond (.tmp 21) (.seq (.reg (straight [⟨some 2, none, .pur .mov [.const (.int .i64 0)]⟩, ⟨some 3, none, .pur .mov [.const (.bool false)]⟩]) [2, 3])
  (.ret)) (.skip)))
  (.reg (straight [⟨some 22, none, .pur .mov [.tmp 4]⟩, ⟨some 23, none, .pur (.bin .mul) [.const (.int .i64 10), .tmp 22]⟩, ⟨some 24, none, .pur .mov [.tmp 6]⟩, ⟨some 25, none, .pur (.bin .sub) [.tmp 24, .const (.int .i32 48)]⟩, ⟨some 26, none, .pur (.toInt .i64) [.tmp 25]⟩, ⟨some 27, none, .pur (.bin .sub) [.tmp 23, .tmp 26]⟩, ⟨some 4, none, .pur .mov [.tmp 27]⟩]) [4])))))
def S_words_Num : Fun := ⟨38, [2, 3, 0, 9, 12, 14, 13, 6, 21, 4, 30, 36], [.tmp 2, .tmp 3],
  .seq (.reg (straight [⟨some 2, none, .pur .mov [.const (.int .i64 0)]⟩, ⟨some 3, none, .pur .mov [.const (.bool false)]⟩]) [2, 3])
  (.seq (.seq (.reg (straight [⟨some 7, none, .pur .mov [.tmp 0]⟩, ⟨some 8, none, .pur (.len true) [.tmp 7]⟩, ⟨some 9, none, .pur (.bin .gtr) [.tmp 8, .const (.int .i64 20)]⟩]) [9])
  (.cond (.tmp 9) (.seq (.reg (straight [⟨some 2, none, .pur .mov [.const (.int .i64 0)]⟩, ⟨some 3, none, .pur .mov [.const (.bool false)]⟩]) [2, 3])
  (.ret)) (.skip)))
  (.seq (.reg (straight [⟨some 4, none, .pur .mov [.const (.int .i64 0)]⟩]) [4])
  (.seq (.seq (.reg (straight [⟨some 10, none, .pur .mov [.tmp 0]⟩, ⟨some 11, none, .eff (.call 62) [.tmp 10, .const (.string ⟨#[45]⟩)]⟩, ⟨some 12, none, .eff .sit [.tmp 11]⟩]) [12])
  (.block 0 (.loop S_words_Num_L1)))
  (.seq (.seq (.reg (straight [⟨some 28, none, .pur .mov [.tmp 0]⟩, ⟨some 29, none, .eff (.call 63) [.tmp 28, .const (.string ⟨#[45]⟩)]⟩, ⟨some 30, none, .pur .not [.tmp 29]⟩]) [30])
  (.cond (.tmp 30) (.reg (straight [⟨some 31, none, .pur .mov [.tmp 4]⟩, ⟨some 32, none, .pur .neg [.tmp 31]⟩, ⟨some 4, none, .pur .mov [.tmp 32]⟩]) [4]) (.skip)))
  (.seq (.seq (.reg (straight [⟨some 33, none, .pur .mov [.tmp 4]⟩, ⟨some 34, none, .eff (.call 31) [.tmp 33]⟩, ⟨some 35, none, .pur .mov [.tmp 0]⟩, ⟨some 36, none, .pur (.bin .neq) [.tmp 34, .tmp 35]⟩]) [36])
  (.cond (.tmp 36) (.seq (.reg (straight [⟨some 2, none, .pur .mov [.const (.int .i64 0)]⟩, ⟨some 3, none, .pur .mov [.const (.bool false)]⟩]) [2, 3])
  (.ret)) (.skip)))
  (.seq (.reg (straight [⟨some 37, none, .pur .mov [.tmp 4]⟩, ⟨some 2, none, .pur .mov [.tmp 37]⟩, ⟨some 3, none, .pur .mov [.const (.bool true)]⟩]) [2, 3])
  (.ret)))))))⟩
theorem K_words_Num : compF Tryd.prog 29 = some S_words_Num := by kernel_rfl

-- 30
def S_forebayref05_Num_L1 : SCode :=
  .seq (.seq (.reg (straight [⟨some 9, none, .pur .mov [.tmp 5]⟩, ⟨some 10, none, .pur .mov [.tmp 0]⟩, ⟨some 11, none, .pur (.len true) [.tmp 10]⟩, ⟨some 12, none, .pur (.bin .lss) [.tmp 9, .tmp 11]⟩]) [12])
  (.cond (.tmp 12) (.skip) (.exit 0)))
  (.seq (.block 1 (.seq (.seq (.reg (straight [⟨some 15, none, .pur .mov [.tmp 5]⟩, ⟨some 16, none, .pur (.bin .eql) [.tmp 15, .const (.int .i64 0)]⟩, ⟨some 17, none, .pur .mov [.tmp 16]⟩, ⟨some 18, some (17, true), .pur .mov [.tmp 0]⟩, ⟨some 19, some (17, true), .pur .ixs [.tmp 18, .const (.int .i64 0)]⟩, ⟨some 20, some (17, true), .pur (.bin .eql) [.tmp 19, .const (.int .u8 45)]⟩, ⟨some 21, none, .pur .pick [.tmp 17, .tmp 20, .const (.bool false)]⟩]) [21])
  (.cond (.tmp 21) (.exit 1) (.skip)))
  (.seq (.seq (.reg (straight [⟨some 22, none, .pur .mov [.tmp 0]⟩, ⟨some 23, none, .pur .mov [.tmp 5]⟩, ⟨some 24, none, .pur .ixs [.tmp 22, .tmp 23]⟩, ⟨some 25, none, .pur (.bin .lss) [.tmp 24, .const (.int .u8 48)]⟩, ⟨some 26, none, .pur .mov [.tmp 25]⟩, ⟨some 27, some (26, false), .pur .mov [.tmp 0]⟩, ⟨some 28, some (26, false), .pur .mov [.tmp 5]⟩, ⟨some 29, some (26, false), .pur .ixs [.tmp 27, .tmp 28]⟩, ⟨some 30, some (26, false), .pur (.bin .gtr) [.tmp 29, .const (.int .u8 57)]⟩, ⟨some 31, none, .pur .pick [.tmp 26, .const (.bool true), .tmp 30]⟩]) [31])
  (.cond (.tmp 31) (.seq (.reg (straight [⟨some 2, none, .pur .mov [.const (.int .i64 0)]⟩, ⟨some 3, none, .pur .mov [.const (.bool false)]⟩]) [2, 3])
  (.ret)) (.skip)))
  (.reg (straight [⟨some 32, none, .pur .mov [.tmp 4]⟩, ⟨some 33, none, .pur (.bin .mul) [.const (.int .i64 10), .tmp 32]⟩, ⟨some 34, none, .pur .mov [.tmp 0]⟩, ⟨some 35, none, .pur .mov [.tmp 5]⟩, ⟨some 36, none, .pur .ixs [.tmp 34, .tmp 35]⟩, ⟨some 37, none, .pur (.toInt .i64) [.tmp 36]⟩, ⟨some 38, none, .pur (.bin .add) [.tmp 33, .tmp 37]⟩, ⟨some 39, none, .pur (.bin .sub) [.tmp 38, .const (.int .i64 48)]⟩, ⟨some 4, none, .pur .mov [.tmp 39]⟩]) [4]))))
  (.reg (straight [⟨some 13, none, .pur .mov [.tmp 5]⟩, ⟨some 14, none, .pur (.bin .add) [.tmp 13, .const (.int .i64 1)]⟩, ⟨some 5, none, .pur .mov [.tmp 14]⟩]) [5]))
def S_forebayref05_Num : Fun := ⟨55, [2, 3, 0, 8, 5, 12, 21, 31, 4, 47, 53], [.tmp 2, .tmp 3],
  .seq (.reg (straight [⟨some 2, none, .pur .mov [.const (.int .i64 0)]⟩, ⟨some 3, none, .pur .mov [.const (.bool false)]⟩]) [2, 3])
  (.seq (.seq (.reg (straight [⟨some 6, none, .pur .mov [.tmp 0]⟩, ⟨some 7, none, .pur (.len true) [.tmp 6]⟩, ⟨some 8, none, .pur (.bin .gtr) [.tmp 7, .const (.int .i64 20)]⟩]) [8])
  (.cond (.tmp 8) (.seq (.reg (straight [⟨some 2, none, .pur .mov [.const (.int .i64 0)]⟩, ⟨some 3, none, .pur .mov [.const (.bool false)]⟩]) [2, 3])
  (.ret)) (.skip)))
  (.seq (.reg (straight [⟨some 4, none, .pur .mov [.const (.int .i64 0)]⟩]) [4])
  (.seq (.seq (.reg (straight [⟨some 5, none, .pur .mov [.const (.int .i64 0)]⟩]) [5])
  (.block 0 (.loop S_forebayref05_Num_L1)))
  (.seq (.seq (.reg (straight [⟨some 40, none, .pur .mov [.tmp 0]⟩, ⟨some 41, none, .pur (.len true) [.tmp 40]⟩, ⟨some 42, none, .pur (.bin .gtr) [.tmp 41, .const (.int .i64 0)]⟩, ⟨some 43, none, .pur .mov [.tmp 42]⟩, ⟨some 44, some (43, true), .pur .mov [.tmp 0]⟩, ⟨some 45, some (43, true), .pur .ixs [.tmp 44, .const (.int .i64 0)]⟩, ⟨some 46, some (43, true), .pur (.bin .eql) [.tmp 45, .const (.int .u8 45)]⟩, ⟨some 47, none, .pur .pick [.tmp 43, .tmp 46, .const (.bool false)]⟩]) [47])
  (.cond (.tmp 47) (.reg (straight [⟨some 48, none, .pur .mov [.tmp 4]⟩, ⟨some 49, none, .pur .neg [.tmp 48]⟩, ⟨some 4, none, .pur .mov [.tmp 49]⟩]) [4]) (.skip)))
  (.seq (.seq (.reg (straight [⟨some 50, none, .pur .mov [.tmp 4]⟩, ⟨some 51, none, .eff (.call 32) [.tmp 50]⟩, ⟨some 52, none, .pur .mov [.tmp 0]⟩, ⟨some 53, none, .pur (.bin .neq) [.tmp 51, .tmp 52]⟩]) [53])
  (.cond (.tmp 53) (.seq (.reg (straight [⟨some 2, none, .pur .mov [.const (.int .i64 0)]⟩, ⟨some 3, none, .pur .mov [.const (.bool false)]⟩]) [2, 3])
  (.ret)) (.skip)))
  (.seq (.reg (straight [⟨some 54, none, .pur .mov [.tmp 4]⟩, ⟨some 2, none, .pur .mov [.tmp 54]⟩, ⟨some 3, none, .pur .mov [.const (.bool true)]⟩]) [2, 3])
  (.ret)))))))⟩
theorem K_forebayref05_Num : compF Tryd.prog 30 = some S_forebayref05_Num := by kernel_rfl

-- 31
def S_words_Of : Fun := ⟨5, [2, 0], [.tmp 2],
  .seq (.reg (straight [⟨some 2, none, .pur .mov [.const (.string ⟨#[]⟩)]⟩]) [2])
  (.seq (.reg (straight [⟨some 3, none, .pur .mov [.tmp 0]⟩, ⟨some 4, none, .eff (.call 64) [.tmp 3]⟩, ⟨some 2, none, .pur .mov [.tmp 4]⟩]) [2])
  (.ret))⟩
theorem K_words_Of : compF Tryd.prog 31 = some S_words_Of := by kernel_rfl

-- 32
def S_forebayref05_Of_L1 : SCode :=
  .seq (.seq (.reg (straight [⟨some 9, none, .pur .mov [.tmp 4]⟩, ⟨some 10, none, .pur (.bin .neq) [.tmp 9, .const (.int .i64 0)]⟩]) [10])
  (.cond (.tmp 10) (.skip) (.exit 0)))
  (.seq (.block 1 (.seq (.reg (straight [⟨some 13, none, .pur .mov [.tmp 4]⟩, ⟨some 14, none, .pur (.bin .rem) [.tmp 13, .const (.int .i64 10)]⟩, ⟨some 5, none, .pur .mov [.tmp 14]⟩]) [5])
  (.seq (.seq (.reg (straight [⟨some 15, none, .pur .mov [.tmp 5]⟩, ⟨some 16, none, .pur (.bin .lss) [.tmp 15, .const (.int .i64 0)]⟩]) [16])
  (.cond (.tmp 16) (.reg (straight [⟨some 17, none, .pur .mov [.tmp 5]⟩, ⟨some 18, none, .pur .neg [.tmp 17]⟩, ⟨some 5, none, .pur .mov [.tmp 18]⟩]) [5]) (.skip)))
  (.reg (straight [⟨some 19, none, .pur .mov [.tmp 5]⟩, ⟨some 20, none, .pur (.bin .add) [.const (.int .i64 48), .tmp 19]⟩, ⟨some 21, none, .pur (.toInt .u8) [.tmp 20]⟩, ⟨some 22, none, .eff (.bsl 5 1) [.tmp 21]⟩, ⟨some 23, none, .eff .b2s [.tmp 22]⟩, ⟨some 24, none, .pur .mov [.tmp 3]⟩, ⟨some 25, none, .pur (.bin .add) [.tmp 23, .tmp 24]⟩, ⟨some 3, none, .pur .mov [.tmp 25]⟩]) [3]))))
  (.reg (straight [⟨some 11, none, .pur .mov [.tmp 4]⟩, ⟨some 12, none, .pur (.bin .quo) [.tmp 11, .const (.int .i64 10)]⟩, ⟨some 4, none, .pur .mov [.tmp 12]⟩]) [4]))
def S_forebayref05_Of : Fun := ⟨31, [2, 0, 7, 4, 10, 5, 16, 3, 27], [.tmp 2],
  .seq (.reg (straight [⟨some 2, none, .pur .mov [.const (.string ⟨#[]⟩)]⟩]) [2])
  (.seq (.seq (.reg (straight [⟨some 6, none, .pur .mov [.tmp 0]⟩, ⟨some 7, none, .pur (.bin .eql) [.tmp 6, .const (.int .i64 0)]⟩]) [7])
  (.cond (.tmp 7) (.seq (.reg (straight [⟨some 2, none, .pur .mov [.const (.string ⟨#[48]⟩)]⟩]) [2])
  (.ret)) (.skip)))
  (.seq (.reg (straight [⟨some 3, none, .pur .mov [.const (.string ⟨#[]⟩)]⟩]) [3])
  (.seq (.seq (.reg (straight [⟨some 8, none, .pur .mov [.tmp 0]⟩, ⟨some 4, none, .pur .mov [.tmp 8]⟩]) [4])
  (.block 0 (.loop S_forebayref05_Of_L1)))
  (.seq (.seq (.reg (straight [⟨some 26, none, .pur .mov [.tmp 0]⟩, ⟨some 27, none, .pur (.bin .lss) [.tmp 26, .const (.int .i64 0)]⟩]) [27])
  (.cond (.tmp 27) (.seq (.reg (straight [⟨some 28, none, .pur .mov [.tmp 3]⟩, ⟨some 29, none, .pur (.bin .add) [.const (.string ⟨#[45]⟩), .tmp 28]⟩, ⟨some 2, none, .pur .mov [.tmp 29]⟩]) [2])
  (.ret)) (.skip)))
  (.seq (.reg (straight [⟨some 30, none, .pur .mov [.tmp 3]⟩, ⟨some 2, none, .pur .mov [.tmp 30]⟩]) [2])
  (.ret))))))⟩
theorem K_forebayref05_Of : compF Tryd.prog 32 = some S_forebayref05_Of := by kernel_rfl

-- 33
def S_words_Nums_L1 : SCode :=
  .seq (.reg (straight [⟨some 15, none, .pur (.bin .lss) [.tmp 14, .tmp 13]⟩]) [15])
  (.seq (.cond (.tmp 15) (.skip) (.exit 0))
  (.seq (.block 1 (.seq (.reg (straight [⟨some 16, none, .pur (.ixa 1) [.tmp 12, .tmp 14]⟩, ⟨some 17, none, .ld none (.tmp 16)⟩, ⟨some 6, none, .pur .mov [.tmp 17]⟩]) [6])
  (.seq (.reg (straight [⟨some 19, none, .pur .mov [.tmp 6]⟩, ⟨some 20, none, .eff (.call 29) [.tmp 19]⟩, ⟨some 18, none, .pur .mov [.tmp 20]⟩, ⟨some 21, none, .pur (.ext 0) [.tmp 18]⟩, ⟨some 22, none, .pur (.ext 1) [.tmp 18]⟩, ⟨some 7, none, .pur .mov [.tmp 21]⟩, ⟨some 8, none, .pur .mov [.tmp 22]⟩]) [7, 8])
  (.seq (.seq (.reg (straight [⟨some 23, none, .pur .mov [.tmp 8]⟩, ⟨some 24, none, .pur .not [.tmp 23]⟩]) [24])
  (.cond (.tmp 24) (.seq (.reg (straight [⟨some 2, none, .pur .mov [.const (.slice none 0 0)]⟩, ⟨some 3, none, .pur .mov [.const (.bool false)]⟩]) [2, 3])
  (.ret)) (.skip)))
  (.reg (straight [⟨some 25, none, .pur .mov [.tmp 4]⟩, ⟨some 26, none, .pur .mov [.tmp 7]⟩, ⟨some 27, none, .eff (.bsl 3 1) [.tmp 26]⟩, ⟨some 28, none, .eff (.app 3 1 8 [.int .i64 0]) [.tmp 25, .tmp 27]⟩, ⟨some 4, none, .pur .mov [.tmp 28]⟩]) [4])))))
  (.reg (straight [⟨some 29, none, .pur (.bin .add) [.tmp 14, .const (.int .i64 1)]⟩, ⟨some 14, none, .pur .mov [.tmp 29]⟩]) [14])))
def S_words_Nums : Fun := ⟨31, [2, 3, 0, 10, 14, 13, 15, 12, 6, 8, 24, 4, 7], [.tmp 2, .tmp 3],
  .seq (.reg (straight [⟨some 2, none, .pur .mov [.const (.slice none 0 0)]⟩, ⟨some 3, none, .pur .mov [.const (.bool false)]⟩]) [2, 3])
  (.seq (.seq (.reg (straight [⟨some 9, none, .pur .mov [.tmp 0]⟩, ⟨some 10, none, .pur (.bin .eql) [.tmp 9, .const (.string ⟨#[45]⟩)]⟩]) [10])
  (.cond (.tmp 10) (.seq (.reg (straight [⟨some 2, none, .pur .mov [.const (.slice none 0 0)]⟩, ⟨some 3, none, .pur .mov [.const (.bool true)]⟩]) [2, 3])
  (.ret)) (.skip)))
  (.seq (.reg (straight [⟨some 4, none, .pur .mov [.const (.slice none 0 0)]⟩]) [4])
  (.seq (.seq (.reg (straight [⟨some 11, none, .pur .mov [.tmp 0]⟩, ⟨some 12, none, .eff (.call 65) [.tmp 11, .const (.string ⟨#[44]⟩)]⟩, ⟨some 13, none, .pur (.len false) [.tmp 12]⟩, ⟨some 14, none, .pur .mov [.const (.int .i64 0)]⟩]) [12, 13, 14])
  (.block 0 (.loop S_words_Nums_L1)))
  (.seq (.reg (straight [⟨some 30, none, .pur .mov [.tmp 4]⟩, ⟨some 2, none, .pur .mov [.tmp 30]⟩, ⟨some 3, none, .pur .mov [.const (.bool true)]⟩]) [2, 3])
  (.ret)))))⟩
theorem K_words_Nums : compF Tryd.prog 33 = some S_words_Nums := by kernel_rfl

-- 34
def S_forebayref05_Nums_L1 : SCode :=
  .seq (.seq (.reg (straight [⟨some 11, none, .pur .mov [.tmp 6]⟩, ⟨some 12, none, .pur .mov [.tmp 0]⟩, ⟨some 13, none, .pur (.len true) [.tmp 12]⟩, ⟨some 14, none, .pur (.bin .leq) [.tmp 11, .tmp 13]⟩]) [14])
  (.cond (.tmp 14) (.skip) (.exit 0)))
  (.seq (.block 1 (.seq (.seq (.reg (straight [⟨some 17, none, .pur .mov [.tmp 6]⟩, ⟨some 18, none, .pur .mov [.tmp 0]⟩, ⟨some 19, none, .pur (.len true) [.tmp 18]⟩, ⟨some 20, none, .pur (.bin .lss) [.tmp 17, .tmp 19]⟩, ⟨some 21, none, .pur .mov [.tmp 20]⟩, ⟨some 22, some (21, true), .pur .mov [.tmp 0]⟩, ⟨some 23, some (21, true), .pur .mov [.tmp 6]⟩, ⟨some 24, some (21, true), .pur .ixs [.tmp 22, .tmp 23]⟩, ⟨some 25, some (21, true), .pur (.bin .neq) [.tmp 24, .const (.int .u8 44)]⟩, ⟨some 26, none, .pur .pick [.tmp 21, .tmp 25, .const (.bool false)]⟩]) [26])
  (.cond (.tmp 26) (.seq (.reg (straight [⟨some 27, none, .pur .mov [.tmp 5]⟩, ⟨some 28, none, .pur .mov [.tmp 0]⟩, ⟨some 29, none, .pur .mov [.tmp 6]⟩, ⟨some 30, none, .pur .mov [.tmp 6]⟩, ⟨some 31, none, .pur (.bin .add) [.tmp 30, .const (.int .i64 1)]⟩, ⟨some 32, none, .pur (.sls true true) [.tmp 28, .tmp 29, .tmp 31]⟩, ⟨some 33, none, .pur (.bin .add) [.tmp 27, .tmp 32]⟩, ⟨some 5, none, .pur .mov [.tmp 33]⟩]) [5])
  (.exit 1)) (.skip)))
  (.seq (.reg (straight [⟨some 35, none, .pur .mov [.tmp 5]⟩, ⟨some 36, none, .eff (.call 30) [.tmp 35]⟩, ⟨some 34, none, .pur .mov [.tmp 36]⟩, ⟨some 37, none, .pur (.ext 0) [.tmp 34]⟩, ⟨some 38, none, .pur (.ext 1) [.tmp 34]⟩, ⟨some 7, none, .pur .mov [.tmp 37]⟩, ⟨some 8, none, .pur .mov [.tmp 38]⟩]) [7, 8])
  (.seq (.seq (.reg (straight [⟨some 39, none, .pur .mov [.tmp 8]⟩, ⟨some 40, none, .pur .not [.tmp 39]⟩]) [40])
  (.cond (.tmp 40) (.seq (.reg (straight [⟨some 2, none, .pur .mov [.const (.slice none 0 0)]⟩, ⟨some 3, none, .pur .mov [.const (.bool false)]⟩]) [2, 3])
  (.ret)) (.skip)))
  (.seq (.reg (straight [⟨some 41, none, .pur .mov [.tmp 4]⟩, ⟨some 42, none, .pur .mov [.tmp 7]⟩, ⟨some 43, none, .eff (.bsl 3 1) [.tmp 42]⟩, ⟨some 44, none, .eff (.app 3 1 8 [.int .i64 0]) [.tmp 41, .tmp 43]⟩, ⟨some 4, none, .pur .mov [.tmp 44]⟩]) [4])
  (.reg (straight [⟨some 5, none, .pur .mov [.const (.string ⟨#[]⟩)]⟩]) [5]))))))
  (.reg (straight [⟨some 15, none, .pur .mov [.tmp 6]⟩, ⟨some 16, none, .pur (.bin .add) [.tmp 15, .const (.int .i64 1)]⟩, ⟨some 6, none, .pur .mov [.tmp 16]⟩]) [6]))
def S_forebayref05_Nums : Fun := ⟨46, [2, 3, 0, 10, 6, 14, 26, 5, 8, 40, 4, 7], [.tmp 2, .tmp 3],
  .seq (.reg (straight [⟨some 2, none, .pur .mov [.const (.slice none 0 0)]⟩, ⟨some 3, none, .pur .mov [.const (.bool false)]⟩]) [2, 3])
  (.seq (.seq (.reg (straight [⟨some 9, none, .pur .mov [.tmp 0]⟩, ⟨some 10, none, .pur (.bin .eql) [.tmp 9, .const (.string ⟨#[45]⟩)]⟩]) [10])
  (.cond (.tmp 10) (.seq (.reg (straight [⟨some 2, none, .pur .mov [.const (.slice none 0 0)]⟩, ⟨some 3, none, .pur .mov [.const (.bool true)]⟩]) [2, 3])
  (.ret)) (.skip)))
  (.seq (.reg (straight [⟨some 4, none, .pur .mov [.const (.slice none 0 0)]⟩]) [4])
  (.seq (.reg (straight [⟨some 5, none, .pur .mov [.const (.string ⟨#[]⟩)]⟩]) [5])
  (.seq (.seq (.reg (straight [⟨some 6, none, .pur .mov [.const (.int .i64 0)]⟩]) [6])
  (.block 0 (.loop S_forebayref05_Nums_L1)))
  (.seq (.reg (straight [⟨some 45, none, .pur .mov [.tmp 4]⟩, ⟨some 2, none, .pur .mov [.tmp 45]⟩, ⟨some 3, none, .pur .mov [.const (.bool true)]⟩]) [2, 3])
  (.ret))))))⟩
theorem K_forebayref05_Nums : compF Tryd.prog 34 = some S_forebayref05_Nums := by kernel_rfl

-- 35
def S_words_List_L1 : SCode :=
  .seq (.reg (straight [⟨some 12, none, .pur (.bin .lss) [.tmp 11, .tmp 10]⟩]) [12])
  (.seq (.cond (.tmp 12) (.skip) (.exit 0))
  (.seq (.block 1 (.seq (.reg (straight [⟨some 13, none, .pur (.ixa 1) [.tmp 9, .tmp 11]⟩, ⟨some 14, none, .ld none (.tmp 13)⟩, ⟨some 5, none, .pur .mov [.tmp 14]⟩]) [5])
  (.reg (straight [⟨some 15, none, .pur .mov [.tmp 3]⟩, ⟨some 16, none, .pur .mov [.tmp 5]⟩, ⟨some 17, none, .eff (.call 31) [.tmp 16]⟩, ⟨some 18, none, .eff (.bsl 9 1) [.tmp 17]⟩, ⟨some 19, none, .eff (.app 9 1 16 [.string ⟨#[]⟩]) [.tmp 15, .tmp 18]⟩, ⟨some 3, none, .pur .mov [.tmp 19]⟩]) [3])))
  (.reg (straight [⟨some 20, none, .pur (.bin .add) [.tmp 11, .const (.int .i64 1)]⟩, ⟨some 11, none, .pur .mov [.tmp 20]⟩]) [11])))
def S_words_List : Fun := ⟨23, [2, 0, 8, 11, 10, 12, 9, 3, 5], [.tmp 2],
  .seq (.reg (straight [⟨some 2, none, .pur .mov [.const (.string ⟨#[]⟩)]⟩]) [2])
  (.seq (.seq (.reg (straight [⟨some 6, none, .pur .mov [.tmp 0]⟩, ⟨some 7, none, .pur (.len false) [.tmp 6]⟩, ⟨some 8, none, .pur (.bin .eql) [.tmp 7, .const (.int .i64 0)]⟩]) [8])
  (.cond (.tmp 8) (.seq (.reg (straight [⟨some 2, none, .pur .mov [.const (.string ⟨#[45]⟩)]⟩]) [2])
  (.ret)) (.skip)))
  (.seq (.reg (straight [⟨some 3, none, .pur .mov [.const (.slice none 0 0)]⟩]) [3])
  (.seq (.seq (.reg (straight [⟨some 9, none, .pur .mov [.tmp 0]⟩, ⟨some 10, none, .pur (.len false) [.tmp 9]⟩, ⟨some 11, none, .pur .mov [.const (.int .i64 0)]⟩]) [9, 10, 11])
  (.block 0 (.loop S_words_List_L1)))
  (.seq (.reg (straight [⟨some 21, none, .pur .mov [.tmp 3]⟩, ⟨some 22, none, .eff (.call 66) [.tmp 21, .const (.string ⟨#[44]⟩)]⟩, ⟨some 2, none, .pur .mov [.tmp 22]⟩]) [2])
  (.ret)))))⟩
theorem K_words_List : compF Tryd.prog 35 = some S_words_List := by kernel_rfl

-- 36
def S_forebaylaw05_Ints_L1 : SCode :=
  .seq (.seq (.reg (straight [⟨some 11, none, .pur .mov [.tmp 5]⟩, ⟨some 12, none, .pur .mov [.tmp 0]⟩, ⟨some 13, none, .pur (.len false) [.tmp 12]⟩, ⟨some 14, none, .pur (.bin .lss) [.tmp 11, .tmp 13]⟩, ⟨some 15, none, .pur .mov [.tmp 14]⟩, ⟨some 16, some (15, true), .pur .mov [.tmp 5]⟩, ⟨some 17, some (15, true), .pur .mov [.tmp 1]⟩, ⟨some 18, some (15, true), .pur (.len false) [.tmp 17]⟩, ⟨some 19, some (15, true), .pur (.bin .lss) [.tmp 16, .tmp 18]⟩, ⟨some 20, none, .pur .pick [.tmp 15, .tmp 19, .const (.bool false)]⟩]) [20])
  (.cond (.tmp 20) (.skip) (.exit 0)))
  (.seq (.block 1 (.seq (.reg (straight [⟨some 23, none, .pur .mov [.tmp 0]⟩, ⟨some 24, none, .pur .mov [.tmp 5]⟩, ⟨some 25, none, .pur (.ixa 1) [.tmp 23, .tmp 24]⟩, ⟨some 26, none, .ld none (.tmp 25)⟩, ⟨some 27, none, .pur .mov [.tmp 1]⟩, ⟨some 28, none, .pur .mov [.tmp 5]⟩, ⟨some 29, none, .pur (.ixa 1) [.tmp 27, .tmp 28]⟩, ⟨some 30, none, .ld none (.tmp 29)⟩, ⟨some 31, none, .pur (.bin .neq) [.tmp 26, .tmp 30]⟩]) [31])
  (.cond (.tmp 31) (.seq (.reg (straight [⟨some 4, none, .pur .mov [.const (.bool false)]⟩]) [4])
  (.ret)) (.skip))))
  (.reg (straight [⟨some 21, none, .pur .mov [.tmp 5]⟩, ⟨some 22, none, .pur (.bin .add) [.tmp 21, .const (.int .i64 1)]⟩, ⟨some 5, none, .pur .mov [.tmp 22]⟩]) [5]))
def S_forebaylaw05_Ints : Fun := ⟨32, [4, 0, 1, 10, 5, 20, 31], [.tmp 4],
  .seq (.reg (straight [⟨some 4, none, .pur .mov [.const (.bool false)]⟩]) [4])
  (.seq (.seq (.reg (straight [⟨some 6, none, .pur .mov [.tmp 0]⟩, ⟨some 7, none, .pur (.len false) [.tmp 6]⟩, ⟨some 8, none, .pur .mov [.tmp 1]⟩, ⟨some 9, none, .pur (.len false) [.tmp 8]⟩, ⟨some 10, none, .pur (.bin .neq) [.tmp 7, .tmp 9]⟩]) [10])
  (.cond (.tmp 10) (.seq (.reg (straight [⟨some 4, none, .pur .mov [.const (.bool false)]⟩]) [4])
  (.ret)) (.skip)))
  (.seq (.seq (.reg (straight [⟨some 5, none, .pur .mov [.const (.int .i64 0)]⟩]) [5])
  (.block 0 (.loop S_forebaylaw05_Ints_L1)))
  (.seq (.reg (straight [⟨some 4, none, .pur .mov [.const (.bool true)]⟩]) [4])
  (.ret))))⟩
theorem K_forebaylaw05_Ints : compF Tryd.prog 36 = some S_forebaylaw05_Ints := by kernel_rfl

-- 37
def S_forebayref05_List_L1 : SCode :=
  .seq (.seq (.reg (straight [⟨some 5, none, .pur .mov [.tmp 4]⟩, ⟨some 6, none, .pur .mov [.tmp 0]⟩, ⟨some 7, none, .pur (.len false) [.tmp 6]⟩, ⟨some 8, none, .pur (.bin .lss) [.tmp 5, .tmp 7]⟩]) [8])
  (.cond (.tmp 8) (.skip) (.exit 0)))
  (.seq (.block 1 (.seq (.seq (.reg (straight [⟨some 11, none, .pur .mov [.tmp 4]⟩, ⟨some 12, none, .pur (.bin .gtr) [.tmp 11, .const (.int .i64 0)]⟩]) [12])
  (.cond (.tmp 12) (.reg (straight [⟨some 13, none, .pur .mov [.tmp 3]⟩, ⟨some 14, none, .pur (.bin .add) [.tmp 13, .const (.string ⟨#[44]⟩)]⟩, ⟨some 3, none, .pur .mov [.tmp 14]⟩]) [3]) (.skip)))
  (.reg (straight [⟨some 15, none, .pur .mov [.tmp 3]⟩, ⟨some 16, none, .pur .mov [.tmp 0]⟩, ⟨some 17, none, .pur .mov [.tmp 4]⟩, ⟨some 18, none, .pur (.ixa 1) [.tmp 16, .tmp 17]⟩, ⟨some 19, none, .ld none (.tmp 18)⟩, ⟨some 20, none, .eff (.call 32) [.tmp 19]⟩, ⟨some 21, none, .pur (.bin .add) [.tmp 15, .tmp 20]⟩, ⟨some 3, none, .pur .mov [.tmp 21]⟩]) [3])))
  (.reg (straight [⟨some 9, none, .pur .mov [.tmp 4]⟩, ⟨some 10, none, .pur (.bin .add) [.tmp 9, .const (.int .i64 1)]⟩, ⟨some 4, none, .pur .mov [.tmp 10]⟩]) [4]))
def S_forebayref05_List : Fun := ⟨25, [2, 4, 0, 8, 12, 3, 23], [.tmp 2],
  .seq (.reg (straight [⟨some 2, none, .pur .mov [.const (.string ⟨#[]⟩)]⟩]) [2])
  (.seq (.reg (straight [⟨some 3, none, .pur .mov [.const (.string ⟨#[]⟩)]⟩]) [3])
  (.seq (.seq (.reg (straight [⟨some 4, none, .pur .mov [.const (.int .i64 0)]⟩]) [4])
  (.block 0 (.loop S_forebayref05_List_L1)))
  (.seq (.seq (.reg (straight [⟨some 22, none, .pur .mov [.tmp 3]⟩, ⟨some 23, none, .pur (.bin .eql) [.tmp 22, .const (.string ⟨#[]⟩)]⟩]) [23])
  (.cond (.tmp 23) (.seq (.reg (straight [⟨some 2, none, .pur .mov [.const (.string ⟨#[45]⟩)]⟩]) [2])
  (.ret)) (.skip)))
  (.seq (.reg (straight [⟨some 24, none, .pur .mov [.tmp 3]⟩, ⟨some 2, none, .pur .mov [.tmp 24]⟩]) [2])
  (.ret)))))⟩
theorem K_forebayref05_List : compF Tryd.prog 37 = some S_forebayref05_List := by kernel_rfl

-- 46
def S_forebaylaw05_Strings_L1 : SCode :=
  .seq (.seq (.reg (straight [⟨some 11, none, .pur .mov [.tmp 5]⟩, ⟨some 12, none, .pur .mov [.tmp 0]⟩, ⟨some 13, none, .pur (.len false) [.tmp 12]⟩, ⟨some 14, none, .pur (.bin .lss) [.tmp 11, .tmp 13]⟩, ⟨some 15, none, .pur .mov [.tmp 14]⟩, ⟨some 16, some (15, true), .pur .mov [.tmp 5]⟩, ⟨some 17, some (15, true), .pur .mov [.tmp 1]⟩, ⟨some 18, some (15, true), .pur (.len false) [.tmp 17]⟩, ⟨some 19, some (15, true), .pur (.bin .lss) [.tmp 16, .tmp 18]⟩, ⟨some 20, none, .pur .pick [.tmp 15, .tmp 19, .const (.bool false)]⟩]) [20])
  (.cond (.tmp 20) (.skip) (.exit 0)))
  (.seq (.block 1 (.seq (.reg (straight [⟨some 23, none, .pur .mov [.tmp 0]⟩, ⟨some 24, none, .pur .mov [.tmp 5]⟩, ⟨some 25, none, .pur (.ixa 1) [.tmp 23, .tmp 24]⟩, ⟨some 26, none, .ld none (.tmp 25)⟩, ⟨some 27, none, .pur .mov [.tmp 1]⟩, ⟨some 28, none, .pur .mov [.tmp 5]⟩, ⟨some 29, none, .pur (.ixa 1) [.tmp 27, .tmp 28]⟩, ⟨some 30, none, .ld none (.tmp 29)⟩, ⟨some 31, none, .pur (.bin .neq) [.tmp 26, .tmp 30]⟩]) [31])
  (.cond (.tmp 31) (.seq (.reg (straight [⟨some 4, none, .pur .mov [.const (.bool false)]⟩]) [4])
  (.ret)) (.skip))))
  (.reg (straight [⟨some 21, none, .pur .mov [.tmp 5]⟩, ⟨some 22, none, .pur (.bin .add) [.tmp 21, .const (.int .i64 1)]⟩, ⟨some 5, none, .pur .mov [.tmp 22]⟩]) [5]))
def S_forebaylaw05_Strings : Fun := ⟨32, [4, 0, 1, 10, 5, 20, 31], [.tmp 4],
  .seq (.reg (straight [⟨some 4, none, .pur .mov [.const (.bool false)]⟩]) [4])
  (.seq (.seq (.reg (straight [⟨some 6, none, .pur .mov [.tmp 0]⟩, ⟨some 7, none, .pur (.len false) [.tmp 6]⟩, ⟨some 8, none, .pur .mov [.tmp 1]⟩, ⟨some 9, none, .pur (.len false) [.tmp 8]⟩, ⟨some 10, none, .pur (.bin .neq) [.tmp 7, .tmp 9]⟩]) [10])
  (.cond (.tmp 10) (.seq (.reg (straight [⟨some 4, none, .pur .mov [.const (.bool false)]⟩]) [4])
  (.ret)) (.skip)))
  (.seq (.seq (.reg (straight [⟨some 5, none, .pur .mov [.const (.int .i64 0)]⟩]) [5])
  (.block 0 (.loop S_forebaylaw05_Strings_L1)))
  (.seq (.reg (straight [⟨some 4, none, .pur .mov [.const (.bool true)]⟩]) [4])
  (.ret))))⟩
theorem K_forebaylaw05_Strings : compF Tryd.prog 46 = some S_forebaylaw05_Strings := by kernel_rfl

-- 47
def S_words_Fields : Fun := ⟨5, [2, 0], [.tmp 2],
  .seq (.reg (straight [⟨some 2, none, .pur .mov [.const (.slice none 0 0)]⟩]) [2])
  (.seq (.reg (straight [⟨some 3, none, .pur .mov [.tmp 0]⟩, ⟨some 4, none, .eff (.call 80) [.tmp 3, .const (.int .i32 32), .const (.bool false)]⟩, ⟨some 2, none, .pur .mov [.tmp 4]⟩]) [2])
  (.ret))⟩
theorem K_words_Fields : compF Tryd.prog 47 = some S_words_Fields := by kernel_rfl

-- 48
def S_words_Lines : Fun := ⟨5, [2, 0], [.tmp 2],
  .seq (.reg (straight [⟨some 2, none, .pur .mov [.const (.slice none 0 0)]⟩]) [2])
  (.seq (.reg (straight [⟨some 3, none, .pur .mov [.tmp 0]⟩, ⟨some 4, none, .eff (.call 80) [.tmp 3, .const (.int .i32 10), .const (.bool true)]⟩, ⟨some 2, none, .pur .mov [.tmp 4]⟩]) [2])
  (.ret))⟩
theorem K_words_Lines : compF Tryd.prog 48 = some S_words_Lines := by kernel_rfl

-- 49
def S_words_Join : Fun := ⟨5, [2, 0], [.tmp 2],
  .seq (.reg (straight [⟨some 2, none, .pur .mov [.const (.string ⟨#[]⟩)]⟩]) [2])
  (.seq (.reg (straight [⟨some 3, none, .pur .mov [.tmp 0]⟩, ⟨some 4, none, .eff (.call 66) [.tmp 3, .const (.string ⟨#[32]⟩)]⟩, ⟨some 2, none, .pur .mov [.tmp 4]⟩]) [2])
  (.ret))⟩
theorem K_words_Join : compF Tryd.prog 49 = some S_words_Join := by kernel_rfl

-- 50
def S_forebayref05_Join_L1 : SCode :=
  .seq (.seq (.reg (straight [⟨some 5, none, .pur .mov [.tmp 4]⟩, ⟨some 6, none, .pur .mov [.tmp 0]⟩, ⟨some 7, none, .pur (.len false) [.tmp 6]⟩, ⟨some 8, none, .pur (.bin .lss) [.tmp 5, .tmp 7]⟩]) [8])
  (.cond (.tmp 8) (.skip) (.exit 0)))
  (.seq (.block 1 (.seq (.seq (.reg (straight [⟨some 11, none, .pur .mov [.tmp 4]⟩, ⟨some 12, none, .pur (.bin .gtr) [.tmp 11, .const (.int .i64 0)]⟩]) [12])
  (.cond (.tmp 12) (.reg (straight [⟨some 13, none, .pur .mov [.tmp 3]⟩, ⟨some 14, none, .pur (.bin .add) [.tmp 13, .const (.string ⟨#[32]⟩)]⟩, ⟨some 3, none, .pur .mov [.tmp 14]⟩]) [3]) (.skip)))
  (.reg (straight [⟨some 15, none, .pur .mov [.tmp 3]⟩, ⟨some 16, none, .pur .mov [.tmp 0]⟩, ⟨some 17, none, .pur .mov [.tmp 4]⟩, ⟨some 18, none, .pur (.ixa 1) [.tmp 16, .tmp 17]⟩, ⟨some 19, none, .ld none (.tmp 18)⟩, ⟨some 20, none, .pur (.bin .add) [.tmp 15, .tmp 19]⟩, ⟨some 3, none, .pur .mov [.tmp 20]⟩]) [3])))
  (.reg (straight [⟨some 9, none, .pur .mov [.tmp 4]⟩, ⟨some 10, none, .pur (.bin .add) [.tmp 9, .const (.int .i64 1)]⟩, ⟨some 4, none, .pur .mov [.tmp 10]⟩]) [4]))
def S_forebayref05_Join : Fun := ⟨22, [2, 4, 0, 8, 12, 3], [.tmp 2],
  .seq (.reg (straight [⟨some 2, none, .pur .mov [.const (.string ⟨#[]⟩)]⟩]) [2])
  (.seq (.reg (straight [⟨some 3, none, .pur .mov [.const (.string ⟨#[]⟩)]⟩]) [3])
  (.seq (.seq (.reg (straight [⟨some 4, none, .pur .mov [.const (.int .i64 0)]⟩]) [4])
  (.block 0 (.loop S_forebayref05_Join_L1)))
  (.seq (.reg (straight [⟨some 21, none, .pur .mov [.tmp 3]⟩, ⟨some 2, none, .pur .mov [.tmp 21]⟩]) [2])
  (.ret))))⟩
theorem K_forebayref05_Join : compF Tryd.prog 50 = some S_forebayref05_Join := by kernel_rfl

-- 62
def S_strings_TrimPrefix : Fun := ⟨8, [4, 0, 1], [.tmp 4],
  .seq (.reg (straight [⟨some 4, none, .pur .mov [.const (.string ⟨#[]⟩)]⟩]) [4])
  (.seq (.reg (straight [⟨some 5, none, .pur .mov [.tmp 0]⟩, ⟨some 6, none, .pur .mov [.tmp 1]⟩, ⟨some 7, none, .eff (.call 88) [.tmp 5, .tmp 6]⟩, ⟨some 4, none, .pur .mov [.tmp 7]⟩]) [4])
  (.ret))⟩
theorem K_strings_TrimPrefix : compF Tryd.prog 62 = some S_strings_TrimPrefix := by kernel_rfl

-- 63
def S_strings_HasPrefix : Fun := ⟨8, [4, 0, 1], [.tmp 4],
  .seq (.reg (straight [⟨some 4, none, .pur .mov [.const (.bool false)]⟩]) [4])
  (.seq (.reg (straight [⟨some 5, none, .pur .mov [.tmp 0]⟩, ⟨some 6, none, .pur .mov [.tmp 1]⟩, ⟨some 7, none, .eff (.call 89) [.tmp 5, .tmp 6]⟩, ⟨some 4, none, .pur .mov [.tmp 7]⟩]) [4])
  (.ret))⟩
theorem K_strings_HasPrefix : compF Tryd.prog 63 = some S_strings_HasPrefix := by kernel_rfl

-- 80
def S_words_parts_L1 : SCode :=
  .seq (.reg (straight [⟨some 13, none, .eff .nxt [.tmp 12]⟩, ⟨some 14, none, .pur (.ext 0) [.tmp 13]⟩]) [13, 14])
  (.seq (.cond (.tmp 14) (.skip) (.exit 0))
  (.block 1 (.seq (.reg (straight [⟨some 15, none, .pur (.ext 1) [.tmp 13]⟩, ⟨some 16, none, .pur (.ext 2) [.tmp 13]⟩, ⟨some 9, none, .pur .mov [.tmp 15]⟩, ⟨some 10, none, .pur .mov [.tmp 16]⟩]) [9, 10])
  (.seq (.seq (.reg (straight [⟨some 17, none, .pur .mov [.tmp 10]⟩, ⟨some 18, none, .pur .mov [.tmp 1]⟩, ⟨some 19, none, .pur (.bin .neq) [.tmp 17, .tmp 18]⟩]) [19])
  (.cond (.tmp 19) (.exit 1) (.skip)))
  (.seq (.seq (.reg (straight [⟨some 20, none, .pur .mov [.tmp 2]⟩, ⟨some 21, none, .pur .mov [.tmp 20]⟩, ⟨some 22, some (21, false), .pur .mov [.tmp 9]⟩, ⟨some 23, some (21, false), .pur .mov [.tmp 8]⟩, ⟨some 24, some (21, false), .pur (.bin .gtr) [.tmp 22, .tmp 23]⟩, ⟨some 25, none, .pur .pick [.tmp 21, .const (.bool true), .tmp 24]⟩]) [25])
  (.cond (.tmp 25) (.reg (straight [⟨some 26, none, .pur .mov [.tmp 7]⟩, ⟨some 27, none, .pur .mov [.tmp 0]⟩, ⟨some 28, none, .pur .mov [.tmp 8]⟩, ⟨some 29, none, .pur .mov [.tmp 9]⟩, ⟨some 30, none, .pur (.sls true true) [.tmp 27, .tmp 28, .tmp 29]⟩, ⟨some 31, none, .eff (.bsl 9 1) [.tmp 30]⟩, ⟨some 32, none, .eff (.app 9 1 16 [.string ⟨#[]⟩]) [.tmp 26, .tmp 31]⟩, ⟨some 7, none, .pur .mov [.tmp 32]⟩]) [7]) (.skip)))
  (.reg (straight [⟨some 33, none, .pur .mov [.tmp 9]⟩, ⟨some 34, none, .pur (.bin .add) [.tmp 33, .const (.int .i64 1)]⟩, ⟨some 8, none, .pur .mov [.tmp 34]⟩]) [8]))))))
def S_words_parts : Fun := ⟨46, [6, 0, 12, 14, 13, 10, 1, 19, 2, 9, 8, 25, 7, 38], [.tmp 6],
  .seq (.reg (straight [⟨some 6, none, .pur .mov [.const (.slice none 0 0)]⟩]) [6])
  (.seq (.reg (straight [⟨some 7, none, .pur .mov [.const (.slice none 0 0)]⟩]) [7])
  (.seq (.reg (straight [⟨some 8, none, .pur .mov [.const (.int .i64 0)]⟩]) [8])
  (.seq (.seq (.reg (straight [⟨some 11, none, .pur .mov [.tmp 0]⟩, ⟨some 12, none, .eff .sit [.tmp 11]⟩]) [12])
  (.block 0 (.loop S_words_parts_L1)))
  (.seq (.seq (.reg (straight [⟨some 35, none, .pur .mov [.tmp 8]⟩, ⟨some 36, none, .pur .mov [.tmp 0]⟩, ⟨some 37, none, .pur (.len true) [.tmp 36]⟩, ⟨some 38, none, .pur (.bin .lss) [.tmp 35, .tmp 37]⟩]) [38])
  (.cond (.tmp 38) (.reg (straight [⟨some 39, none, .pur .mov [.tmp 7]⟩, ⟨some 40, none, .pur .mov [.tmp 0]⟩, ⟨some 41, none, .pur .mov [.tmp 8]⟩, ⟨some 42, none, .pur (.sls true false) [.tmp 40, .tmp 41]⟩, ⟨some 43, none, .eff (.bsl 9 1) [.tmp 42]⟩, ⟨some 44, none, .eff (.app 9 1 16 [.string ⟨#[]⟩]) [.tmp 39, .tmp 43]⟩, ⟨some 7, none, .pur .mov [.tmp 44]⟩]) [7]) (.skip)))
  (.seq (.reg (straight [⟨some 45, none, .pur .mov [.tmp 7]⟩, ⟨some 6, none, .pur .mov [.tmp 45]⟩]) [6])
  (.ret))))))⟩
theorem K_words_parts : compF Tryd.prog 80 = some S_words_parts := by kernel_rfl

-- 88
def S_internal_stringslite_TrimPrefix : Fun := ⟨13, [4, 0, 1, 7], [.tmp 4],
  .seq (.reg (straight [⟨some 4, none, .pur .mov [.const (.string ⟨#[]⟩)]⟩]) [4])
  (.seq (.seq (.reg (straight [⟨some 5, none, .pur .mov [.tmp 0]⟩, ⟨some 6, none, .pur .mov [.tmp 1]⟩, ⟨some 7, none, .eff (.call 89) [.tmp 5, .tmp 6]⟩]) [7])
  (.cond (.tmp 7) (.seq (.reg (straight [⟨some 8, none, .pur .mov [.tmp 0]⟩, ⟨some 9, none, .pur .mov [.tmp 1]⟩, ⟨some 10, none, .pur (.len true) [.tmp 9]⟩, ⟨some 11, none, .pur (.sls true false) [.tmp 8, .tmp 10]⟩, ⟨some 4, none, .pur .mov [.tmp 11]⟩]) [4])
  (.ret)) (.skip)))
  (.seq (.reg (straight [⟨some 12, none, .pur .mov [.tmp 0]⟩, ⟨some 4, none, .pur .mov [.tmp 12]⟩]) [4])
  (.ret)))⟩
theorem K_internal_stringslite_TrimPrefix : compF Tryd.prog 88 = some S_internal_stringslite_TrimPrefix := by kernel_rfl

-- 89
def S_internal_stringslite_HasPrefix : Fun := ⟨18, [4, 0, 1], [.tmp 4],
  .seq (.reg (straight [⟨some 4, none, .pur .mov [.const (.bool false)]⟩]) [4])
  (.seq (.reg (straight [⟨some 5, none, .pur .mov [.tmp 0]⟩, ⟨some 6, none, .pur (.len true) [.tmp 5]⟩, ⟨some 7, none, .pur .mov [.tmp 1]⟩, ⟨some 8, none, .pur (.len true) [.tmp 7]⟩, ⟨some 9, none, .pur (.bin .geq) [.tmp 6, .tmp 8]⟩, ⟨some 10, none, .pur .mov [.tmp 9]⟩, ⟨some 11, some (10, true), .pur .mov [.tmp 0]⟩, ⟨some 12, some (10, true), .pur .mov [.tmp 1]⟩, ⟨some 13, some (10, true), .pur (.len true) [.tmp 12]⟩, ⟨some 14, some (10, true), .pur (.sls false true) [.tmp 11, .tmp 13]⟩, ⟨some 15, some (10, true), .pur .mov [.tmp 1]⟩, ⟨some 16, some (10, true), .pur (.bin .eql) [.tmp 14, .tmp 15]⟩, ⟨some 17, none, .pur .pick [.tmp 10, .tmp 16, .const (.bool false)]⟩, ⟨some 4, none, .pur .mov [.tmp 17]⟩]) [4])
  (.ret))⟩
theorem K_internal_stringslite_HasPrefix : compF Tryd.prog 89 = some S_internal_stringslite_HasPrefix := by kernel_rfl

end Go.Proofs.YtjdpejggafefjaaDoor
