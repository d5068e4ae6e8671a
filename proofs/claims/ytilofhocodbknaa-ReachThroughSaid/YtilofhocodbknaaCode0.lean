import Derived.Test.YtilofhocodbknaaKj
import Derived.Test.YtilofhocodbknaaProg
import Derived.KernelRfl
namespace Go.Proofs.Ytilofhocodbknaa
open Go Go.Kx Go.Proofs
set_option maxRecDepth 100000

-- 6
def S_forebaylaw33_GridBefore_L1 : SCode :=
  .seq (.seq (.reg (straight [⟨some 55, none, .pur .mov [.tmp 12]⟩, ⟨some 56, none, .pur .mov [.tmp 0]⟩, ⟨some 57, none, .pur (.len false) [.tmp 56]⟩, ⟨some 58, none, .pur (.bin .lss) [.tmp 55, .tmp 57]⟩]) [58])
  (.cond (.tmp 58) (.skip) (.exit 0)))
  (.seq (.block 1 (.reg (straight [⟨some 61, none, .pur .mov [.tmp 11]⟩, ⟨some 62, none, .pur .mov [.tmp 0]⟩, ⟨some 63, none, .pur .mov [.tmp 12]⟩, ⟨some 64, none, .pur (.ixa 1) [.tmp 62, .tmp 63]⟩, ⟨some 65, none, .ld none (.tmp 64)⟩, ⟨some 66, none, .pur (.len false) [.tmp 65]⟩, ⟨some 67, none, .pur (.minmax true) [.tmp 61, .tmp 66]⟩, ⟨some 11, none, .pur .mov [.tmp 67]⟩]) [11]))
  (.reg (straight [⟨some 59, none, .pur .mov [.tmp 12]⟩, ⟨some 60, none, .pur (.bin .add) [.tmp 59, .const (.int .i64 1)]⟩, ⟨some 12, none, .pur .mov [.tmp 60]⟩]) [12]))
def S_forebaylaw33_GridBefore : Fun := ⟨105, [6, 1, 2, 18, 0, 25, 4, 5, 7, 8, 48, 9, 10, 12, 58, 11, 69, 14, 15, 13, 16], [.tmp 6],
  .seq (.reg (straight [⟨some 4, none, .eff (.box 57) [.tmp 1]⟩, ⟨some 5, none, .eff (.box 57) [.tmp 2]⟩, ⟨some 6, none, .pur .mov [.const (.bool false)]⟩]) [4, 5, 6])
  (.seq (.seq (.reg (straight [⟨some 17, none, .eff (.call 28) []⟩, ⟨some 18, none, .pur .not [.tmp 17]⟩]) [18])
  (.cond (.tmp 18) (.seq (.reg (straight [⟨some 6, none, .pur .mov [.const (.bool false)]⟩]) [6])
  (.ret)) (.skip)))
  (.seq (.seq (.reg (straight [⟨some 19, none, .pur .mov [.tmp 0]⟩, ⟨some 20, none, .eff (.call 29) [.tmp 19]⟩, ⟨some 21, none, .pur .mov [.tmp 20]⟩, ⟨some 22, some (21, false), .pur .mov [.tmp 0]⟩, ⟨some 23, some (21, false), .pur (.len false) [.tmp 22]⟩, ⟨some 24, some (21, false), .pur (.bin .gtr) [.tmp 23, .const (.int .i64 7)]⟩, ⟨some 25, none, .pur .pick [.tmp 21, .const (.bool true), .tmp 24]⟩]) [25])
  (.cond (.tmp 25) (.seq (.reg (straight [⟨some 6, none, .pur .mov [.const (.bool true)]⟩]) [6])
  (.ret)) (.skip)))
  (.seq (.reg (.run ⟨some 26, none, .pur (.ixaA 2 1) [.tmp 4, .const (.int .i64 0)]⟩ (.run ⟨some 27, none, .ld none (.tmp 26)⟩ (.run ⟨some 28, none, .pur (.ixaA 2 1) [.tmp 4, .const (.int .i64 1)]⟩ (.run ⟨some 29, none, .ld none (.tmp 28)⟩ (.run ⟨some 31, none, .pur (.ixaA 2 1) [.tmp 5, .const (.int .i64 0)]⟩ (.run ⟨some 32, none, .ld none (.tmp 31)⟩ (.run ⟨some 33, none, .pur (.ixaA 2 1) [.tmp 5, .const (.int .i64 1)]⟩ (.run ⟨some 34, none, .ld none (.tmp 33)⟩ (.eff ⟨some 30, none, .eff (.call 35) [.tmp 27, .tmp 29]⟩ [⟨some 34, none, .ld none (.tmp 33)⟩, ⟨some 32, none, .ld none (.tmp 31)⟩] (.eff ⟨some 35, none, .eff (.call 35) [.tmp 32, .tmp 34]⟩ [] (.run ⟨some 7, none, .pur .mov [.tmp 30]⟩ (.run ⟨some 8, none, .pur .mov [.tmp 35]⟩ .done)))))))))))) [7, 8])
  (.seq (.reg (straight [⟨some 36, none, .pur .mov [.tmp 0]⟩, ⟨some 37, none, .eff (.call 31) [.tmp 36]⟩, ⟨some 38, none, .pur .mov [.tmp 7]⟩, ⟨some 39, none, .pur .mov [.tmp 8]⟩, ⟨some 40, none, .eff (.call 36) [.tmp 37, .tmp 38, .tmp 39]⟩, ⟨some 41, none, .pur .mov [.tmp 0]⟩, ⟨some 42, none, .eff (.call 31) [.tmp 41]⟩, ⟨some 43, none, .pur .mov [.tmp 8]⟩, ⟨some 44, none, .pur .mov [.tmp 7]⟩, ⟨some 45, none, .eff (.call 36) [.tmp 42, .tmp 43, .tmp 44]⟩, ⟨some 9, none, .pur .mov [.tmp 40]⟩, ⟨some 10, none, .pur .mov [.tmp 45]⟩]) [9, 10])
  (.seq (.seq (.reg (straight [⟨some 46, none, .pur .mov [.tmp 0]⟩, ⟨some 47, none, .eff (.call 32) [.tmp 46]⟩, ⟨some 48, none, .pur (.bin .neq) [.tmp 47, .const (.int .i64 0)]⟩]) [48])
  (.cond (.tmp 48) (.seq (.reg (straight [⟨some 49, none, .pur .mov [.tmp 9]⟩, ⟨some 50, none, .pur .not [.tmp 49]⟩, ⟨some 51, none, .pur .mov [.tmp 50]⟩, ⟨some 52, some (51, true), .pur .mov [.tmp 10]⟩, ⟨some 53, some (51, true), .pur .not [.tmp 52]⟩, ⟨some 54, none, .pur .pick [.tmp 51, .tmp 53, .const (.bool false)]⟩, ⟨some 6, none, .pur .mov [.tmp 54]⟩]) [6])
  (.ret)) (.skip)))
  (.seq (.reg (straight [⟨some 11, none, .pur .mov [.const (.int .i64 0)]⟩]) [11])
  (.seq (.seq (.reg (straight [⟨some 12, none, .pur .mov [.const (.int .i64 0)]⟩]) [12])
  (.block 0 (.loop S_forebaylaw33_GridBefore_L1)))
  (.seq (.seq (.reg (straight [⟨some 68, none, .pur .mov [.tmp 11]⟩, ⟨some 69, none, .pur (.bin .gtr) [.tmp 68, .const (.int .i64 6)]⟩]) [69])
  (.cond (.tmp 69) (.seq (.reg (straight [⟨some 6, none, .pur .mov [.const (.bool true)]⟩]) [6])
  (.ret)) (.skip)))
  (.seq (.reg (straight [⟨some 70, none, .pur .mov [.tmp 0]⟩, ⟨some 71, none, .eff (.call 34) [.tmp 70]⟩, ⟨some 13, none, .pur .mov [.tmp 71]⟩]) [13])
  (.seq (.reg (.run ⟨some 72, none, .pur (.ixaA 2 1) [.tmp 4, .const (.int .i64 0)]⟩ (.run ⟨some 73, none, .ld none (.tmp 72)⟩ (.run ⟨some 75, none, .pur (.ixaA 2 1) [.tmp 4, .const (.int .i64 1)]⟩ (.run ⟨some 76, none, .ld none (.tmp 75)⟩ (.run ⟨some 79, none, .pur (.ixaA 2 1) [.tmp 5, .const (.int .i64 0)]⟩ (.run ⟨some 80, none, .ld none (.tmp 79)⟩ (.run ⟨some 82, none, .pur (.ixaA 2 1) [.tmp 5, .const (.int .i64 1)]⟩ (.run ⟨some 83, none, .ld none (.tmp 82)⟩ (.both (.eff ⟨some 74, none, .eff (.call 37) [.tmp 73]⟩ [⟨some 83, none, .ld none (.tmp 82)⟩, ⟨some 80, none, .ld none (.tmp 79)⟩, ⟨some 76, none, .ld none (.tmp 75)⟩] (.both (.eff ⟨some 77, none, .eff (.call 37) [.tmp 76]⟩ [⟨some 83, none, .ld none (.tmp 82)⟩, ⟨some 80, none, .ld none (.tmp 79)⟩] (.run ⟨some 78, none, .pur (.bld [.int .i64 0, .int .i64 0] [(0, 1), (1, 1)]) [.tmp 74, .tmp 77]⟩ (.both (.eff ⟨some 81, none, .eff (.call 37) [.tmp 80]⟩ [⟨some 83, none, .ld none (.tmp 82)⟩] (.both (.eff ⟨some 84, none, .eff (.call 37) [.tmp 83]⟩ [] (.run ⟨some 85, none, .pur (.bld [.int .i64 0, .int .i64 0] [(0, 1), (1, 1)]) [.tmp 81, .tmp 84]⟩ (.both (.eff ⟨some 14, none, .eff (.new 57 [.int .i64 0, .int .i64 0]) []⟩ [] (.eff ⟨some 15, none, .eff (.new 57 [.int .i64 0, .int .i64 0]) []⟩ [] (.eff ⟨none, none, .eff (.st 2) [.tmp 14, .tmp 78]⟩ [] (.eff ⟨none, none, .eff (.st 2) [.tmp 15, .tmp 85]⟩ [] .done)))) (.eff ⟨some 15, none, .eff (.new 57 [.int .i64 0, .int .i64 0]) []⟩ [] (.eff ⟨some 14, none, .eff (.new 57 [.int .i64 0, .int .i64 0]) []⟩ [] (.eff ⟨none, none, .eff (.st 2) [.tmp 14, .tmp 78]⟩ [] (.eff ⟨none, none, .eff (.st 2) [.tmp 15, .tmp 85]⟩ [] .done))))))) (.both (.eff ⟨some 14, none, .eff (.new 57 [.int .i64 0, .int .i64 0]) []⟩ [⟨some 83, none, .ld none (.tmp 82)⟩] (.both (.eff ⟨some 84, none, .eff (.call 37) [.tmp 83]⟩ [] (.run ⟨some 85, none, .pur (.bld [.int .i64 0, .int .i64 0] [(0, 1), (1, 1)]) [.tmp 81, .tmp 84]⟩ (.eff ⟨some 15, none, .eff (.new 57 [.int .i64 0, .int .i64 0]) []⟩ [] (.eff ⟨none, none, .eff (.st 2) [.tmp 14, .tmp 78]⟩ [] (.eff ⟨none, none, .eff (.st 2) [.tmp 15, .tmp 85]⟩ [] .done))))) (.eff ⟨some 15, none, .eff (.new 57 [.int .i64 0, .int .i64 0]) []⟩ [⟨some 83, none, .ld none (.tmp 82)⟩] (.eff ⟨some 84, none, .eff (.call 37) [.tmp 83]⟩ [] (.run ⟨some 85, none, .pur (.bld [.int .i64 0, .int .i64 0] [(0, 1), (1, 1)]) [.tmp 81, .tmp 84]⟩ (.eff ⟨none, none, .eff (.st 2) [.tmp 14, .tmp 78]⟩ [] (.eff ⟨none, none, .eff (.st 2) [.tmp 15, .tmp 85]⟩ [] .done))))))) (.eff ⟨some 15, none, .eff (.new 57 [.int .i64 0, .int .i64 0]) []⟩ [⟨some 83, none, .ld none (.tmp 82)⟩] (.both (.eff ⟨some 84, none, .eff (.call 37) [.tmp 83]⟩ [] (.run ⟨some 85, none, .pur (.bld [.int .i64 0, .int .i64 0] [(0, 1), (1, 1)]) [.tmp 81, .tmp 84]⟩ (.eff ⟨some 14, none, .eff (.new 57 [.int .i64 0, .int .i64 0]) []⟩ [] (.eff ⟨none, none, .eff (.st 2) [.tmp 14, .tmp 78]⟩ [] (.eff ⟨none, none, .eff (.st 2) [.tmp 15, .tmp 85]⟩ [] .done))))) (.eff ⟨some 14, none, .eff (.new 57 [.int .i64 0, .int .i64 0]) []⟩ [⟨some 83, none, .ld none (.tmp 82)⟩] (.eff ⟨some 84, none, .eff (.call 37) [.tmp 83]⟩ [] (.run ⟨some 85, none, .pur (.bld [.int .i64 0, .int .i64 0] [(0, 1), (1, 1)]) [.tmp 81, .tmp 84]⟩ (.eff ⟨none, none, .eff (.st 2) [.tmp 14, .tmp 78]⟩ [] (.eff ⟨none, none, .eff (.st 2) [.tmp 15, .tmp 85]⟩ [] .done)))))))))) (.both (.eff ⟨some 14, none, .eff (.new 57 [.int .i64 0, .int .i64 0]) []⟩ [⟨some 83, none, .ld none (.tmp 82)⟩, ⟨some 80, none, .ld none (.tmp 79)⟩] (.both (.eff ⟨some 81, none, .eff (.call 37) [.tmp 80]⟩ [⟨some 83, none, .ld none (.tmp 82)⟩] (.both (.eff ⟨some 84, none, .eff (.call 37) [.tmp 83]⟩ [] (.run ⟨some 85, none, .pur (.bld [.int .i64 0, .int .i64 0] [(0, 1), (1, 1)]) [.tmp 81, .tmp 84]⟩ (.eff ⟨some 15, none, .eff (.new 57 [.int .i64 0, .int .i64 0]) []⟩ [] (.eff ⟨none, none, .eff (.st 2) [.tmp 14, .tmp 78]⟩ [] (.eff ⟨none, none, .eff (.st 2) [.tmp 15, .tmp 85]⟩ [] .done))))) (.eff ⟨some 15, none, .eff (.new 57 [.int .i64 0, .int .i64 0]) []⟩ [⟨some 83, none, .ld none (.tmp 82)⟩] (.eff ⟨some 84, none, .eff (.call 37) [.tmp 83]⟩ [] (.run ⟨some 85, none, .pur (.bld [.int .i64 0, .int .i64 0] [(0, 1), (1, 1)]) [.tmp 81, .tmp 84]⟩ (.eff ⟨none, none, .eff (.st 2) [.tmp 14, .tmp 78]⟩ [] (.eff ⟨none, none, .eff (.st 2) [.tmp 15, .tmp 85]⟩ [] .done))))))) (.eff ⟨some 15, none, .eff (.new 57 [.int .i64 0, .int .i64 0]) []⟩ [⟨some 83, none, .ld none (.tmp 82)⟩, ⟨some 80, none, .ld none (.tmp 79)⟩] (.eff ⟨some 81, none, .eff (.call 37) [.tmp 80]⟩ [⟨some 83, none, .ld none (.tmp 82)⟩] (.eff ⟨some 84, none, .eff (.call 37) [.tmp 83]⟩ [] (.run ⟨some 85, none, .pur (.bld [.int .i64 0, .int .i64 0] [(0, 1), (1, 1)]) [.tmp 81, .tmp 84]⟩ (.eff ⟨none, none, .eff (.st 2) [.tmp 14, .tmp 78]⟩ [] (.eff ⟨none, none, .eff (.st 2) [.tmp 15, .tmp 85]⟩ [] .done)))))))) (.eff ⟨some 15, none, .eff (.new 57 [.int .i64 0, .int .i64 0]) []⟩ [⟨some 83, none, .ld none (.tmp 82)⟩, ⟨some 80, none, .ld none (.tmp 79)⟩] (.both (.eff ⟨some 81, none, .eff (.call 37) [.tmp 80]⟩ [⟨some 83, none, .ld none (.tmp 82)⟩] (.both (.eff ⟨some 84, none, .eff (.call 37) [.tmp 83]⟩ [] (.run ⟨some 85, none, .pur (.bld [.int .i64 0, .int .i64 0] [(0, 1), (1, 1)]) [.tmp 81, .tmp 84]⟩ (.eff ⟨some 14, none, .eff (.new 57 [.int .i64 0, .int .i64 0]) []⟩ [] (.eff ⟨none, none, .eff (.st 2) [.tmp 14, .tmp 78]⟩ [] (.eff ⟨none, none, .eff (.st 2) [.tmp 15, .tmp 85]⟩ [] .done))))) (.eff ⟨some 14, none, .eff (.new 57 [.int .i64 0, .int .i64 0]) []⟩ [⟨some 83, none, .ld none (.tmp 82)⟩] (.eff ⟨some 84, none, .eff (.call 37) [.tmp 83]⟩ [] (.run ⟨some 85, none, .pur (.bld [.int .i64 0, .int .i64 0] [(0, 1), (1, 1)]) [.tmp 81, .tmp 84]⟩ (.eff ⟨none, none, .eff (.st 2) [.tmp 14, .tmp 78]⟩ [] (.eff ⟨none, none, .eff (.st 2) [.tmp 15, .tmp 85]⟩ [] .done))))))) (.eff ⟨some 14, none, .eff (.new 57 [.int .i64 0, .int .i64 0]) []⟩ [⟨some 83, none, .ld none (.tmp 82)⟩, ⟨some 80, none, .ld none (.tmp 79)⟩] (.eff ⟨some 81, none, .eff (.call 37) [.tmp 80]⟩ [⟨some 83, none, .ld none (.tmp 82)⟩] (.eff ⟨some 84, none, .eff (.call 37) [.tmp 83]⟩ [] (.run ⟨some 85, none, .pur (.bld [.int .i64 0, .int .i64 0] [(0, 1), (1, 1)]) [.tmp 81, .tmp 84]⟩ (.eff ⟨none, none, .eff (.st 2) [.tmp 14, .tmp 78]⟩ [] (.eff ⟨none, none, .eff (.st 2) [.tmp 15, .tmp 85]⟩ [] .done)))))))))))) (.both (.eff ⟨some 14, none, .eff (.new 57 [.int .i64 0, .int .i64 0]) []⟩ [⟨some 83, none, .ld none (.tmp 82)⟩, ⟨some 80, none, .ld none (.tmp 79)⟩, ⟨some 76, none, .ld none (.tmp 75)⟩] (.both (.eff ⟨some 77, none, .eff (.call 37) [.tmp 76]⟩ [⟨some 83, none, .ld none (.tmp 82)⟩, ⟨some 80, none, .ld none (.tmp 79)⟩] (.run ⟨some 78, none, .pur (.bld [.int .i64 0, .int .i64 0] [(0, 1), (1, 1)]) [.tmp 74, .tmp 77]⟩ (.both (.eff ⟨some 81, none, .eff (.call 37) [.tmp 80]⟩ [⟨some 83, none, .ld none (.tmp 82)⟩] (.both (.eff ⟨some 84, none, .eff (.call 37) [.tmp 83]⟩ [] (.run ⟨some 85, none, .pur (.bld [.int .i64 0, .int .i64 0] [(0, 1), (1, 1)]) [.tmp 81, .tmp 84]⟩ (.eff ⟨some 15, none, .eff (.new 57 [.int .i64 0, .int .i64 0]) []⟩ [] (.eff ⟨none, none, .eff (.st 2) [.tmp 14, .tmp 78]⟩ [] (.eff ⟨none, none, .eff (.st 2) [.tmp 15, .tmp 85]⟩ [] .done))))) (.eff ⟨some 15, none, .eff (.new 57 [.int .i64 0, .int .i64 0]) []⟩ [⟨some 83, none, .ld none (.tmp 82)⟩] (.eff ⟨some 84, none, .eff (.call 37) [.tmp 83]⟩ [] (.run ⟨some 85, none, .pur (.bld [.int .i64 0, .int .i64 0] [(0, 1), (1, 1)]) [.tmp 81, .tmp 84]⟩ (.eff ⟨none, none, .eff (.st 2) [.tmp 14, .tmp 78]⟩ [] (.eff ⟨none, none, .eff (.st 2) [.tmp 15, .tmp 85]⟩ [] .done))))))) (.eff ⟨some 15, none, .eff (.new 57 [.int .i64 0, .int .i64 0]) []⟩ [⟨some 83, none, .ld none (.tmp 82)⟩, ⟨some 80, none, .ld none (.tmp 79)⟩] (.eff ⟨some 81, none, .eff (.call 37) [.tmp 80]⟩ [⟨some 83, none, .ld none (.tmp 82)⟩] (.eff ⟨some 84, none, .eff (.call 37) [.tmp 83]⟩ [] (.run ⟨some 85, none, .pur (.bld [.int .i64 0, .int .i64 0] [(0, 1), (1, 1)]) [.tmp 81, .tmp 84]⟩ (.eff ⟨none, none, .eff (.st 2) [.tmp 14, .tmp 78]⟩ [] (.eff ⟨none, none, .eff (.st 2) [.tmp 15, .tmp 85]⟩ [] .done))))))))) (.eff ⟨some 15, none, .eff (.new 57 [.int .i64 0, .int .i64 0]) []⟩ [⟨some 83, none, .ld none (.tmp 82)⟩, ⟨some 80, none, .ld none (.tmp 79)⟩, ⟨some 76, none, .ld none (.tmp 75)⟩] (.eff ⟨some 77, none, .eff (.call 37) [.tmp 76]⟩ [⟨some 83, none, .ld none (.tmp 82)⟩, ⟨some 80, none, .ld none (.tmp 79)⟩] (.run ⟨some 78, none, .pur (.bld [.int .i64 0, .int .i64 0] [(0, 1), (1, 1)]) [.tmp 74, .tmp 77]⟩ (.eff ⟨some 81, none, .eff (.call 37) [.tmp 80]⟩ [⟨some 83, none, .ld none (.tmp 82)⟩] (.eff ⟨some 84, none, .eff (.call 37) [.tmp 83]⟩ [] (.run ⟨some 85, none, .pur (.bld [.int .i64 0, .int .i64 0] [(0, 1), (1, 1)]) [.tmp 81, .tmp 84]⟩ (.eff ⟨none, none, .eff (.st 2) [.tmp 14, .tmp 78]⟩ [] (.eff ⟨none, none, .eff (.st 2) [.tmp 15, .tmp 85]⟩ [] .done)))))))))) (.eff ⟨some 15, none, .eff (.new 57 [.int .i64 0, .int .i64 0]) []⟩ [⟨some 83, none, .ld none (.tmp 82)⟩, ⟨some 80, none, .ld none (.tmp 79)⟩, ⟨some 76, none, .ld none (.tmp 75)⟩] (.both (.eff ⟨some 77, none, .eff (.call 37) [.tmp 76]⟩ [⟨some 83, none, .ld none (.tmp 82)⟩, ⟨some 80, none, .ld none (.tmp 79)⟩] (.run ⟨some 78, none, .pur (.bld [.int .i64 0, .int .i64 0] [(0, 1), (1, 1)]) [.tmp 74, .tmp 77]⟩ (.both (.eff ⟨some 81, none, .eff (.call 37) [.tmp 80]⟩ [⟨some 83, none, .ld none (.tmp 82)⟩] (.both (.eff ⟨some 84, none, .eff (.call 37) [.tmp 83]⟩ [] (.run ⟨some 85, none, .pur (.bld [.int .i64 0, .int .i64 0] [(0, 1), (1, 1)]) [.tmp 81, .tmp 84]⟩ (.eff ⟨some 14, none, .eff (.new 57 [.int .i64 0, .int .i64 0]) []⟩ [] (.eff ⟨none, none, .eff (.st 2) [.tmp 14, .tmp 78]⟩ [] (.eff ⟨none, none, .eff (.st 2) [.tmp 15, .tmp 85]⟩ [] .done))))) (.eff ⟨some 14, none, .eff (.new 57 [.int .i64 0, .int .i64 0]) []⟩ [⟨some 83, none, .ld none (.tmp 82)⟩] (.eff ⟨some 84, none, .eff (.call 37) [.tmp 83]⟩ [] (.run ⟨some 85, none, .pur (.bld [.int .i64 0, .int .i64 0] [(0, 1), (1, 1)]) [.tmp 81, .tmp 84]⟩ (.eff ⟨none, none, .eff (.st 2) [.tmp 14, .tmp 78]⟩ [] (.eff ⟨none, none, .eff (.st 2) [.tmp 15, .tmp 85]⟩ [] .done))))))) (.eff ⟨some 14, none, .eff (.new 57 [.int .i64 0, .int .i64 0]) []⟩ [⟨some 83, none, .ld none (.tmp 82)⟩, ⟨some 80, none, .ld none (.tmp 79)⟩] (.eff ⟨some 81, none, .eff (.call 37) [.tmp 80]⟩ [⟨some 83, none, .ld none (.tmp 82)⟩] (.eff ⟨some 84, none, .eff (.call 37) [.tmp 83]⟩ [] (.run ⟨some 85, none, .pur (.bld [.int .i64 0, .int .i64 0] [(0, 1), (1, 1)]) [.tmp 81, .tmp 84]⟩ (.eff ⟨none, none, .eff (.st 2) [.tmp 14, .tmp 78]⟩ [] (.eff ⟨none, none, .eff (.st 2) [.tmp 15, .tmp 85]⟩ [] .done))))))))) (.eff ⟨some 14, none, .eff (.new 57 [.int .i64 0, .int .i64 0]) []⟩ [⟨some 83, none, .ld none (.tmp 82)⟩, ⟨some 80, none, .ld none (.tmp 79)⟩, ⟨some 76, none, .ld none (.tmp 75)⟩] (.eff ⟨some 77, none, .eff (.call 37) [.tmp 76]⟩ [⟨some 83, none, .ld none (.tmp 82)⟩, ⟨some 80, none, .ld none (.tmp 79)⟩] (.run ⟨some 78, none, .pur (.bld [.int .i64 0, .int .i64 0] [(0, 1), (1, 1)]) [.tmp 74, .tmp 77]⟩ (.eff ⟨some 81, none, .eff (.call 37) [.tmp 80]⟩ [⟨some 83, none, .ld none (.tmp 82)⟩] (.eff ⟨some 84, none, .eff (.call 37) [.tmp 83]⟩ [] (.run ⟨some 85, none, .pur (.bld [.int .i64 0, .int .i64 0] [(0, 1), (1, 1)]) [.tmp 81, .tmp 84]⟩ (.eff ⟨none, none, .eff (.st 2) [.tmp 14, .tmp 78]⟩ [] (.eff ⟨none, none, .eff (.st 2) [.tmp 15, .tmp 85]⟩ [] .done))))))))))))) (.both (.eff ⟨some 14, none, .eff (.new 57 [.int .i64 0, .int .i64 0]) []⟩ [⟨some 83, none, .ld none (.tmp 82)⟩, ⟨some 80, none, .ld none (.tmp 79)⟩, ⟨some 76, none, .ld none (.tmp 75)⟩, ⟨some 73, none, .ld none (.tmp 72)⟩] (.both (.eff ⟨some 74, none, .eff (.call 37) [.tmp 73]⟩ [⟨some 83, none, .ld none (.tmp 82)⟩, ⟨some 80, none, .ld none (.tmp 79)⟩, ⟨some 76, none, .ld none (.tmp 75)⟩] (.both (.eff ⟨some 77, none, .eff (.call 37) [.tmp 76]⟩ [⟨some 83, none, .ld none (.tmp 82)⟩, ⟨some 80, none, .ld none (.tmp 79)⟩] (.run ⟨some 78, none, .pur (.bld [.int .i64 0, .int .i64 0] [(0, 1), (1, 1)]) [.tmp 74, .tmp 77]⟩ (.both (.eff ⟨some 81, none, .eff (.call 37) [.tmp 80]⟩ [⟨some 83, none, .ld none (.tmp 82)⟩] (.both (.eff ⟨some 84, none, .eff (.call 37) [.tmp 83]⟩ [] (.run ⟨some 85, none, .pur (.bld [.int .i64 0, .int .i64 0] [(0, 1), (1, 1)]) [.tmp 81, .tmp 84]⟩ (.eff ⟨some 15, none, .eff (.new 57 [.int .i64 0, .int .i64 0]) []⟩ [] (.eff ⟨none, none, .eff (.st 2) [.tmp 14, .tmp 78]⟩ [] (.eff ⟨none, none, .eff (.st 2) [.tmp 15, .tmp 85]⟩ [] .done))))) (.eff ⟨some 15, none, .eff (.new 57 [.int .i64 0, .int .i64 0]) []⟩ [⟨some 83, none, .ld none (.tmp 82)⟩] (.eff ⟨some 84, none, .eff (.call 37) [.tmp 83]⟩ [] (.run ⟨some 85, none, .pur (.bld [.int .i64 0, .int .i64 0] [(0, 1), (1, 1)]) [.tmp 81, .tmp 84]⟩ (.eff ⟨none, none, .eff (.st 2) [.tmp 14, .tmp 78]⟩ [] (.eff ⟨none, none, .eff (.st 2) [.tmp 15, .tmp 85]⟩ [] .done))))))) (.eff ⟨some 15, none, .eff (.new 57 [.int .i64 0, .int .i64 0]) []⟩ [⟨some 83, none, .ld none (.tmp 82)⟩, ⟨some 80, none, .ld none (.tmp 79)⟩] (.eff ⟨some 81, none, .eff (.call 37) [.tmp 80]⟩ [⟨some 83, none, .ld none (.tmp 82)⟩] (.eff ⟨some 84, none, .eff (.call 37) [.tmp 83]⟩ [] (.run ⟨some 85, none, .pur (.bld [.int .i64 0, .int .i64 0] [(0, 1), (1, 1)]) [.tmp 81, .tmp 84]⟩ (.eff ⟨none, none, .eff (.st 2) [.tmp 14, .tmp 78]⟩ [] (.eff ⟨none, none, .eff (.st 2) [.tmp 15, .tmp 85]⟩ [] .done))))))))) (.eff ⟨some 15, none, .eff (.new 57 [.int .i64 0, .int .i64 0]) []⟩ [⟨some 83, none, .ld none (.tmp 82)⟩, ⟨some 80, none, .ld none (.tmp 79)⟩, ⟨some 76, none, .ld none (.tmp 75)⟩] (.eff ⟨some 77, none, .eff (.call 37) [.tmp 76]⟩ [⟨some 83, none, .ld none (.tmp 82)⟩, ⟨some 80, none, .ld none (.tmp 79)⟩] (.run ⟨some 78, none, .pur (.bld [.int .i64 0, .int .i64 0] [(0, 1), (1, 1)]) [.tmp 74, .tmp 77]⟩ (.eff ⟨some 81, none, .eff (.call 37) [.tmp 80]⟩ [⟨some 83, none, .ld none (.tmp 82)⟩] (.eff ⟨some 84, none, .eff (.call 37) [.tmp 83]⟩ [] (.run ⟨some 85, none, .pur (.bld [.int .i64 0, .int .i64 0] [(0, 1), (1, 1)]) [.tmp 81, .tmp 84]⟩ (.eff ⟨none, none, .eff (.st 2) [.tmp 14, .tmp 78]⟩ [] (.eff ⟨none, none, .eff (.st 2) [.tmp 15, .tmp 85]⟩ [] .done)))))))))) (.eff ⟨some 15, none, .eff (.new 57 [.int .i64 0, .int .i64 0]) []⟩ [⟨some 83, none, .ld none (.tmp 82)⟩, ⟨some 80, none, .ld none (.tmp 79)⟩, ⟨some 76, none, .ld none (.tmp 75)⟩, ⟨some 73, none, .ld none (.tmp 72)⟩] (.eff ⟨some 74, none, .eff (.call 37) [.tmp 73]⟩ [⟨some 83, none, .ld none (.tmp 82)⟩, ⟨some 80, none, .ld none (.tmp 79)⟩, ⟨some 76, none, .ld none (.tmp 75)⟩] (.eff ⟨some 77, none, .eff (.call 37) [.tmp 76]⟩ [⟨some 83, none, .ld none (.tmp 82)⟩, ⟨some 80, none, .ld none (.tmp 79)⟩] (.run ⟨some 78, none, .pur (.bld [.int .i64 0, .int .i64 0] [(0, 1), (1, 1)]) [.tmp 74, .tmp 77]⟩ (.eff ⟨some 81, none, .eff (.call 37) [.tmp 80]⟩ [⟨some 83, none, .ld none (.tmp 82)⟩] (.eff ⟨some 84, none, .eff (.call 37) [.tmp 83]⟩ [] (.run ⟨some 85, none, .pur (.bld [.int .i64 0, .int .i64 0] [(0, 1), (1, 1)]) [.tmp 81, .tmp 84]⟩ (.eff ⟨none, none, .eff (.st 2) [.tmp 14, .tmp 78]⟩ [] (.eff ⟨none, none, .eff (.st 2) [.tmp 15, .tmp 85]⟩ [] .done))))))))))) (.eff ⟨some 15, none, .eff (.new 57 [.int .i64 0, .int .i64 0]) []⟩ [⟨some 83, none, .ld none (.tmp 82)⟩, ⟨some 80, none, .ld none (.tmp 79)⟩, ⟨some 76, none, .ld none (.tmp 75)⟩, ⟨some 73, none, .ld none (.tmp 72)⟩] (.both (.eff ⟨some 74, none, .eff (.call 37) [.tmp 73]⟩ [⟨some 83, none, .ld none (.tmp 82)⟩, ⟨some 80, none, .ld none (.tmp 79)⟩, ⟨some 76, none, .ld none (.tmp 75)⟩] (.both (.eff ⟨some 77, none, .eff (.call 37) [.tmp 76]⟩ [⟨some 83, none, .ld none (.tmp 82)⟩, ⟨some 80, none, .ld none (.tmp 79)⟩] (.run ⟨some 78, none, .pur (.bld [.int .i64 0, .int .i64 0] [(0, 1), (1, 1)]) [.tmp 74, .tmp 77]⟩ (.both (.eff ⟨some 81, none, .eff (.call 37) [.tmp 80]⟩ [⟨some 83, none, .ld none (.tmp 82)⟩] (.both (.eff ⟨some 84, none, .eff (.call 37) [.tmp 83]⟩ [] (.run ⟨some 85, none, .pur (.bld [.int .i64 0, .int .i64 0] [(0, 1), (1, 1)]) [.tmp 81, .tmp 84]⟩ (.eff ⟨some 14, none, .eff (.new 57 [.int .i64 0, .int .i64 0]) []⟩ [] (.eff ⟨none, none, .eff (.st 2) [.tmp 14, .tmp 78]⟩ [] (.eff ⟨none, none, .eff (.st 2) [.tmp 15, .tmp 85]⟩ [] .done))))) (.eff ⟨some 14, none, .eff (.new 57 [.int .i64 0, .int .i64 0]) []⟩ [⟨some 83, none, .ld none (.tmp 82)⟩] (.eff ⟨some 84, none, .eff (.call 37) [.tmp 83]⟩ [] (.run ⟨some 85, none, .pur (.bld [.int .i64 0, .int .i64 0] [(0, 1), (1, 1)]) [.tmp 81, .tmp 84]⟩ (.eff ⟨none, none, .eff (.st 2) [.tmp 14, .tmp 78]⟩ [] (.eff ⟨none, none, .eff (.st 2) [.tmp 15, .tmp 85]⟩ [] .done))))))) (.eff ⟨some 14, none, .eff (.new 57 [.int .i64 0, .int .i64 0]) []⟩ [⟨some 83, none, .ld none (.tmp 82)⟩, ⟨some 80, none, .ld none (.tmp 79)⟩] (.eff ⟨some 81, none, .eff (.call 37) [.tmp 80]⟩ [⟨some 83, none, .ld none (.tmp 82)⟩] (.eff ⟨some 84, none, .eff (.call 37) [.tmp 83]⟩ [] (.run ⟨some 85, none, .pur (.bld [.int .i64 0, .int .i64 0] [(0, 1), (1, 1)]) [.tmp 81, .tmp 84]⟩ (.eff ⟨none, none, .eff (.st 2) [.tmp 14, .tmp 78]⟩ [] (.eff ⟨none, none, .eff (.st 2) [.tmp 15, .tmp 85]⟩ [] .done))))))))) (.eff ⟨some 14, none, .eff (.new 57 [.int .i64 0, .int .i64 0]) []⟩ [⟨some 83, none, .ld none (.tmp 82)⟩, ⟨some 80, none, .ld none (.tmp 79)⟩, ⟨some 76, none, .ld none (.tmp 75)⟩] (.eff ⟨some 77, none, .eff (.call 37) [.tmp 76]⟩ [⟨some 83, none, .ld none (.tmp 82)⟩, ⟨some 80, none, .ld none (.tmp 79)⟩] (.run ⟨some 78, none, .pur (.bld [.int .i64 0, .int .i64 0] [(0, 1), (1, 1)]) [.tmp 74, .tmp 77]⟩ (.eff ⟨some 81, none, .eff (.call 37) [.tmp 80]⟩ [⟨some 83, none, .ld none (.tmp 82)⟩] (.eff ⟨some 84, none, .eff (.call 37) [.tmp 83]⟩ [] (.run ⟨some 85, none, .pur (.bld [.int .i64 0, .int .i64 0] [(0, 1), (1, 1)]) [.tmp 81, .tmp 84]⟩ (.eff ⟨none, none, .eff (.st 2) [.tmp 14, .tmp 78]⟩ [] (.eff ⟨none, none, .eff (.st 2) [.tmp 15, .tmp 85]⟩ [] .done)))))))))) (.eff ⟨some 14, none, .eff (.new 57 [.int .i64 0, .int .i64 0]) []⟩ [⟨some 83, none, .ld none (.tmp 82)⟩, ⟨some 80, none, .ld none (.tmp 79)⟩, ⟨some 76, none, .ld none (.tmp 75)⟩, ⟨some 73, none, .ld none (.tmp 72)⟩] (.eff ⟨some 74, none, .eff (.call 37) [.tmp 73]⟩ [⟨some 83, none, .ld none (.tmp 82)⟩, ⟨some 80, none, .ld none (.tmp 79)⟩, ⟨some 76, none, .ld none (.tmp 75)⟩] (.eff ⟨some 77, none, .eff (.call 37) [.tmp 76]⟩ [⟨some 83, none, .ld none (.tmp 82)⟩, ⟨some 80, none, .ld none (.tmp 79)⟩] (.run ⟨some 78, none, .pur (.bld [.int .i64 0, .int .i64 0] [(0, 1), (1, 1)]) [.tmp 74, .tmp 77]⟩ (.eff ⟨some 81, none, .eff (.call 37) [.tmp 80]⟩ [⟨some 83, none, .ld none (.tmp 82)⟩] (.eff ⟨some 84, none, .eff (.call 37) [.tmp 83]⟩ [] (.run ⟨some 85, none, .pur (.bld [.int .i64 0, .int .i64 0] [(0, 1), (1, 1)]) [.tmp 81, .tmp 84]⟩ (.eff ⟨none, none, .eff (.st 2) [.tmp 14, .tmp 78]⟩ [] (.eff ⟨none, none, .eff (.st 2) [.tmp 15, .tmp 85]⟩ [] .done))))))))))))))))))))) [14, 15])
  (.seq (.reg (straight [⟨some 86, none, .ld (some 2) (.tmp 14)⟩, ⟨some 87, none, .ld (some 2) (.tmp 15)⟩, ⟨some 88, none, .pur (.eqs true [.int .i64, .int .i64]) [.tmp 86, .tmp 87]⟩, ⟨some 89, none, .pur .mov [.tmp 88]⟩, ⟨some 90, some (89, true), .pur .mov [.tmp 13]⟩, ⟨some 91, some (89, true), .ld (some 2) (.tmp 14)⟩, ⟨some 92, some (89, true), .ld (some 2) (.tmp 15)⟩, ⟨some 93, some (89, true), .eff (.call 38) [.tmp 90, .tmp 91, .tmp 92]⟩, ⟨some 94, none, .pur .pick [.tmp 89, .tmp 93, .const (.bool false)]⟩, ⟨some 16, none, .pur .mov [.tmp 94]⟩]) [16])
  (.seq (.reg (straight [⟨some 95, none, .pur .mov [.tmp 9]⟩, ⟨some 96, none, .pur .mov [.tmp 16]⟩, ⟨some 97, none, .pur (.eqb false) [.tmp 95, .tmp 96]⟩, ⟨some 98, none, .pur .mov [.tmp 97]⟩, ⟨some 99, some (98, true), .pur .mov [.tmp 9]⟩, ⟨some 100, some (98, true), .pur .mov [.tmp 99]⟩, ⟨some 101, some (100, true), .pur .mov [.tmp 10]⟩, ⟨some 102, some (98, true), .pur .pick [.tmp 100, .tmp 101, .const (.bool false)]⟩, ⟨some 103, some (98, true), .pur .not [.tmp 102]⟩, ⟨some 104, none, .pur .pick [.tmp 98, .tmp 103, .const (.bool false)]⟩, ⟨some 6, none, .pur .mov [.tmp 104]⟩]) [6])
  (.ret)))))))))))))⟩
theorem K_forebaylaw33_GridBefore : compF Try.prog 6 = some S_forebaylaw33_GridBefore := by kernel_rfl

-- 20
def S_log_New : Fun := ⟨3, [0], [.tmp 0],
  .seq (.reg (straight [⟨some 0, none, .pur .mov [.const (.pointer none)]⟩]) [0])
  (.seq (.reg (straight [⟨some 1, none, .pur (.bld [.slice none 0 0] []) []⟩, ⟨some 2, none, .eff (.box 120) [.tmp 1]⟩, ⟨some 0, none, .pur .mov [.tmp 2]⟩]) [0])
  (.ret))⟩
theorem K_log_New : compF Try.prog 20 = some S_log_New := by kernel_rfl

-- 29
def S_forebaylaw33_great_L1 : SCode :=
  .seq (.seq (.reg (straight [⟨some 5, none, .pur .mov [.tmp 4]⟩, ⟨some 6, none, .pur .mov [.tmp 0]⟩, ⟨some 7, none, .pur (.len false) [.tmp 6]⟩, ⟨some 8, none, .pur (.bin .lss) [.tmp 5, .tmp 7]⟩]) [8])
  (.cond (.tmp 8) (.skip) (.exit 0)))
  (.seq (.block 1 (.seq (.reg (straight [⟨some 11, none, .pur .mov [.tmp 3]⟩, ⟨some 12, none, .pur .mov [.tmp 0]⟩, ⟨some 13, none, .pur .mov [.tmp 4]⟩, ⟨some 14, none, .pur (.ixa 1) [.tmp 12, .tmp 13]⟩, ⟨some 15, none, .ld none (.tmp 14)⟩, ⟨some 16, none, .pur (.len false) [.tmp 15]⟩, ⟨some 17, none, .pur (.bin .add) [.tmp 11, .tmp 16]⟩, ⟨some 3, none, .pur .mov [.tmp 17]⟩]) [3])
  (.seq (.reg (straight [⟨some 18, none, .pur .mov [.tmp 4]⟩, ⟨some 19, none, .pur (.bin .gtr) [.tmp 18, .const (.int .i64 102)]⟩, ⟨some 20, none, .pur .mov [.tmp 19]⟩, ⟨some 21, some (20, false), .pur .mov [.tmp 0]⟩, ⟨some 22, some (20, false), .pur .mov [.tmp 4]⟩, ⟨some 23, some (20, false), .pur (.ixa 1) [.tmp 21, .tmp 22]⟩, ⟨some 24, some (20, false), .ld none (.tmp 23)⟩, ⟨some 25, some (20, false), .pur (.len false) [.tmp 24]⟩, ⟨some 26, some (20, false), .pur (.bin .gtr) [.tmp 25, .const (.int .i64 102)]⟩, ⟨some 27, none, .pur .pick [.tmp 20, .const (.bool true), .tmp 26]⟩, ⟨some 28, none, .pur .mov [.tmp 27]⟩, ⟨some 29, some (28, false), .pur .mov [.tmp 3]⟩, ⟨some 30, some (28, false), .pur (.bin .gtr) [.tmp 29, .const (.int .i64 300)]⟩, ⟨some 31, none, .pur .pick [.tmp 28, .const (.bool true), .tmp 30]⟩]) [31])
  (.cond (.tmp 31) (.seq (.reg (straight [⟨some 2, none, .pur .mov [.const (.bool true)]⟩]) [2])
  (.ret)) (.skip)))))
  (.reg (straight [⟨some 9, none, .pur .mov [.tmp 4]⟩, ⟨some 10, none, .pur (.bin .add) [.tmp 9, .const (.int .i64 1)]⟩, ⟨some 4, none, .pur .mov [.tmp 10]⟩]) [4]))
def S_forebaylaw33_great : Fun := ⟨32, [2, 4, 0, 8, 3, 31], [.tmp 2],
  .seq (.reg (straight [⟨some 2, none, .pur .mov [.const (.bool false)]⟩]) [2])
  (.seq (.reg (straight [⟨some 3, none, .pur .mov [.const (.int .i64 0)]⟩]) [3])
  (.seq (.seq (.reg (straight [⟨some 4, none, .pur .mov [.const (.int .i64 0)]⟩]) [4])
  (.block 0 (.loop S_forebaylaw33_great_L1)))
  (.seq (.reg (straight [⟨some 2, none, .pur .mov [.const (.bool false)]⟩]) [2])
  (.ret))))⟩
theorem K_forebaylaw33_great : compF Try.prog 29 = some S_forebaylaw33_great := by kernel_rfl

-- 30
def S_grid_Edges_L3 : SCode :=
  .seq (.reg (straight [⟨some 37, none, .pur (.bin .lss) [.tmp 36, .tmp 35]⟩]) [37])
  (.seq (.cond (.tmp 37) (.skip) (.exit 4))
  (.seq (.block 5 (.seq (.reg (straight [⟨some 38, none, .pur (.ixa 1) [.tmp 34, .tmp 36]⟩, ⟨some 39, none, .ld none (.tmp 38)⟩, ⟨some 11, none, .pur .mov [.tmp 39]⟩]) [11])
  (.reg (straight [⟨some 40, none, .pur .mov [.tmp 5]⟩, ⟨some 41, none, .pur .mov [.tmp 11]⟩, ⟨some 42, none, .pur .mov [.tmp 6]⟩, ⟨some 43, none, .pur (.fla 0) [.tmp 9]⟩, ⟨some 44, none, .ld none (.tmp 43)⟩, ⟨some 45, none, .eff (.call 35) [.tmp 42, .tmp 44]⟩, ⟨some 46, none, .pur (.bld [.complex .f64 0 0, .complex .f64 0 0] [(0, 1), (1, 1)]) [.tmp 41, .tmp 45]⟩, ⟨some 47, none, .eff (.bsl 53 2) [.tmp 46]⟩, ⟨some 48, none, .eff (.app 53 2 32 [.complex .f64 0 0, .complex .f64 0 0]) [.tmp 40, .tmp 47]⟩, ⟨some 5, none, .pur .mov [.tmp 48]⟩]) [5])))
  (.reg (straight [⟨some 49, none, .pur (.bin .add) [.tmp 36, .const (.int .i64 1)]⟩, ⟨some 36, none, .pur .mov [.tmp 49]⟩]) [36])))
def S_grid_Edges_L2 : SCode :=
  .seq (.reg (straight [⟨some 27, none, .pur (.bin .lss) [.tmp 26, .tmp 25]⟩]) [27])
  (.seq (.cond (.tmp 27) (.skip) (.exit 2))
  (.seq (.block 3 (.seq (.reg (straight [⟨some 28, none, .pur .mov [.tmp 26]⟩, ⟨some 29, none, .pur (.ixa 2) [.tmp 24, .tmp 26]⟩, ⟨some 30, none, .ld (some 2) (.tmp 29)⟩, ⟨some 9, none, .eff (.new 139 [.int .i64 0, .bool false]) []⟩, ⟨some 8, none, .pur .mov [.tmp 28]⟩, ⟨none, none, .eff (.st 2) [.tmp 9, .tmp 30]⟩]) [9, 8])
  (.seq (.reg (straight [⟨some 31, none, .pur .mov [.tmp 0]⟩, ⟨some 32, none, .pur .mov [.tmp 6]⟩, ⟨some 33, none, .pur .mov [.tmp 8]⟩, ⟨some 34, none, .eff (.call 90) [.tmp 31, .tmp 32, .tmp 33]⟩, ⟨some 35, none, .pur (.len false) [.tmp 34]⟩, ⟨some 36, none, .pur .mov [.const (.int .i64 0)]⟩]) [34, 35, 36])
  (.block 4 (.loop S_grid_Edges_L3)))))
  (.reg (straight [⟨some 50, none, .pur (.bin .add) [.tmp 26, .const (.int .i64 1)]⟩, ⟨some 26, none, .pur .mov [.tmp 50]⟩]) [26])))
def S_grid_Edges_L1 : SCode :=
  .seq (.reg (straight [⟨some 20, none, .pur (.bin .lss) [.tmp 19, .tmp 18]⟩]) [20])
  (.seq (.cond (.tmp 20) (.skip) (.exit 0))
  (.seq (.block 1 (.seq (.reg (straight [⟨some 21, none, .pur .mov [.tmp 19]⟩, ⟨some 22, none, .pur (.ixa 1) [.tmp 17, .tmp 19]⟩, ⟨some 23, none, .ld none (.tmp 22)⟩, ⟨some 6, none, .pur .mov [.tmp 21]⟩, ⟨some 7, none, .pur .mov [.tmp 23]⟩]) [6, 7])
  (.seq (.reg (straight [⟨some 24, none, .pur .mov [.tmp 7]⟩, ⟨some 25, none, .pur (.len false) [.tmp 24]⟩, ⟨some 26, none, .pur .mov [.const (.int .i64 0)]⟩]) [24, 25, 26])
  (.block 2 (.loop S_grid_Edges_L2)))))
  (.reg (straight [⟨some 51, none, .pur (.bin .add) [.tmp 19, .const (.int .i64 1)]⟩, ⟨some 19, none, .pur .mov [.tmp 51]⟩]) [19])))
def S_grid_Edges : Fun := ⟨53, [2, 3, 0, 4, 15, 19, 18, 20, 17, 7, 26, 25, 27, 24, 6, 8, 36, 35, 37, 34, 5, 11, 9], [.tmp 2, .tmp 3],
  .seq (.reg (straight [⟨some 2, none, .pur .mov [.const (.slice none 0 0)]⟩, ⟨some 3, none, .pur .mov [.const (.int .i64 0)]⟩]) [2, 3])
  (.seq (.seq (.reg (straight [⟨some 12, none, .pur .mov [.tmp 0]⟩, ⟨some 13, none, .eff (.call 33) [.tmp 12]⟩, ⟨some 4, none, .pur .mov [.tmp 13]⟩]) [4])
  (.seq (.reg (straight [⟨some 14, none, .pur .mov [.tmp 4]⟩, ⟨some 15, none, .pur (.bin .neq) [.tmp 14, .const (.int .i64 0)]⟩]) [15])
  (.cond (.tmp 15) (.seq (.reg (straight [⟨some 16, none, .pur .mov [.tmp 4]⟩, ⟨some 2, none, .pur .mov [.const (.slice none 0 0)]⟩, ⟨some 3, none, .pur .mov [.tmp 16]⟩]) [2, 3])
  (.ret)) (.skip))))
  (.seq (.reg (straight [⟨some 5, none, .pur .mov [.const (.slice none 0 0)]⟩]) [5])
  (.seq (.seq (.reg (straight [⟨some 17, none, .pur .mov [.tmp 0]⟩, ⟨some 18, none, .pur (.len false) [.tmp 17]⟩, ⟨some 19, none, .pur .mov [.const (.int .i64 0)]⟩]) [17, 18, 19])
  (.block 0 (.loop S_grid_Edges_L1)))
  (.seq (.reg (straight [⟨some 52, none, .pur .mov [.tmp 5]⟩, ⟨some 2, none, .pur .mov [.tmp 52]⟩, ⟨some 3, none, .pur .mov [.const (.int .i64 0)]⟩]) [2, 3])
  (.ret)))))⟩
theorem K_grid_Edges : compF Try.prog 30 = some S_grid_Edges := by kernel_rfl

-- 33
def S_grid_Check_L1 : SCode :=
  .seq (.reg (straight [⟨some 12, none, .pur (.bin .lss) [.tmp 11, .tmp 10]⟩]) [12])
  (.seq (.cond (.tmp 12) (.skip) (.exit 0))
  (.seq (.block 1 (.seq (.reg (straight [⟨some 13, none, .pur (.ixa 1) [.tmp 9, .tmp 11]⟩, ⟨some 14, none, .ld none (.tmp 13)⟩, ⟨some 4, none, .pur .mov [.tmp 14]⟩]) [4])
  (.seq (.reg (straight [⟨some 15, none, .pur .mov [.tmp 4]⟩, ⟨some 16, none, .eff (.call 91) [.tmp 15]⟩, ⟨some 5, none, .pur .mov [.tmp 16]⟩]) [5])
  (.seq (.reg (straight [⟨some 17, none, .pur .mov [.tmp 5]⟩, ⟨some 18, none, .pur (.bin .neq) [.tmp 17, .const (.int .i64 0)]⟩]) [18])
  (.cond (.tmp 18) (.seq (.reg (straight [⟨some 19, none, .pur .mov [.tmp 5]⟩, ⟨some 2, none, .pur .mov [.tmp 19]⟩]) [2])
  (.ret)) (.skip))))))
  (.reg (straight [⟨some 20, none, .pur (.bin .add) [.tmp 11, .const (.int .i64 1)]⟩, ⟨some 11, none, .pur .mov [.tmp 20]⟩]) [11])))
def S_grid_Check : Fun := ⟨21, [2, 0, 8, 11, 10, 12, 9, 4, 5, 18], [.tmp 2],
  .seq (.reg (straight [⟨some 2, none, .pur .mov [.const (.int .i64 0)]⟩]) [2])
  (.seq (.seq (.reg (straight [⟨some 6, none, .pur .mov [.tmp 0]⟩, ⟨some 7, none, .pur (.len false) [.tmp 6]⟩, ⟨some 8, none, .pur (.bin .gtr) [.tmp 7, .const (.int .i64 100)]⟩]) [8])
  (.cond (.tmp 8) (.seq (.reg (straight [⟨some 2, none, .pur .mov [.const (.int .i64 9)]⟩]) [2])
  (.ret)) (.skip)))
  (.seq (.seq (.reg (straight [⟨some 9, none, .pur .mov [.tmp 0]⟩, ⟨some 10, none, .pur (.len false) [.tmp 9]⟩, ⟨some 11, none, .pur .mov [.const (.int .i64 0)]⟩]) [9, 10, 11])
  (.block 0 (.loop S_grid_Check_L1)))
  (.seq (.reg (straight [⟨some 2, none, .pur .mov [.const (.int .i64 0)]⟩]) [2])
  (.ret))))⟩
theorem K_grid_Check : compF Try.prog 33 = some S_grid_Check := by kernel_rfl

-- 45
def S_reach_New_L3 : SCode :=
  .seq (.reg (straight [⟨some 56, none, .pur (.bin .lss) [.tmp 55, .tmp 54]⟩]) [56])
  (.seq (.cond (.tmp 56) (.skip) (.exit 4))
  (.seq (.block 5 (.seq (.reg (straight [⟨some 57, none, .pur .mov [.tmp 55]⟩, ⟨some 58, none, .pur (.ixa 1) [.tmp 53, .tmp 55]⟩, ⟨some 59, none, .ld none (.tmp 58)⟩, ⟨some 11, none, .pur .mov [.tmp 57]⟩, ⟨some 12, none, .pur .mov [.tmp 59]⟩]) [11, 12])
  (.reg (straight [⟨some 60, none, .pur .mov [.tmp 8]⟩, ⟨some 61, none, .pur .mov [.tmp 11]⟩, ⟨some 62, none, .pur (.ixa 1) [.tmp 60, .tmp 61]⟩, ⟨some 63, none, .ld none (.tmp 62)⟩, ⟨some 64, none, .pur .mov [.tmp 12]⟩, ⟨some 65, none, .pur (.bin .or) [.tmp 63, .tmp 64]⟩, ⟨some 66, none, .pur (.ixa 1) [.tmp 60, .tmp 61]⟩, ⟨none, none, .eff (.st 1) [.tmp 66, .tmp 65]⟩]) [])))
  (.reg (straight [⟨some 67, none, .pur (.bin .add) [.tmp 55, .const (.int .i64 1)]⟩, ⟨some 55, none, .pur .mov [.tmp 67]⟩]) [55])))
def S_reach_New_L2 : SCode :=
  .seq (.reg (straight [⟨some 34, none, .pur (.bin .lss) [.tmp 33, .tmp 32]⟩]) [34])
  (.seq (.cond (.tmp 34) (.skip) (.exit 2))
  (.seq (.block 3 (.seq (.reg (straight [⟨some 35, none, .pur (.ixa 1) [.tmp 31, .tmp 33]⟩, ⟨some 36, none, .ld none (.tmp 35)⟩, ⟨some 10, none, .pur .mov [.tmp 36]⟩]) [10])
  (.seq (.reg (.run ⟨some 37, none, .pur .mov [.tmp 8]⟩ (.run ⟨some 38, none, .pur .mov [.tmp 10]⟩ (.run ⟨some 39, none, .pur (.bin .quo) [.tmp 38, .const (.int .i64 64)]⟩ (.run ⟨some 40, none, .pur (.ixa 1) [.tmp 37, .tmp 39]⟩ (.run ⟨some 41, none, .ld none (.tmp 40)⟩ (.run ⟨some 42, none, .pur .mov [.tmp 10]⟩ (.run ⟨some 43, none, .pur (.bin .rem) [.tmp 42, .const (.int .i64 64)]⟩ (.run ⟨some 44, none, .pur (.bin .shl) [.const (.int .u64 1), .tmp 43]⟩ (.run ⟨some 45, none, .pur (.bin .or) [.tmp 41, .tmp 44]⟩ (.run ⟨some 46, none, .pur (.ixa 1) [.tmp 37, .tmp 39]⟩ (.eff ⟨none, none, .eff (.st 1) [.tmp 46, .tmp 45]⟩ [] .done))))))))))) [])
  (.seq (.reg (straight [⟨some 47, none, .pur .mov [.tmp 5]⟩, ⟨some 48, none, .pur .nilc [.tmp 47]⟩, ⟨some 49, none, .pur (.fla 0) [.tmp 48]⟩, ⟨some 50, none, .ld none (.tmp 49)⟩, ⟨some 51, none, .pur .mov [.tmp 10]⟩, ⟨some 52, none, .pur (.ixa 1) [.tmp 50, .tmp 51]⟩, ⟨some 53, none, .ld none (.tmp 52)⟩, ⟨some 54, none, .pur (.len false) [.tmp 53]⟩, ⟨some 55, none, .pur .mov [.const (.int .i64 0)]⟩]) [53, 54, 55])
  (.block 4 (.loop S_reach_New_L3))))))
  (.reg (straight [⟨some 68, none, .pur (.bin .add) [.tmp 33, .const (.int .i64 1)]⟩, ⟨some 33, none, .pur .mov [.tmp 68]⟩]) [33])))
def S_reach_New_L1 : SCode :=
  .seq (.reg (straight [⟨some 23, none, .pur (.bin .lss) [.tmp 22, .tmp 21]⟩]) [23])
  (.seq (.cond (.tmp 23) (.skip) (.exit 0))
  (.seq (.block 1 (.seq (.reg (straight [⟨some 24, none, .pur .mov [.tmp 22]⟩, ⟨some 25, none, .pur (.ixa 1) [.tmp 20, .tmp 22]⟩, ⟨some 26, none, .ld none (.tmp 25)⟩, ⟨some 6, none, .pur .mov [.tmp 24]⟩, ⟨some 7, none, .pur .mov [.tmp 26]⟩]) [6, 7])
  (.seq (.reg (straight [⟨some 27, none, .pur .mov [.tmp 6]⟩, ⟨some 28, none, .pur (.bin .quo) [.tmp 27, .const (.int .i64 64)]⟩, ⟨some 29, none, .pur (.bin .add) [.tmp 28, .const (.int .i64 1)]⟩, ⟨some 30, none, .eff (.mks 36 1 8 [.int .u64 0]) [.tmp 29, .tmp 29]⟩, ⟨some 8, none, .pur .mov [.tmp 30]⟩]) [8])
  (.seq (.seq (.reg (straight [⟨some 31, none, .pur .mov [.tmp 7]⟩, ⟨some 32, none, .pur (.len false) [.tmp 31]⟩, ⟨some 33, none, .pur .mov [.const (.int .i64 0)]⟩]) [31, 32, 33])
  (.block 2 (.loop S_reach_New_L2)))
  (.reg (straight [⟨some 69, none, .pur .mov [.tmp 5]⟩, ⟨some 70, none, .pur .mov [.tmp 5]⟩, ⟨some 71, none, .pur .nilc [.tmp 70]⟩, ⟨some 72, none, .pur (.fla 0) [.tmp 71]⟩, ⟨some 73, none, .ld none (.tmp 72)⟩, ⟨some 74, none, .pur .mov [.tmp 8]⟩, ⟨some 75, none, .eff (.bsl 149 1) [.tmp 74]⟩, ⟨some 76, none, .eff (.app 149 1 24 [.slice none 0 0]) [.tmp 73, .tmp 75]⟩, ⟨some 77, none, .pur .nilc [.tmp 69]⟩, ⟨some 78, none, .pur (.fla 0) [.tmp 77]⟩, ⟨none, none, .eff (.st 1) [.tmp 78, .tmp 76]⟩]) [])))))
  (.reg (straight [⟨some 79, none, .pur (.bin .add) [.tmp 22, .const (.int .i64 1)]⟩, ⟨some 22, none, .pur .mov [.tmp 79]⟩]) [22])))
def S_reach_New : Fun := ⟨81, [2, 3, 0, 4, 16, 22, 21, 23, 20, 6, 7, 33, 32, 34, 31, 8, 10, 5, 55, 54, 56, 53, 11, 12], [.tmp 2, .tmp 3],
  .seq (.reg (straight [⟨some 2, none, .pur .mov [.const (.pointer none)]⟩, ⟨some 3, none, .pur .mov [.const (.int .i64 0)]⟩]) [2, 3])
  (.seq (.seq (.reg (straight [⟨some 13, none, .pur .mov [.tmp 0]⟩, ⟨some 14, none, .eff (.call 94) [.tmp 13]⟩, ⟨some 4, none, .pur .mov [.tmp 14]⟩]) [4])
  (.seq (.reg (straight [⟨some 15, none, .pur .mov [.tmp 4]⟩, ⟨some 16, none, .pur (.bin .neq) [.tmp 15, .const (.int .i64 0)]⟩]) [16])
  (.cond (.tmp 16) (.seq (.reg (straight [⟨some 17, none, .pur .mov [.tmp 4]⟩, ⟨some 2, none, .pur .mov [.const (.pointer none)]⟩, ⟨some 3, none, .pur .mov [.tmp 17]⟩]) [2, 3])
  (.ret)) (.skip))))
  (.seq (.reg (straight [⟨some 18, none, .pur (.bld [.slice none 0 0] []) []⟩, ⟨some 19, none, .eff (.box 147) [.tmp 18]⟩, ⟨some 5, none, .pur .mov [.tmp 19]⟩]) [5])
  (.seq (.seq (.reg (straight [⟨some 20, none, .pur .mov [.tmp 0]⟩, ⟨some 21, none, .pur (.len false) [.tmp 20]⟩, ⟨some 22, none, .pur .mov [.const (.int .i64 0)]⟩]) [20, 21, 22])
  (.block 0 (.loop S_reach_New_L1)))
  (.seq (.reg (straight [⟨some 80, none, .pur .mov [.tmp 5]⟩, ⟨some 2, none, .pur .mov [.tmp 80]⟩, ⟨some 3, none, .pur .mov [.const (.int .i64 0)]⟩]) [2, 3])
  (.ret)))))⟩
theorem K_reach_New : compF Try.prog 45 = some S_reach_New := by kernel_rfl

-- 47
def S_forebayref31_Check_L2 : SCode :=
  .seq (.seq (.reg (straight [⟨some 14, none, .pur .mov [.tmp 4]⟩, ⟨some 15, none, .pur .mov [.tmp 0]⟩, ⟨some 16, none, .pur .mov [.tmp 3]⟩, ⟨some 17, none, .pur (.ixa 1) [.tmp 15, .tmp 16]⟩, ⟨some 18, none, .ld none (.tmp 17)⟩, ⟨some 19, none, .pur (.len false) [.tmp 18]⟩, ⟨some 20, none, .pur (.bin .lss) [.tmp 14, .tmp 19]⟩]) [20])
  (.cond (.tmp 20) (.skip) (.exit 2)))
  (.seq (.block 3 (.seq (.reg (straight [⟨some 23, none, .pur .mov [.tmp 0]⟩, ⟨some 24, none, .pur .mov [.tmp 3]⟩, ⟨some 25, none, .pur (.ixa 1) [.tmp 23, .tmp 24]⟩, ⟨some 26, none, .ld none (.tmp 25)⟩, ⟨some 27, none, .pur .mov [.tmp 4]⟩, ⟨some 28, none, .pur (.ixa 1) [.tmp 26, .tmp 27]⟩, ⟨some 29, none, .ld none (.tmp 28)⟩, ⟨some 30, none, .pur (.bin .lss) [.tmp 29, .const (.int .i64 0)]⟩, ⟨some 31, none, .pur .mov [.tmp 30]⟩, ⟨some 32, some (31, false), .pur .mov [.tmp 0]⟩, ⟨some 33, some (31, false), .pur .mov [.tmp 3]⟩, ⟨some 34, some (31, false), .pur (.ixa 1) [.tmp 32, .tmp 33]⟩, ⟨some 35, some (31, false), .ld none (.tmp 34)⟩, ⟨some 36, some (31, false), .pur .mov [.tmp 4]⟩, ⟨some 37, some (31, false), .pur (.ixa 1) [.tmp 35, .tmp 36]⟩, ⟨some 38, some (31, false), .ld none (.tmp 37)⟩, ⟨some 39, some (31, false), .pur .mov [.tmp 3]⟩, ⟨some 40, some (31, false), .pur (.bin .geq) [.tmp 38, .tmp 39]⟩, ⟨some 41, none, .pur .pick [.tmp 31, .const (.bool true), .tmp 40]⟩]) [41])
  (.cond (.tmp 41) (.seq (.reg (straight [⟨some 2, none, .pur .mov [.const (.int .i64 3)]⟩]) [2])
  (.ret)) (.skip))))
  (.reg (straight [⟨some 21, none, .pur .mov [.tmp 4]⟩, ⟨some 22, none, .pur (.bin .add) [.tmp 21, .const (.int .i64 1)]⟩, ⟨some 4, none, .pur .mov [.tmp 22]⟩]) [4]))
def S_forebayref31_Check_L1 : SCode :=
  .seq (.seq (.reg (straight [⟨some 8, none, .pur .mov [.tmp 3]⟩, ⟨some 9, none, .pur .mov [.tmp 0]⟩, ⟨some 10, none, .pur (.len false) [.tmp 9]⟩, ⟨some 11, none, .pur (.bin .lss) [.tmp 8, .tmp 10]⟩]) [11])
  (.cond (.tmp 11) (.skip) (.exit 0)))
  (.seq (.block 1 (.seq (.reg (straight [⟨some 4, none, .pur .mov [.const (.int .i64 0)]⟩]) [4])
  (.block 2 (.loop S_forebayref31_Check_L2))))
  (.reg (straight [⟨some 12, none, .pur .mov [.tmp 3]⟩, ⟨some 13, none, .pur (.bin .add) [.tmp 12, .const (.int .i64 1)]⟩, ⟨some 3, none, .pur .mov [.tmp 13]⟩]) [3]))
def S_forebayref31_Check : Fun := ⟨42, [2, 0, 7, 3, 11, 4, 20, 41], [.tmp 2],
  .seq (.reg (straight [⟨some 2, none, .pur .mov [.const (.int .i64 0)]⟩]) [2])
  (.seq (.seq (.reg (straight [⟨some 5, none, .pur .mov [.tmp 0]⟩, ⟨some 6, none, .pur (.len false) [.tmp 5]⟩, ⟨some 7, none, .pur (.bin .gtr) [.tmp 6, .const (.int .i64 1000)]⟩]) [7])
  (.cond (.tmp 7) (.seq (.reg (straight [⟨some 2, none, .pur .mov [.const (.int .i64 9)]⟩]) [2])
  (.ret)) (.skip)))
  (.seq (.seq (.reg (straight [⟨some 3, none, .pur .mov [.const (.int .i64 0)]⟩]) [3])
  (.block 0 (.loop S_forebayref31_Check_L1)))
  (.seq (.reg (straight [⟨some 2, none, .pur .mov [.const (.int .i64 0)]⟩]) [2])
  (.ret))))⟩
theorem K_forebayref31_Check : compF Try.prog 47 = some S_forebayref31_Check := by kernel_rfl

-- 65
def S_forebayref41_Plan_L3 : SCode :=
  .seq (.seq (.reg (straight [⟨some 36, none, .pur .mov [.tmp 11]⟩, ⟨some 37, none, .pur .mov [.tmp 0]⟩, ⟨some 38, none, .pur .mov [.tmp 9]⟩, ⟨some 39, none, .pur (.ixa 1) [.tmp 37, .tmp 38]⟩, ⟨some 40, none, .ld none (.tmp 39)⟩, ⟨some 41, none, .pur (.len false) [.tmp 40]⟩, ⟨some 42, none, .pur (.bin .lss) [.tmp 36, .tmp 41]⟩]) [42])
  (.cond (.tmp 42) (.skip) (.exit 4)))
  (.seq (.block 5 (.reg (straight [⟨some 45, none, .pur .mov [.tmp 10]⟩, ⟨some 46, none, .pur .mov [.tmp 45]⟩, ⟨some 47, some (46, true), .pur .mov [.tmp 7]⟩, ⟨some 48, some (46, true), .pur .mov [.tmp 0]⟩, ⟨some 49, some (46, true), .pur .mov [.tmp 9]⟩, ⟨some 50, some (46, true), .pur (.ixa 1) [.tmp 48, .tmp 49]⟩, ⟨some 51, some (46, true), .ld none (.tmp 50)⟩, ⟨some 52, some (46, true), .pur .mov [.tmp 11]⟩, ⟨some 53, some (46, true), .pur (.ixa 1) [.tmp 51, .tmp 52]⟩, ⟨some 54, some (46, true), .ld none (.tmp 53)⟩, ⟨some 55, some (46, true), .eff (.call 101) [.tmp 47, .tmp 54]⟩, ⟨some 56, none, .pur .pick [.tmp 46, .tmp 55, .const (.bool false)]⟩, ⟨some 10, none, .pur .mov [.tmp 56]⟩]) [10]))
  (.reg (straight [⟨some 43, none, .pur .mov [.tmp 11]⟩, ⟨some 44, none, .pur (.bin .add) [.tmp 43, .const (.int .i64 1)]⟩, ⟨some 11, none, .pur .mov [.tmp 44]⟩]) [11]))
def S_forebayref41_Plan_L2 : SCode :=
  .seq (.seq (.reg (straight [⟨some 20, none, .pur .mov [.tmp 9]⟩, ⟨some 21, none, .pur .mov [.tmp 0]⟩, ⟨some 22, none, .pur (.len false) [.tmp 21]⟩, ⟨some 23, none, .pur (.bin .lss) [.tmp 20, .tmp 22]⟩, ⟨some 24, none, .pur .mov [.tmp 23]⟩, ⟨some 25, some (24, true), .pur .mov [.tmp 8]⟩, ⟨some 26, some (24, true), .pur (.len false) [.tmp 25]⟩, ⟨some 27, some (24, true), .pur .mov [.tmp 5]⟩, ⟨some 28, some (24, true), .pur (.bin .lss) [.tmp 26, .tmp 27]⟩, ⟨some 29, none, .pur .pick [.tmp 24, .tmp 28, .const (.bool false)]⟩]) [29])
  (.cond (.tmp 29) (.skip) (.exit 2)))
  (.seq (.block 3 (.seq (.reg (straight [⟨some 32, none, .pur .mov [.tmp 7]⟩, ⟨some 33, none, .pur .mov [.tmp 9]⟩, ⟨some 34, none, .eff (.call 101) [.tmp 32, .tmp 33]⟩, ⟨some 35, none, .pur .not [.tmp 34]⟩, ⟨some 10, none, .pur .mov [.tmp 35]⟩]) [10])
  (.seq (.seq (.reg (straight [⟨some 11, none, .pur .mov [.const (.int .i64 0)]⟩]) [11])
  (.block 4 (.loop S_forebayref41_Plan_L3)))
  (.seq (.reg (straight [⟨some 57, none, .pur .mov [.tmp 10]⟩]) [57])
  (.cond (.tmp 57) (.reg (straight [⟨some 58, none, .pur .mov [.tmp 8]⟩, ⟨some 59, none, .pur .mov [.tmp 9]⟩, ⟨some 60, none, .eff (.bsl 3 1) [.tmp 59]⟩, ⟨some 61, none, .eff (.app 3 1 8 [.int .i64 0]) [.tmp 58, .tmp 60]⟩, ⟨some 8, none, .pur .mov [.tmp 61]⟩]) [8]) (.skip))))))
  (.reg (straight [⟨some 30, none, .pur .mov [.tmp 9]⟩, ⟨some 31, none, .pur (.bin .add) [.tmp 30, .const (.int .i64 1)]⟩, ⟨some 9, none, .pur .mov [.tmp 31]⟩]) [9]))
def S_forebayref41_Plan_L1 : SCode :=
  .seq (.seq (.reg (straight [⟨some 15, none, .pur .mov [.tmp 7]⟩, ⟨some 16, none, .pur (.len false) [.tmp 15]⟩, ⟨some 17, none, .pur .mov [.tmp 0]⟩, ⟨some 18, none, .pur (.len false) [.tmp 17]⟩, ⟨some 19, none, .pur (.bin .lss) [.tmp 16, .tmp 18]⟩]) [19])
  (.cond (.tmp 19) (.skip) (.exit 0)))
  (.block 1 (.seq (.reg (straight [⟨some 8, none, .pur .mov [.const (.slice none 0 0)]⟩]) [8])
  (.seq (.seq (.reg (straight [⟨some 9, none, .pur .mov [.const (.int .i64 0)]⟩]) [9])
  (.block 2 (.loop S_forebayref41_Plan_L2)))
  (.seq (.reg (straight [⟨some 62, none, .pur .mov [.tmp 7]⟩, ⟨some 63, none, .pur .mov [.tmp 8]⟩, ⟨some 64, none, .eff (.app 3 1 8 [.int .i64 0]) [.tmp 62, .tmp 63]⟩, ⟨some 7, none, .pur .mov [.tmp 64]⟩]) [7])
  (.reg (straight [⟨some 65, none, .pur .mov [.tmp 6]⟩, ⟨some 66, none, .pur .mov [.tmp 8]⟩, ⟨some 67, none, .eff (.bsl 29 1) [.tmp 66]⟩, ⟨some 68, none, .eff (.app 29 1 24 [.slice none 0 0]) [.tmp 65, .tmp 67]⟩, ⟨some 6, none, .pur .mov [.tmp 68]⟩]) [6])))))
def S_forebayref41_Plan : Fun := ⟨70, [4, 1, 7, 0, 19, 9, 8, 5, 29, 11, 42, 10, 57, 6], [.tmp 4],
  .seq (.reg (straight [⟨some 4, none, .pur .mov [.const (.slice none 0 0)]⟩]) [4])
  (.seq (.reg (straight [⟨some 12, none, .pur .mov [.tmp 1]⟩, ⟨some 13, none, .pur (.minmax true) [.tmp 12, .const (.int .i64 1)]⟩, ⟨some 14, none, .pur (.minmax false) [.tmp 13, .const (.int .i64 64)]⟩, ⟨some 5, none, .pur .mov [.tmp 14]⟩]) [5])
  (.seq (.reg (straight [⟨some 6, none, .pur .mov [.const (.slice none 0 0)]⟩]) [6])
  (.seq (.reg (straight [⟨some 7, none, .pur .mov [.const (.slice none 0 0)]⟩]) [7])
  (.seq (.block 0 (.loop S_forebayref41_Plan_L1))
  (.seq (.reg (straight [⟨some 69, none, .pur .mov [.tmp 6]⟩, ⟨some 4, none, .pur .mov [.tmp 69]⟩]) [4])
  (.ret))))))⟩
theorem K_forebayref41_Plan : compF Try.prog 65 = some S_forebayref41_Plan := by kernel_rfl

-- 84
def S_compare_Agrees : Fun := ⟨29, [4, 0, 1, 2, 5, 3, 15, 22], [.tmp 4],
  .seq (.reg (straight [⟨some 2, none, .eff (.box 129) [.tmp 0]⟩, ⟨some 3, none, .eff (.box 131) [.tmp 1]⟩, ⟨some 4, none, .pur .mov [.const (.int .i64 0)]⟩]) [2, 3, 4])
  (.seq (.block 0 (.seq (.seq (.reg (straight [⟨some 6, none, .pur (.fla 0) [.tmp 2]⟩, ⟨some 7, none, .ld none (.tmp 6)⟩, ⟨some 8, none, .pur (.bin .neq) [.tmp 7, .const (.int .i64 1)]⟩, ⟨some 5, none, .pur .mov [.tmp 8]⟩]) [5])
  (.cond (.tmp 5) (.skip) (.seq (.reg (straight [⟨some 9, none, .pur (.fla 1) [.tmp 2]⟩, ⟨some 10, none, .ld none (.tmp 9)⟩, ⟨some 11, none, .pur (.bin .neq) [.tmp 10, .const (.int .i64 0)]⟩, ⟨some 5, none, .pur .mov [.tmp 11]⟩]) [5])
  (.cond (.tmp 5) (.skip) (.reg (straight [⟨some 12, none, .pur (.fla 0) [.tmp 3]⟩, ⟨some 13, none, .ld none (.tmp 12)⟩, ⟨some 14, none, .pur (.bin .neq) [.tmp 13, .const (.int .i64 1)]⟩, ⟨some 5, none, .pur .mov [.tmp 14]⟩]) [5])))))
  (.cond (.tmp 5) (.seq (.reg (straight [⟨some 4, none, .pur .mov [.const (.int .i64 8)]⟩]) [4])
  (.ret)) (.seq (.reg (straight [⟨some 16, none, .pur (.fla 2) [.tmp 2]⟩, ⟨some 17, none, .ld none (.tmp 16)⟩, ⟨some 18, none, .pur (.fla 2) [.tmp 3]⟩, ⟨some 19, none, .ld none (.tmp 18)⟩, ⟨some 20, none, .eff (.call 112) [.tmp 17, .tmp 19]⟩, ⟨some 21, none, .pur .not [.tmp 20]⟩, ⟨some 15, none, .pur .mov [.tmp 21]⟩]) [15])
  (.cond (.tmp 15) (.seq (.reg (straight [⟨some 4, none, .pur .mov [.const (.int .i64 4)]⟩]) [4])
  (.ret)) (.seq (.reg (straight [⟨some 23, none, .pur (.fla 3) [.tmp 2]⟩, ⟨some 24, none, .ld none (.tmp 23)⟩, ⟨some 25, none, .pur (.fla 3) [.tmp 3]⟩, ⟨some 26, none, .ld none (.tmp 25)⟩, ⟨some 27, none, .eff (.call 112) [.tmp 24, .tmp 26]⟩, ⟨some 28, none, .pur .not [.tmp 27]⟩, ⟨some 22, none, .pur .mov [.tmp 28]⟩]) [22])
  (.cond (.tmp 22) (.seq (.reg (straight [⟨some 4, none, .pur .mov [.const (.int .i64 3)]⟩]) [4])
  (.ret)) (.skip))))))))
  (.seq (.reg (straight [⟨some 4, none, .pur .mov [.const (.int .i64 0)]⟩]) [4])
  (.ret)))⟩
theorem K_compare_Agrees : compF Try.prog 84 = some S_compare_Agrees := by kernel_rfl

-- 86
def S_slices_ContainsFunc_api_Result_api_Result : Fun := ⟨9, [4, 0, 1], [.tmp 4],
  .seq (.reg (straight [⟨some 4, none, .pur .mov [.const (.bool false)]⟩]) [4])
  (.seq (.reg (straight [⟨some 5, none, .pur .mov [.tmp 0]⟩, ⟨some 6, none, .pur .mov [.tmp 1]⟩, ⟨some 7, none, .eff (.call 113) [.tmp 5, .tmp 6]⟩, ⟨some 8, none, .pur (.bin .geq) [.tmp 7, .const (.int .i64 0)]⟩, ⟨some 4, none, .pur .mov [.tmp 8]⟩]) [4])
  (.ret))⟩
theorem K_slices_ContainsFunc_api_Result_api_Result : compF Try.prog 86 = some S_slices_ContainsFunc_api_Result_api_Result := by kernel_rfl

-- 89
def S_forebaylaw33_two : Fun := ⟨8, [0], [.tmp 0],
  .seq (.reg (straight [⟨some 0, none, .pur .mov [.const (.slice none 0 0)]⟩]) [0])
  (.seq (.reg (straight [⟨some 1, none, .pur (.bld [.int .i64 0, .bool false] []) []⟩, ⟨some 2, none, .pur (.bld [.int .i64 0, .bool false] [(0, 1)]) [.const (.int .i64 1)]⟩, ⟨some 3, none, .eff (.bsl 139 2) [.tmp 1, .tmp 2]⟩, ⟨some 4, none, .pur (.bld [.int .i64 0, .bool false] []) []⟩, ⟨some 5, none, .pur (.bld [.int .i64 0, .bool false] [(0, 1), (1, 1)]) [.const (.int .i64 1), .const (.bool true)]⟩, ⟨some 6, none, .eff (.bsl 139 2) [.tmp 4, .tmp 5]⟩, ⟨some 7, none, .eff (.bsl 59 1) [.tmp 3, .tmp 6]⟩, ⟨some 0, none, .pur .mov [.tmp 7]⟩]) [0])
  (.ret))⟩
theorem K_forebaylaw33_two : compF Try.prog 89 = some S_forebaylaw33_two := by kernel_rfl

-- 91
def S_grid_row_L1 : SCode :=
  .seq (.seq (.reg (straight [⟨some 22, none, .pur .mov [.tmp 3]⟩, ⟨some 23, none, .pur .mov [.tmp 0]⟩, ⟨some 24, none, .pur (.len false) [.tmp 23]⟩, ⟨some 25, none, .pur (.bin .lss) [.tmp 22, .tmp 24]⟩]) [25])
  (.cond (.tmp 25) (.skip) (.exit 1)))
  (.seq (.block 2 (.seq (.reg (straight [⟨some 28, none, .pur .mov [.tmp 0]⟩, ⟨some 29, none, .pur .mov [.tmp 3]⟩, ⟨some 30, none, .pur (.ixa 2) [.tmp 28, .tmp 29]⟩, ⟨some 31, none, .pur (.fla 0) [.tmp 30]⟩, ⟨some 32, none, .ld none (.tmp 31)⟩, ⟨some 33, none, .pur .mov [.tmp 0]⟩, ⟨some 34, none, .pur .mov [.tmp 3]⟩, ⟨some 35, none, .pur (.bin .sub) [.tmp 34, .const (.int .i64 1)]⟩, ⟨some 36, none, .pur (.ixa 2) [.tmp 33, .tmp 35]⟩, ⟨some 37, none, .pur (.fla 0) [.tmp 36]⟩, ⟨some 38, none, .ld none (.tmp 37)⟩, ⟨some 39, none, .pur (.bin .leq) [.tmp 32, .tmp 38]⟩, ⟨some 40, none, .pur .mov [.tmp 39]⟩, ⟨some 41, some (40, false), .pur .mov [.tmp 0]⟩, ⟨some 42, some (40, false), .pur .mov [.tmp 3]⟩, ⟨some 43, some (40, false), .pur (.ixa 2) [.tmp 41, .tmp 42]⟩, ⟨some 44, some (40, false), .pur (.fla 0) [.tmp 43]⟩, ⟨some 45, some (40, false), .ld none (.tmp 44)⟩, ⟨some 46, some (40, false), .pur (.bin .gtr) [.tmp 45, .const (.int .i64 1048575)]⟩, ⟨some 47, none, .pur .pick [.tmp 40, .const (.bool true), .tmp 46]⟩]) [47])
  (.cond (.tmp 47) (.seq (.reg (straight [⟨some 2, none, .pur .mov [.const (.int .i64 4)]⟩]) [2])
  (.ret)) (.skip))))
  (.reg (straight [⟨some 26, none, .pur .mov [.tmp 3]⟩, ⟨some 27, none, .pur (.bin .add) [.tmp 26, .const (.int .i64 1)]⟩, ⟨some 3, none, .pur .mov [.tmp 27]⟩]) [3]))
def S_grid_row : Fun := ⟨48, [2, 0, 4, 8, 12, 3, 25, 47], [.tmp 2],
  .seq (.reg (straight [⟨some 2, none, .pur .mov [.const (.int .i64 0)]⟩]) [2])
  (.seq (.block 0 (.seq (.reg (straight [⟨some 5, none, .pur .mov [.tmp 0]⟩, ⟨some 6, none, .pur (.len false) [.tmp 5]⟩, ⟨some 7, none, .pur (.bin .gtr) [.tmp 6, .const (.int .i64 100)]⟩, ⟨some 4, none, .pur .mov [.tmp 7]⟩]) [4])
  (.cond (.tmp 4) (.seq (.reg (straight [⟨some 2, none, .pur .mov [.const (.int .i64 9)]⟩]) [2])
  (.ret)) (.seq (.reg (straight [⟨some 9, none, .pur .mov [.tmp 0]⟩, ⟨some 10, none, .pur (.len false) [.tmp 9]⟩, ⟨some 11, none, .pur (.bin .eql) [.tmp 10, .const (.int .i64 0)]⟩, ⟨some 8, none, .pur .mov [.tmp 11]⟩]) [8])
  (.cond (.tmp 8) (.seq (.reg (straight [⟨some 2, none, .pur .mov [.const (.int .i64 7)]⟩]) [2])
  (.ret)) (.seq (.seq (.reg (straight [⟨some 13, none, .pur .mov [.tmp 0]⟩, ⟨some 14, none, .pur (.ixa 2) [.tmp 13, .const (.int .i64 0)]⟩, ⟨some 15, none, .pur (.fla 0) [.tmp 14]⟩, ⟨some 16, none, .ld none (.tmp 15)⟩, ⟨some 17, none, .pur (.bin .neq) [.tmp 16, .const (.int .i64 0)]⟩, ⟨some 12, none, .pur .mov [.tmp 17]⟩]) [12])
  (.cond (.tmp 12) (.skip) (.reg (straight [⟨some 18, none, .pur .mov [.tmp 0]⟩, ⟨some 19, none, .pur (.ixa 2) [.tmp 18, .const (.int .i64 0)]⟩, ⟨some 20, none, .pur (.fla 1) [.tmp 19]⟩, ⟨some 21, none, .ld none (.tmp 20)⟩, ⟨some 12, none, .pur .mov [.tmp 21]⟩]) [12])))
  (.cond (.tmp 12) (.seq (.reg (straight [⟨some 2, none, .pur .mov [.const (.int .i64 4)]⟩]) [2])
  (.ret)) (.skip))))))))
  (.seq (.seq (.reg (straight [⟨some 3, none, .pur .mov [.const (.int .i64 1)]⟩]) [3])
  (.block 1 (.loop S_grid_row_L1)))
  (.seq (.reg (straight [⟨some 2, none, .pur .mov [.const (.int .i64 0)]⟩]) [2])
  (.ret))))⟩
theorem K_grid_row : compF Try.prog 91 = some S_grid_row := by kernel_rfl

-- 93
def S_grid_whole : Fun := ⟨12, [2, 0, 3, 7], [.tmp 2],
  .seq (.reg (straight [⟨some 2, none, .pur .mov [.const (.int .i64 0)]⟩]) [2])
  (.seq (.block 0 (.seq (.reg (straight [⟨some 4, none, .pur .mov [.tmp 0]⟩, ⟨some 5, none, .pur (.bin .gtr) [.tmp 4, .const (.float .f64 0)]⟩, ⟨some 6, none, .pur .not [.tmp 5]⟩, ⟨some 3, none, .pur .mov [.tmp 6]⟩]) [3])
  (.cond (.tmp 3) (.seq (.reg (straight [⟨some 2, none, .pur .mov [.const (.int .i64 0)]⟩]) [2])
  (.ret)) (.seq (.reg (straight [⟨some 8, none, .pur .mov [.tmp 0]⟩, ⟨some 9, none, .pur (.bin .gtr) [.tmp 8, .const (.float .f64 4697254411347427328)]⟩, ⟨some 7, none, .pur .mov [.tmp 9]⟩]) [7])
  (.cond (.tmp 7) (.seq (.reg (straight [⟨some 2, none, .pur .mov [.const (.int .i64 1048576)]⟩]) [2])
  (.ret)) (.skip))))))
  (.seq (.reg (straight [⟨some 10, none, .pur .mov [.tmp 0]⟩, ⟨some 11, none, .pur (.fInt .i64) [.tmp 10]⟩, ⟨some 2, none, .pur .mov [.tmp 11]⟩]) [2])
  (.ret)))⟩
theorem K_grid_whole : compF Try.prog 93 = some S_grid_whole := by kernel_rfl

-- 107
def S_forebayref30_Dag_begin : Fun := ⟨45, [6, 1, 0, 12, 2, 4], [.tmp 6],
  .seq (.reg (straight [⟨some 4, none, .eff (.box 178) [.tmp 1]⟩, ⟨some 6, none, .pur .mov [.const (.int .i64 0)]⟩]) [4, 6])
  (.seq (.seq (.reg (straight [⟨some 7, none, .pur .mov [.tmp 0]⟩, ⟨some 8, none, .pur .nilc [.tmp 7]⟩, ⟨some 9, none, .pur (.fla 2) [.tmp 8]⟩, ⟨some 10, none, .ld none (.tmp 9)⟩, ⟨some 11, none, .pur (.len false) [.tmp 10]⟩, ⟨some 12, none, .pur (.bin .eql) [.tmp 11, .const (.int .i64 1000)]⟩]) [12])
  (.cond (.tmp 12) (.seq (.reg (straight [⟨some 13, none, .pur .mov [.tmp 0]⟩, ⟨some 14, none, .pur .nilc [.tmp 13]⟩, ⟨some 15, none, .pur (.fla 6) [.tmp 14]⟩, ⟨none, none, .eff (.st 1) [.tmp 15, .const (.int .i64 9)]⟩]) [])
  (.seq (.reg (straight [⟨some 16, none, .pur .mov [.tmp 0]⟩, ⟨some 17, none, .pur .nilc [.tmp 16]⟩, ⟨some 18, none, .pur (.fla 5) [.tmp 17]⟩, ⟨none, none, .eff (.st 1) [.tmp 18, .const (.bool true)]⟩]) [])
  (.seq (.reg (straight [⟨some 6, none, .pur .mov [.const (.int .i64 0)]⟩]) [6])
  (.ret)))) (.skip)))
  (.seq (.reg (straight [⟨some 19, none, .pur .mov [.tmp 0]⟩, ⟨some 20, none, .pur .mov [.tmp 0]⟩, ⟨some 21, none, .pur .nilc [.tmp 20]⟩, ⟨some 22, none, .pur (.fla 2) [.tmp 21]⟩, ⟨some 23, none, .ld none (.tmp 22)⟩, ⟨some 24, none, .pur .mov [.tmp 2]⟩, ⟨some 25, none, .eff (.bsl 29 1) [.tmp 24]⟩, ⟨some 26, none, .eff (.app 29 1 24 [.slice none 0 0]) [.tmp 23, .tmp 25]⟩, ⟨some 27, none, .pur .nilc [.tmp 19]⟩, ⟨some 28, none, .pur (.fla 2) [.tmp 27]⟩, ⟨none, none, .eff (.st 1) [.tmp 28, .tmp 26]⟩]) [])
  (.seq (.reg (.run ⟨some 29, none, .pur .mov [.tmp 0]⟩ (.run ⟨some 30, none, .pur .mov [.tmp 0]⟩ (.run ⟨some 31, none, .pur .nilc [.tmp 30]⟩ (.run ⟨some 32, none, .pur (.fla 3) [.tmp 31]⟩ (.run ⟨some 33, none, .ld none (.tmp 32)⟩ (.run ⟨some 34, none, .ld (some 3) (.tmp 4)⟩ (.eff ⟨some 35, none, .eff (.bsl 178 3) [.tmp 34]⟩ [⟨some 33, none, .ld none (.tmp 32)⟩] (.eff ⟨some 36, none, .eff (.app 178 3 24 [.int .i64 0, .int .i64 0, .int .i64 0]) [.tmp 33, .tmp 35]⟩ [] (.run ⟨some 37, none, .pur .nilc [.tmp 29]⟩ (.run ⟨some 38, none, .pur (.fla 3) [.tmp 37]⟩ (.eff ⟨none, none, .eff (.st 1) [.tmp 38, .tmp 36]⟩ [] .done))))))))))) [])
  (.seq (.reg (straight [⟨some 39, none, .pur .mov [.tmp 0]⟩, ⟨some 40, none, .pur .nilc [.tmp 39]⟩, ⟨some 41, none, .pur (.fla 2) [.tmp 40]⟩, ⟨some 42, none, .ld none (.tmp 41)⟩, ⟨some 43, none, .pur (.len false) [.tmp 42]⟩, ⟨some 44, none, .pur (.bin .sub) [.tmp 43, .const (.int .i64 1)]⟩, ⟨some 6, none, .pur .mov [.tmp 44]⟩]) [6])
  (.ret)))))⟩
theorem K_forebayref30_Dag_begin : compF Try.prog 107 = some S_forebayref30_Dag_begin := by kernel_rfl

-- 111
def S_log_Log_Of_1 : Fun := ⟨8, [3, 0, 2, 1], [.tmp 3],
  .seq (.reg (straight [⟨some 2, none, .eff (.box 28) [.tmp 0]⟩, ⟨some 3, none, .pur .mov [.const (.bool false)]⟩]) [2, 3])
  (.seq (.reg (straight [⟨some 4, none, .pur (.fla 1) [.tmp 2]⟩, ⟨some 5, none, .ld none (.tmp 4)⟩, ⟨some 6, none, .ld none (.tmp 1)⟩, ⟨some 7, none, .pur (.bin .eql) [.tmp 5, .tmp 6]⟩, ⟨some 3, none, .pur .mov [.tmp 7]⟩]) [3])
  (.ret))⟩
theorem K_log_Log_Of_1 : compF Try.prog 111 = some S_log_Log_Of_1 := by kernel_rfl

-- 113
def S_slices_IndexFunc_api_Result_api_Result_L1 : SCode :=
  .seq (.reg (straight [⟨some 9, none, .pur (.bin .lss) [.tmp 8, .tmp 7]⟩]) [9])
  (.seq (.cond (.tmp 9) (.skip) (.exit 0))
  (.seq (.block 1 (.seq (.reg (straight [⟨some 10, none, .pur .mov [.tmp 8]⟩, ⟨some 5, none, .pur .mov [.tmp 10]⟩]) [5])
  (.seq (.reg (straight [⟨some 11, none, .pur .mov [.tmp 1]⟩, ⟨some 12, none, .pur .mov [.tmp 0]⟩, ⟨some 13, none, .pur .mov [.tmp 5]⟩, ⟨some 14, none, .pur (.ixa 11) [.tmp 12, .tmp 13]⟩, ⟨some 15, none, .ld (some 11) (.tmp 14)⟩, ⟨some 16, none, .eff .callv [.tmp 11, .tmp 15]⟩]) [16])
  (.cond (.tmp 16) (.seq (.reg (straight [⟨some 17, none, .pur .mov [.tmp 5]⟩, ⟨some 4, none, .pur .mov [.tmp 17]⟩]) [4])
  (.ret)) (.skip)))))
  (.reg (straight [⟨some 18, none, .pur (.bin .add) [.tmp 8, .const (.int .i64 1)]⟩, ⟨some 8, none, .pur .mov [.tmp 18]⟩]) [8])))
def S_slices_IndexFunc_api_Result_api_Result : Fun := ⟨19, [4, 0, 8, 7, 9, 1, 5, 16], [.tmp 4],
  .seq (.reg (straight [⟨some 4, none, .pur .mov [.const (.int .i64 0)]⟩]) [4])
  (.seq (.seq (.reg (straight [⟨some 6, none, .pur .mov [.tmp 0]⟩, ⟨some 7, none, .pur (.len false) [.tmp 6]⟩, ⟨some 8, none, .pur .mov [.const (.int .i64 0)]⟩]) [7, 8])
  (.block 0 (.loop S_slices_IndexFunc_api_Result_api_Result_L1)))
  (.seq (.reg (straight [⟨some 4, none, .pur .mov [.const (.int .i64 (-1))]⟩]) [4])
  (.ret)))⟩
theorem K_slices_IndexFunc_api_Result_api_Result : compF Try.prog 113 = some S_slices_IndexFunc_api_Result_api_Result := by kernel_rfl

end Go.Proofs.Ytilofhocodbknaa
