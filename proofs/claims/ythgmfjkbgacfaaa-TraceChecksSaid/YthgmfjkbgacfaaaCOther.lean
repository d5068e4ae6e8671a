import Derived.Test.YthgmfjkbgacfaaaKj
import Derived.Test.YthgmfjkbgacfaaaProg
import Derived.KernelRfl
namespace Go.Proofs.Ythgmfjkbgacfaaa
open Go Go.Kx Go.Proofs
set_option linter.unusedVariables false
set_option maxRecDepth 100000

-- 45
def S_forebaylaw05_Ints_L1 : SCode :=
  .seq (.seq (.reg (straight [⟨some 11, none, .pur .mov [.tmp 5]⟩, ⟨some 12, none, .pur .mov [.tmp 0]⟩, ⟨some 13, none, .pur (.len false) [.tmp 12]⟩, ⟨some 14, none, .pur (.bin .lss) [.tmp 11, .tmp 13]⟩, ⟨some 15, none, .pur .mov [.tmp 14]⟩, ⟨some 16, some (15, true), .pur .mov [.tmp 5]⟩, ⟨some 17, some (15, true), .pur .mov [.tmp 1]⟩, ⟨some 18, some (15, true), .pur (.len false) [.tmp 17]⟩, ⟨some 19, some (15, true), .pur (.bin .lss) [.tmp 16, .tmp 18]⟩, ⟨some 20, none, .pur .pick [.tmp 15, .tmp 19, .const (.bool false)]⟩]) [20])
  (.cond (.tmp 20) (.skip) (.exit 0)))
  (.seq (.block 1 (.seq (.reg (straight [⟨some 23, none, .pur .mov [.tmp 0]⟩, ⟨some 24, none, .pur .mov [.tmp 5]⟩, ⟨some 25, none, .pur (.ixa 1) [.tmp 23, .tmp 24]⟩, ⟨some 26, none, .ld none (.tmp 25)⟩, ⟨some 27, none, .pur .mov [.tmp 1]⟩, ⟨some 28, none, .pur .mov [.tmp 5]⟩, ⟨some 29, none, .pur (.ixa 1) [.tmp 27, .tmp 28]⟩, ⟨some 30, none, .ld none (.tmp 29)⟩, ⟨some 31, none, .pur (.bin .neq) [.tmp 26, .tmp 30]⟩]) [31])
  (.cond (.tmp 31) (.seq (.reg (straight [⟨some 4, none, .pur .mov [.const (.bool false)]⟩]) [4])
  (.ret)) (.skip))))
  (.reg (straight [⟨some 21, none, .pur .mov [.tmp 5]⟩, ⟨some 22, none, .pur (.bin .add) [.tmp 21, .const (.int .i64 1)]⟩, ⟨some 5, none, .pur .mov [.tmp 22]⟩]) [5]))
def S_forebaylaw05_Ints : Fun := ⟨32, [4, 0, 1, 10, 5, 20, 31], [.tmp 4],
  .seq (.reg (straight [⟨some 4, none, .pur .mov [.const (.bool false)]⟩]) [4])
  (.seq (.seq (.reg (straight [⟨some 6, none, .pur .mov [.tmp 0]⟩, ⟨some 7, none, .pur (.len false) [.tmp 6]⟩, ⟨some 8, none, .pur .mov [.tmp 1]⟩, ⟨some 9, none, .pur (.len false) [.tmp 8]⟩, ⟨some 10, none, .pur (.bin .neq) [.tmp 7, .tmp 9]⟩]) [10])
  (.cond (.tmp 10) (.seq (.reg (straight [⟨some 4, none, .pur .mov [.const (.bool false)]⟩]) [4])
  (.ret)) (.skip)))
  (.seq (.seq (.reg (straight [⟨some 5, none, .pur .mov [.const (.int .i64 0)]⟩]) [5])
  (.block 0 (.loop S_forebaylaw05_Ints_L1)))
  (.seq (.reg (straight [⟨some 4, none, .pur .mov [.const (.bool true)]⟩]) [4])
  (.ret))))⟩
theorem K_forebaylaw05_Ints : compF Try.prog 45 = some S_forebaylaw05_Ints := by kernel_rfl

end Go.Proofs.Ythgmfjkbgacfaaa
