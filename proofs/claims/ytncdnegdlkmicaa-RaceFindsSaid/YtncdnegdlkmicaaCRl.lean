import Derived.Test.YtncdnegdlkmicaaKj
import Derived.Test.YtncdnegdlkmicaaProg
import Derived.KernelRfl
namespace Go.Proofs.Ytncdnegdlkmicaa
open Go Go.Kx Go.Proofs
set_option linter.unusedVariables false
set_option maxRecDepth 100000

-- 6
def S_forebaylaw32_RaceFinds : Fun := ⟨55, [4, 12, 0, 1, 15, 7, 10, 6, 8, 39, 41, 5, 9], [.tmp 4],
  .seq (.reg (straight [⟨some 4, none, .pur .mov [.const (.bool false)]⟩]) [4])
  (.seq (.seq (.reg (straight [⟨some 11, none, .eff (.call 22) []⟩, ⟨some 12, none, .pur .not [.tmp 11]⟩]) [12])
  (.cond (.tmp 12) (.seq (.reg (straight [⟨some 4, none, .pur .mov [.const (.bool false)]⟩]) [4])
  (.ret)) (.skip)))
  (.seq (.seq (.reg (straight [⟨some 13, none, .pur .mov [.tmp 0]⟩, ⟨some 14, none, .pur .mov [.tmp 1]⟩, ⟨some 15, none, .eff (.call 23) [.tmp 13, .tmp 14]⟩]) [15])
  (.cond (.tmp 15) (.seq (.reg (straight [⟨some 4, none, .pur .mov [.const (.bool true)]⟩]) [4])
  (.ret)) (.skip)))
  (.seq (.reg (straight [⟨some 17, none, .pur .mov [.tmp 0]⟩, ⟨some 18, none, .pur .mov [.tmp 1]⟩, ⟨some 19, none, .eff (.call 25) [.tmp 17, .tmp 18]⟩, ⟨some 20, none, .eff (.call 24) [.tmp 19]⟩, ⟨some 16, none, .pur .mov [.tmp 20]⟩, ⟨some 21, none, .pur (.ext 0) [.tmp 16]⟩, ⟨some 22, none, .pur (.ext 1) [.tmp 16]⟩, ⟨some 23, none, .pur (.ext 2) [.tmp 16]⟩, ⟨some 5, none, .eff (.new 64 [.int .i64 0, .int .i64 0, .int .i64 0]) []⟩, ⟨none, none, .eff (.st 3) [.tmp 5, .tmp 21]⟩, ⟨some 6, none, .pur .mov [.tmp 22]⟩, ⟨some 7, none, .pur .mov [.tmp 23]⟩]) [5, 6, 7])
  (.seq (.reg (straight [⟨some 25, none, .pur .mov [.tmp 0]⟩, ⟨some 26, none, .pur .mov [.tmp 1]⟩, ⟨some 27, none, .eff (.call 26) [.tmp 25, .tmp 26]⟩, ⟨some 24, none, .pur .mov [.tmp 27]⟩, ⟨some 28, none, .pur (.ext 0) [.tmp 24]⟩, ⟨some 29, none, .pur (.ext 1) [.tmp 24]⟩, ⟨some 30, none, .pur (.ext 2) [.tmp 24]⟩, ⟨some 8, none, .pur .mov [.tmp 28]⟩, ⟨some 9, none, .pur .mov [.tmp 29]⟩, ⟨some 10, none, .pur .mov [.tmp 30]⟩]) [8, 9, 10])
  (.seq (.seq (.reg (straight [⟨some 31, none, .pur .mov [.tmp 7]⟩, ⟨some 32, none, .pur .mov [.tmp 10]⟩, ⟨some 33, none, .pur (.bin .neq) [.tmp 31, .tmp 32]⟩, ⟨some 34, none, .pur .mov [.tmp 33]⟩, ⟨some 35, some (34, false), .pur .mov [.tmp 6]⟩, ⟨some 36, some (34, false), .pur .mov [.tmp 8]⟩, ⟨some 37, some (34, false), .pur (.bin .geq) [.tmp 36, .const (.int .i64 0)]⟩, ⟨some 38, some (34, false), .pur (.eqb true) [.tmp 35, .tmp 37]⟩, ⟨some 39, none, .pur .pick [.tmp 34, .const (.bool true), .tmp 38]⟩]) [39])
  (.cond (.tmp 39) (.seq (.reg (straight [⟨some 4, none, .pur .mov [.const (.bool false)]⟩]) [4])
  (.ret)) (.skip)))
  (.seq (.seq (.reg (straight [⟨some 40, none, .pur .mov [.tmp 6]⟩, ⟨some 41, none, .pur .not [.tmp 40]⟩]) [41])
  (.cond (.tmp 41) (.seq (.reg (straight [⟨some 42, none, .ld (some 3) (.tmp 5)⟩, ⟨some 43, none, .pur (.bld [.int .i64 0, .int .i64 0, .int .i64 0] []) []⟩, ⟨some 44, none, .pur (.eqs false [.int .i64, .int .i64, .int .i64]) [.tmp 42, .tmp 43]⟩, ⟨some 4, none, .pur .mov [.tmp 44]⟩]) [4])
  (.ret)) (.skip)))
  (.seq (.reg (straight [⟨some 45, none, .ld (some 3) (.tmp 5)⟩, ⟨some 46, none, .pur .mov [.tmp 8]⟩, ⟨some 47, none, .pur .mov [.tmp 9]⟩, ⟨some 48, none, .pur .mov [.tmp 1]⟩, ⟨some 49, none, .pur .mov [.tmp 9]⟩, ⟨some 50, none, .pur (.ixa 3) [.tmp 48, .tmp 49]⟩, ⟨some 51, none, .pur (.fla 1) [.tmp 50]⟩, ⟨some 52, none, .ld none (.tmp 51)⟩, ⟨some 53, none, .pur (.bld [.int .i64 0, .int .i64 0, .int .i64 0] [(0, 1), (1, 1), (2, 1)]) [.tmp 46, .tmp 47, .tmp 52]⟩, ⟨some 54, none, .pur (.eqs false [.int .i64, .int .i64, .int .i64]) [.tmp 45, .tmp 53]⟩, ⟨some 4, none, .pur .mov [.tmp 54]⟩]) [4])
  (.ret))))))))⟩
theorem K_forebaylaw32_RaceFinds : compF Try.prog 6 = some S_forebaylaw32_RaceFinds := by kernel_rfl

end Go.Proofs.Ytncdnegdlkmicaa
