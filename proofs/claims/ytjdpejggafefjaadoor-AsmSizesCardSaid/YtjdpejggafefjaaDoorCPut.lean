import Derived.Test.YtjdpejggafefjaaDoorKj
import Derived.Test.YtjdpejggafefjaaDoorProg
import Derived.KernelRfl
namespace Go.Proofs.YtjdpejggafefjaaDoor
open Go Go.Kx Go.Proofs
set_option linter.unusedVariables false
set_option maxRecDepth 100000

-- 55
def S_prog_Put_L2 : SCode :=
  .seq (.reg (straight [⟨some 39, none, .pur (.bin .lss) [.tmp 38, .tmp 37]⟩]) [39])
  (.seq (.cond (.tmp 39) (.skip) (.exit 2))
  (.seq (.block 3 (.seq (.reg (straight [⟨some 40, none, .pur (.ixa 4) [.tmp 36, .tmp 38]⟩, ⟨some 41, none, .ld (some 4) (.tmp 40)⟩, ⟨some 9, none, .eff (.new 50 [.int .i64 0, .int .i64 0, .int .i64 0, .int .i64 0]) []⟩, ⟨none, none, .eff (.st 4) [.tmp 9, .tmp 41]⟩]) [9])
  (.seq (.reg (straight [⟨some 43, none, .ld (some 4) (.tmp 9)⟩, ⟨some 44, none, .eff (.call 84) [.tmp 43]⟩, ⟨some 42, none, .pur .mov [.tmp 44]⟩, ⟨some 45, none, .pur (.ext 0) [.tmp 42]⟩, ⟨some 46, none, .pur (.ext 1) [.tmp 42]⟩, ⟨some 10, none, .pur .mov [.tmp 45]⟩, ⟨some 11, none, .pur .mov [.tmp 46]⟩]) [10])
  (.reg (straight [⟨some 47, none, .pur .mov [.tmp 5]⟩, ⟨some 48, none, .pur .mov [.tmp 10]⟩, ⟨some 49, none, .pur (.bin .add) [.tmp 47, .tmp 48]⟩, ⟨some 5, none, .pur .mov [.tmp 49]⟩]) [5]))))
  (.reg (straight [⟨some 50, none, .pur (.bin .add) [.tmp 38, .const (.int .i64 1)]⟩, ⟨some 38, none, .pur .mov [.tmp 50]⟩]) [38])))
def S_prog_Put_L1 : SCode :=
  .seq (.reg (straight [⟨some 29, none, .pur (.bin .lss) [.tmp 28, .tmp 27]⟩]) [29])
  (.seq (.cond (.tmp 29) (.skip) (.exit 0))
  (.seq (.block 1 (.seq (.reg (straight [⟨some 30, none, .pur (.ixa 1) [.tmp 26, .tmp 28]⟩, ⟨some 31, none, .ld none (.tmp 30)⟩, ⟨some 7, none, .pur .mov [.tmp 31]⟩]) [7])
  (.seq (.reg (straight [⟨some 32, none, .pur .mov [.tmp 5]⟩, ⟨some 33, none, .pur .mov [.tmp 7]⟩, ⟨some 34, none, .pur (.len false) [.tmp 33]⟩, ⟨some 35, none, .eff (.call 83) [.tmp 32, .tmp 34, .const (.int .i64 2)]⟩, ⟨some 5, none, .pur .mov [.tmp 35]⟩]) [5])
  (.seq (.reg (straight [⟨some 36, none, .pur .mov [.tmp 7]⟩, ⟨some 37, none, .pur (.len false) [.tmp 36]⟩, ⟨some 38, none, .pur .mov [.const (.int .i64 0)]⟩]) [36, 37, 38])
  (.block 2 (.loop S_prog_Put_L2))))))
  (.reg (straight [⟨some 51, none, .pur (.bin .add) [.tmp 28, .const (.int .i64 1)]⟩, ⟨some 28, none, .pur .mov [.tmp 51]⟩]) [28])))
def S_prog_Put : Fun := ⟨53, [2, 3, 0, 1, 4, 15, 28, 27, 29, 26, 5, 7, 38, 37, 39, 36, 9, 10], [.tmp 2, .tmp 3],
  .seq (.reg (straight [⟨some 1, none, .eff (.box 57) [.tmp 0]⟩, ⟨some 2, none, .pur .mov [.const (.string ⟨#[]⟩)]⟩, ⟨some 3, none, .pur .mov [.const (.int .i64 0)]⟩]) [1, 2, 3])
  (.seq (.seq (.reg (straight [⟨some 12, none, .ld (some 2) (.tmp 1)⟩, ⟨some 13, none, .eff (.call 78) [.tmp 12]⟩, ⟨some 4, none, .pur .mov [.tmp 13]⟩]) [4])
  (.seq (.reg (straight [⟨some 14, none, .pur .mov [.tmp 4]⟩, ⟨some 15, none, .pur (.bin .neq) [.tmp 14, .const (.int .i64 0)]⟩]) [15])
  (.cond (.tmp 15) (.seq (.reg (straight [⟨some 16, none, .pur .mov [.tmp 4]⟩, ⟨some 2, none, .pur .mov [.const (.string ⟨#[]⟩)]⟩, ⟨some 3, none, .pur .mov [.tmp 16]⟩]) [2, 3])
  (.ret)) (.skip))))
  (.seq (.reg (.run ⟨some 18, none, .pur (.fla 1) [.tmp 1]⟩ (.run ⟨some 19, none, .ld none (.tmp 18)⟩ (.run ⟨some 20, none, .pur (.len false) [.tmp 19]⟩ (.run ⟨some 22, none, .pur (.fla 0) [.tmp 1]⟩ (.run ⟨some 23, none, .ld none (.tmp 22)⟩ (.eff ⟨some 17, none, .eff (.call 83) [.const (.string ⟨#[72, 82]⟩), .const (.int .i64 1), .const (.int .i64 1)]⟩ [⟨some 23, none, .ld none (.tmp 22)⟩, ⟨some 19, none, .ld none (.tmp 18)⟩] (.eff ⟨some 21, none, .eff (.call 83) [.tmp 17, .tmp 20, .const (.int .i64 1)]⟩ [⟨some 23, none, .ld none (.tmp 22)⟩] (.eff ⟨some 24, none, .eff (.call 83) [.tmp 21, .tmp 23, .const (.int .i64 2)]⟩ [] (.run ⟨some 5, none, .pur .mov [.tmp 24]⟩ .done))))))))) [5])
  (.seq (.seq (.reg (straight [⟨some 25, none, .pur (.fla 1) [.tmp 1]⟩, ⟨some 26, none, .ld none (.tmp 25)⟩, ⟨some 27, none, .pur (.len false) [.tmp 26]⟩, ⟨some 28, none, .pur .mov [.const (.int .i64 0)]⟩]) [26, 27, 28])
  (.block 0 (.loop S_prog_Put_L1)))
  (.seq (.reg (straight [⟨some 52, none, .pur .mov [.tmp 5]⟩, ⟨some 2, none, .pur .mov [.tmp 52]⟩, ⟨some 3, none, .pur .mov [.const (.int .i64 0)]⟩]) [2, 3])
  (.ret)))))⟩
theorem K_prog_Put : compF Tryd.prog 55 = some S_prog_Put := by kernel_rfl

-- 83
def S_bits_Put_L1 : SCode :=
  .seq (.seq (.reg (straight [⟨some 14, none, .pur .mov [.tmp 8]⟩, ⟨some 15, none, .pur (.bin .geq) [.tmp 14, .const (.int .i64 0)]⟩]) [15])
  (.cond (.tmp 15) (.skip) (.exit 0)))
  (.seq (.block 1 (.reg (straight [⟨some 18, none, .pur .mov [.tmp 7]⟩, ⟨some 19, none, .pur .mov [.tmp 1]⟩, ⟨some 20, none, .pur .mov [.tmp 8]⟩, ⟨some 21, none, .pur (.bin .mul) [.const (.int .i64 8), .tmp 20]⟩, ⟨some 22, none, .pur (.bin .shr) [.tmp 19, .tmp 21]⟩, ⟨some 23, none, .pur (.toInt .u8) [.tmp 22]⟩, ⟨some 24, none, .eff (.bsl 5 1) [.tmp 23]⟩, ⟨some 25, none, .eff (.app 5 1 1 [.int .u8 0]) [.tmp 18, .tmp 24]⟩, ⟨some 7, none, .pur .mov [.tmp 25]⟩]) [7]))
  (.reg (straight [⟨some 16, none, .pur .mov [.tmp 8]⟩, ⟨some 17, none, .pur (.bin .sub) [.tmp 16, .const (.int .i64 1)]⟩, ⟨some 8, none, .pur .mov [.tmp 17]⟩]) [8]))
def S_bits_Put : Fun := ⟨28, [6, 0, 2, 8, 15, 7, 1], [.tmp 6],
  .seq (.reg (straight [⟨some 6, none, .pur .mov [.const (.string ⟨#[]⟩)]⟩]) [6])
  (.seq (.reg (straight [⟨some 9, none, .pur .mov [.tmp 0]⟩, ⟨some 10, none, .eff (.s2b 5) [.tmp 9]⟩, ⟨some 7, none, .pur .mov [.tmp 10]⟩]) [7])
  (.seq (.seq (.reg (straight [⟨some 11, none, .pur .mov [.tmp 2]⟩, ⟨some 12, none, .eff (.call 100) [.tmp 11]⟩, ⟨some 13, none, .pur (.bin .sub) [.tmp 12, .const (.int .i64 1)]⟩, ⟨some 8, none, .pur .mov [.tmp 13]⟩]) [8])
  (.block 0 (.loop S_bits_Put_L1)))
  (.seq (.reg (straight [⟨some 26, none, .pur .mov [.tmp 7]⟩, ⟨some 27, none, .eff .b2s [.tmp 26]⟩, ⟨some 6, none, .pur .mov [.tmp 27]⟩]) [6])
  (.ret))))⟩
theorem K_bits_Put : compF Tryd.prog 83 = some S_bits_Put := by kernel_rfl

-- 84
def S_ins_Put_L1 : SCode :=
  .seq (.reg (straight [⟨some 25, none, .pur (.bin .lss) [.tmp 24, .tmp 23]⟩]) [25])
  (.seq (.cond (.tmp 25) (.skip) (.exit 0))
  (.seq (.block 1 (.seq (.reg (straight [⟨some 26, none, .pur .mov [.tmp 24]⟩, ⟨some 8, none, .pur .mov [.tmp 26]⟩]) [8])
  (.reg (.run ⟨some 27, none, .pur .mov [.tmp 7]⟩ (.run ⟨some 28, none, .pur .mov [.tmp 8]⟩ (.run ⟨some 29, none, .pur (.ixaA 3 1) [.tmp 6, .tmp 28]⟩ (.run ⟨some 30, none, .ld none (.tmp 29)⟩ (.run ⟨some 31, none, .pur .mov [.tmp 5]⟩ (.run ⟨some 32, none, .pur .mov [.tmp 8]⟩ (.run ⟨some 33, none, .pur .ixs [.tmp 31, .tmp 32]⟩ (.eff ⟨some 34, none, .eff (.call 101) [.tmp 33]⟩ [⟨some 30, none, .ld none (.tmp 29)⟩] (.eff ⟨some 35, none, .eff (.call 83) [.tmp 27, .tmp 30, .tmp 34]⟩ [] (.eff ⟨some 7, none, .pur .mov [.tmp 35]⟩ [] .done)))))))))) [7])))
  (.reg (straight [⟨some 36, none, .pur (.bin .add) [.tmp 24, .const (.int .i64 1)]⟩, ⟨some 24, none, .pur .mov [.tmp 36]⟩]) [24])))
def S_ins_Put_L2 : SCode :=
  .seq (.seq (.reg (straight [⟨some 37, none, .pur .mov [.tmp 7]⟩, ⟨some 38, none, .pur (.len true) [.tmp 37]⟩, ⟨some 39, none, .pur (.bin .lss) [.tmp 38, .const (.int .i64 4)]⟩]) [39])
  (.cond (.tmp 39) (.skip) (.exit 2)))
  (.block 3 (.reg (straight [⟨some 40, none, .pur .mov [.tmp 7]⟩, ⟨some 41, none, .pur (.bin .add) [.tmp 40, .const (.string ⟨#[0]⟩)]⟩, ⟨some 7, none, .pur .mov [.tmp 41]⟩]) [7]))
def S_ins_Put : Fun := ⟨43, [2, 3, 0, 1, 4, 12, 5, 24, 23, 25, 7, 8, 6, 39], [.tmp 2, .tmp 3],
  .seq (.reg (straight [⟨some 1, none, .eff (.box 50) [.tmp 0]⟩, ⟨some 2, none, .pur .mov [.const (.string ⟨#[]⟩)]⟩, ⟨some 3, none, .pur .mov [.const (.int .i64 0)]⟩]) [1, 2, 3])
  (.seq (.seq (.reg (straight [⟨some 9, none, .ld (some 4) (.tmp 1)⟩, ⟨some 10, none, .eff (.call 70) [.tmp 9]⟩, ⟨some 4, none, .pur .mov [.tmp 10]⟩]) [4])
  (.seq (.reg (straight [⟨some 11, none, .pur .mov [.tmp 4]⟩, ⟨some 12, none, .pur (.bin .neq) [.tmp 11, .const (.int .i64 0)]⟩]) [12])
  (.cond (.tmp 12) (.seq (.reg (straight [⟨some 13, none, .pur .mov [.tmp 4]⟩, ⟨some 2, none, .pur .mov [.const (.string ⟨#[]⟩)]⟩, ⟨some 3, none, .pur .mov [.tmp 13]⟩]) [2, 3])
  (.ret)) (.skip))))
  (.seq (.reg (.run ⟨some 14, none, .pur (.fla 0) [.tmp 1]⟩ (.run ⟨some 15, none, .ld none (.tmp 14)⟩ (.run ⟨some 17, none, .ld (some 4) (.tmp 1)⟩ (.both (.eff ⟨some 16, none, .eff (.call 69) [.tmp 15]⟩ [⟨some 17, none, .ld (some 4) (.tmp 1)⟩] (.both (.eff ⟨some 18, none, .eff (.call 93) [.tmp 17]⟩ [] (.eff ⟨some 6, none, .eff (.new 89 [.int .i64 0, .int .i64 0, .int .i64 0]) []⟩ [] (.run ⟨some 5, none, .pur .mov [.tmp 16]⟩ (.eff ⟨none, none, .eff (.st 3) [.tmp 6, .tmp 18]⟩ [] .done)))) (.eff ⟨some 6, none, .eff (.new 89 [.int .i64 0, .int .i64 0, .int .i64 0]) []⟩ [⟨some 17, none, .ld (some 4) (.tmp 1)⟩] (.eff ⟨some 18, none, .eff (.call 93) [.tmp 17]⟩ [] (.run ⟨some 5, none, .pur .mov [.tmp 16]⟩ (.eff ⟨none, none, .eff (.st 3) [.tmp 6, .tmp 18]⟩ [] .done)))))) (.eff ⟨some 6, none, .eff (.new 89 [.int .i64 0, .int .i64 0, .int .i64 0]) []⟩ [⟨some 17, none, .ld (some 4) (.tmp 1)⟩, ⟨some 15, none, .ld none (.tmp 14)⟩] (.eff ⟨some 16, none, .eff (.call 69) [.tmp 15]⟩ [⟨some 17, none, .ld (some 4) (.tmp 1)⟩] (.eff ⟨some 18, none, .eff (.call 93) [.tmp 17]⟩ [] (.run ⟨some 5, none, .pur .mov [.tmp 16]⟩ (.eff ⟨none, none, .eff (.st 3) [.tmp 6, .tmp 18]⟩ [] .done))))))))) [6, 5])
  (.seq (.reg (straight [⟨some 19, none, .pur (.fla 0) [.tmp 1]⟩, ⟨some 20, none, .ld none (.tmp 19)⟩, ⟨some 21, none, .eff (.call 83) [.const (.string ⟨#[]⟩), .tmp 20, .const (.int .i64 1)]⟩, ⟨some 7, none, .pur .mov [.tmp 21]⟩]) [7])
  (.seq (.seq (.reg (straight [⟨some 22, none, .pur .mov [.tmp 5]⟩, ⟨some 23, none, .pur (.len true) [.tmp 22]⟩, ⟨some 24, none, .pur .mov [.const (.int .i64 0)]⟩]) [23, 24])
  (.block 0 (.loop S_ins_Put_L1)))
  (.seq (.block 2 (.loop S_ins_Put_L2))
  (.seq (.reg (straight [⟨some 42, none, .pur .mov [.tmp 7]⟩, ⟨some 2, none, .pur .mov [.tmp 42]⟩, ⟨some 3, none, .pur .mov [.const (.int .i64 0)]⟩]) [2, 3])
  (.ret)))))))⟩
theorem K_ins_Put : compF Tryd.prog 84 = some S_ins_Put := by kernel_rfl

-- 100
def S_bits_held : Fun := ⟨6, [2, 0], [.tmp 2],
  .seq (.reg (straight [⟨some 2, none, .pur .mov [.const (.int .i64 0)]⟩]) [2])
  (.seq (.reg (straight [⟨some 3, none, .pur .mov [.tmp 0]⟩, ⟨some 4, none, .pur (.minmax true) [.tmp 3, .const (.int .i64 1)]⟩, ⟨some 5, none, .pur (.minmax false) [.tmp 4, .const (.int .i64 4)]⟩, ⟨some 2, none, .pur .mov [.tmp 5]⟩]) [2])
  (.ret))⟩
theorem K_bits_held : compF Tryd.prog 100 = some S_bits_held := by kernel_rfl

-- 101
def S_ins_wide : Fun := ⟨9, [2, 0, 8], [.tmp 2],
  .seq (.reg (straight [⟨some 2, none, .pur .mov [.const (.int .i64 0)]⟩]) [2])
  (.seq (.seq (.reg (straight [⟨some 3, none, .pur .mov [.tmp 0]⟩, ⟨some 4, none, .pur (.bin .eql) [.tmp 3, .const (.int .u8 110)]⟩, ⟨some 5, none, .pur .mov [.tmp 4]⟩, ⟨some 6, some (5, false), .pur .mov [.tmp 0]⟩, ⟨some 7, some (5, false), .pur (.bin .eql) [.tmp 6, .const (.int .u8 116)]⟩, ⟨some 8, none, .pur .pick [.tmp 5, .const (.bool true), .tmp 7]⟩]) [8])
  (.cond (.tmp 8) (.seq (.reg (straight [⟨some 2, none, .pur .mov [.const (.int .i64 2)]⟩]) [2])
  (.ret)) (.skip)))
  (.seq (.reg (straight [⟨some 2, none, .pur .mov [.const (.int .i64 1)]⟩]) [2])
  (.ret)))⟩
theorem K_ins_wide : compF Tryd.prog 101 = some S_ins_wide := by kernel_rfl

end Go.Proofs.YtjdpejggafefjaaDoor
