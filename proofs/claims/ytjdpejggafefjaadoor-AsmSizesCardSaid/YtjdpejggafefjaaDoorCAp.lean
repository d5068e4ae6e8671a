import Derived.Test.YtjdpejggafefjaaDoorKj
import Derived.Test.YtjdpejggafefjaaDoorProg
import Derived.KernelRfl
namespace Go.Proofs.YtjdpejggafefjaaDoor
open Go Go.Kx Go.Proofs
set_option linter.unusedVariables false
set_option maxRecDepth 100000

-- 45
def S_forebayref04_Same_L2 : SCode :=
  .seq (.seq (.reg (straight [⟨some 41, none, .pur .mov [.tmp 6]⟩, ⟨some 42, none, .pur (.fla 1) [.tmp 2]⟩, ⟨some 43, none, .ld none (.tmp 42)⟩, ⟨some 44, none, .pur .mov [.tmp 5]⟩, ⟨some 45, none, .pur (.ixa 1) [.tmp 43, .tmp 44]⟩, ⟨some 46, none, .ld none (.tmp 45)⟩, ⟨some 47, none, .pur (.len false) [.tmp 46]⟩, ⟨some 48, none, .pur (.bin .lss) [.tmp 41, .tmp 47]⟩]) [48])
  (.cond (.tmp 48) (.skip) (.exit 2)))
  (.seq (.block 3 (.seq (.reg (straight [⟨some 51, none, .pur (.fla 1) [.tmp 2]⟩, ⟨some 52, none, .ld none (.tmp 51)⟩, ⟨some 53, none, .pur .mov [.tmp 5]⟩, ⟨some 54, none, .pur (.ixa 1) [.tmp 52, .tmp 53]⟩, ⟨some 55, none, .ld none (.tmp 54)⟩, ⟨some 56, none, .pur .mov [.tmp 6]⟩, ⟨some 57, none, .pur (.ixa 4) [.tmp 55, .tmp 56]⟩, ⟨some 58, none, .ld (some 4) (.tmp 57)⟩, ⟨some 59, none, .pur (.fla 1) [.tmp 3]⟩, ⟨some 60, none, .ld none (.tmp 59)⟩, ⟨some 61, none, .pur .mov [.tmp 5]⟩, ⟨some 62, none, .pur (.ixa 1) [.tmp 60, .tmp 61]⟩, ⟨some 63, none, .ld none (.tmp 62)⟩, ⟨some 64, none, .pur .mov [.tmp 6]⟩, ⟨some 65, none, .pur (.ixa 4) [.tmp 63, .tmp 64]⟩, ⟨some 66, none, .ld (some 4) (.tmp 65)⟩, ⟨some 67, none, .pur (.eqs true [.int .i64, .int .i64, .int .i64, .int .i64]) [.tmp 58, .tmp 66]⟩]) [67])
  (.cond (.tmp 67) (.seq (.reg (straight [⟨some 4, none, .pur .mov [.const (.bool false)]⟩]) [4])
  (.ret)) (.skip))))
  (.reg (straight [⟨some 49, none, .pur .mov [.tmp 6]⟩, ⟨some 50, none, .pur (.bin .add) [.tmp 49, .const (.int .i64 1)]⟩, ⟨some 6, none, .pur .mov [.tmp 50]⟩]) [6]))
def S_forebayref04_Same_L1 : SCode :=
  .seq (.seq (.reg (straight [⟨some 21, none, .pur .mov [.tmp 5]⟩, ⟨some 22, none, .pur (.fla 1) [.tmp 2]⟩, ⟨some 23, none, .ld none (.tmp 22)⟩, ⟨some 24, none, .pur (.len false) [.tmp 23]⟩, ⟨some 25, none, .pur (.bin .lss) [.tmp 21, .tmp 24]⟩]) [25])
  (.cond (.tmp 25) (.skip) (.exit 0)))
  (.seq (.block 1 (.seq (.seq (.reg (straight [⟨some 28, none, .pur (.fla 1) [.tmp 2]⟩, ⟨some 29, none, .ld none (.tmp 28)⟩, ⟨some 30, none, .pur .mov [.tmp 5]⟩, ⟨some 31, none, .pur (.ixa 1) [.tmp 29, .tmp 30]⟩, ⟨some 32, none, .ld none (.tmp 31)⟩, ⟨some 33, none, .pur (.len false) [.tmp 32]⟩, ⟨some 34, none, .pur (.fla 1) [.tmp 3]⟩, ⟨some 35, none, .ld none (.tmp 34)⟩, ⟨some 36, none, .pur .mov [.tmp 5]⟩, ⟨some 37, none, .pur (.ixa 1) [.tmp 35, .tmp 36]⟩, ⟨some 38, none, .ld none (.tmp 37)⟩, ⟨some 39, none, .pur (.len false) [.tmp 38]⟩, ⟨some 40, none, .pur (.bin .neq) [.tmp 33, .tmp 39]⟩]) [40])
  (.cond (.tmp 40) (.seq (.reg (straight [⟨some 4, none, .pur .mov [.const (.bool false)]⟩]) [4])
  (.ret)) (.skip)))
  (.seq (.reg (straight [⟨some 6, none, .pur .mov [.const (.int .i64 0)]⟩]) [6])
  (.block 2 (.loop S_forebayref04_Same_L2)))))
  (.reg (straight [⟨some 26, none, .pur .mov [.tmp 5]⟩, ⟨some 27, none, .pur (.bin .add) [.tmp 26, .const (.int .i64 1)]⟩, ⟨some 5, none, .pur .mov [.tmp 27]⟩]) [5]))
def S_forebayref04_Same : Fun := ⟨68, [4, 0, 1, 2, 3, 20, 5, 25, 40, 6, 48, 67], [.tmp 4],
  .seq (.reg (straight [⟨some 2, none, .eff (.box 57) [.tmp 0]⟩, ⟨some 3, none, .eff (.box 57) [.tmp 1]⟩, ⟨some 4, none, .pur .mov [.const (.bool false)]⟩]) [2, 3, 4])
  (.seq (.seq (.reg (straight [⟨some 7, none, .pur (.fla 0) [.tmp 2]⟩, ⟨some 8, none, .ld none (.tmp 7)⟩, ⟨some 9, none, .pur (.fla 0) [.tmp 3]⟩, ⟨some 10, none, .ld none (.tmp 9)⟩, ⟨some 11, none, .pur (.bin .neq) [.tmp 8, .tmp 10]⟩, ⟨some 12, none, .pur .mov [.tmp 11]⟩, ⟨some 13, some (12, false), .pur (.fla 1) [.tmp 2]⟩, ⟨some 14, some (12, false), .ld none (.tmp 13)⟩, ⟨some 15, some (12, false), .pur (.len false) [.tmp 14]⟩, ⟨some 16, some (12, false), .pur (.fla 1) [.tmp 3]⟩, ⟨some 17, some (12, false), .ld none (.tmp 16)⟩, ⟨some 18, some (12, false), .pur (.len false) [.tmp 17]⟩, ⟨some 19, some (12, false), .pur (.bin .neq) [.tmp 15, .tmp 18]⟩, ⟨some 20, none, .pur .pick [.tmp 12, .const (.bool true), .tmp 19]⟩]) [20])
  (.cond (.tmp 20) (.seq (.reg (straight [⟨some 4, none, .pur .mov [.const (.bool false)]⟩]) [4])
  (.ret)) (.skip)))
  (.seq (.seq (.reg (straight [⟨some 5, none, .pur .mov [.const (.int .i64 0)]⟩]) [5])
  (.block 0 (.loop S_forebayref04_Same_L1)))
  (.seq (.reg (straight [⟨some 4, none, .pur .mov [.const (.bool true)]⟩]) [4])
  (.ret))))⟩
theorem K_forebayref04_Same : compF Tryd.prog 45 = some S_forebayref04_Same := by kernel_rfl

-- 51
def S_forebaylaw04_Great_L1 : SCode :=
  .seq (.seq (.reg (straight [⟨some 8, none, .pur .mov [.tmp 3]⟩, ⟨some 9, none, .pur (.fla 1) [.tmp 1]⟩, ⟨some 10, none, .ld none (.tmp 9)⟩, ⟨some 11, none, .pur (.len false) [.tmp 10]⟩, ⟨some 12, none, .pur (.bin .lss) [.tmp 8, .tmp 11]⟩]) [12])
  (.cond (.tmp 12) (.skip) (.exit 0)))
  (.seq (.block 1 (.seq (.reg (straight [⟨some 15, none, .pur (.fla 1) [.tmp 1]⟩, ⟨some 16, none, .ld none (.tmp 15)⟩, ⟨some 17, none, .pur .mov [.tmp 3]⟩, ⟨some 18, none, .pur (.ixa 1) [.tmp 16, .tmp 17]⟩, ⟨some 19, none, .ld none (.tmp 18)⟩, ⟨some 20, none, .pur (.len false) [.tmp 19]⟩, ⟨some 21, none, .pur (.bin .gtr) [.tmp 20, .const (.int .i64 300)]⟩]) [21])
  (.cond (.tmp 21) (.seq (.reg (straight [⟨some 2, none, .pur .mov [.const (.bool true)]⟩]) [2])
  (.ret)) (.skip))))
  (.reg (straight [⟨some 13, none, .pur .mov [.tmp 3]⟩, ⟨some 14, none, .pur (.bin .add) [.tmp 13, .const (.int .i64 1)]⟩, ⟨some 3, none, .pur .mov [.tmp 14]⟩]) [3]))
def S_forebaylaw04_Great : Fun := ⟨22, [2, 0, 1, 7, 3, 12, 21], [.tmp 2],
  .seq (.reg (straight [⟨some 1, none, .eff (.box 57) [.tmp 0]⟩, ⟨some 2, none, .pur .mov [.const (.bool false)]⟩]) [1, 2])
  (.seq (.seq (.reg (straight [⟨some 4, none, .pur (.fla 1) [.tmp 1]⟩, ⟨some 5, none, .ld none (.tmp 4)⟩, ⟨some 6, none, .pur (.len false) [.tmp 5]⟩, ⟨some 7, none, .pur (.bin .gtr) [.tmp 6, .const (.int .i64 40)]⟩]) [7])
  (.cond (.tmp 7) (.seq (.reg (straight [⟨some 2, none, .pur .mov [.const (.bool true)]⟩]) [2])
  (.ret)) (.skip)))
  (.seq (.seq (.reg (straight [⟨some 3, none, .pur .mov [.const (.int .i64 0)]⟩]) [3])
  (.block 0 (.loop S_forebaylaw04_Great_L1)))
  (.seq (.reg (straight [⟨some 2, none, .pur .mov [.const (.bool false)]⟩]) [2])
  (.ret))))⟩
theorem K_forebaylaw04_Great : compF Tryd.prog 51 = some S_forebaylaw04_Great := by kernel_rfl

-- 53
def S_forebaylaw04_Own_L1 : SCode :=
  .seq (.seq (.reg (straight [⟨some 8, none, .pur .mov [.tmp 4]⟩, ⟨some 9, none, .pur (.fla 1) [.tmp 1]⟩, ⟨some 10, none, .ld none (.tmp 9)⟩, ⟨some 11, none, .pur (.len false) [.tmp 10]⟩, ⟨some 12, none, .pur (.bin .lss) [.tmp 8, .tmp 11]⟩]) [12])
  (.cond (.tmp 12) (.skip) (.exit 0)))
  (.seq (.block 1 (.reg (.run ⟨some 15, none, .pur (.fla 1) [.tmp 3]⟩ (.run ⟨some 16, none, .ld none (.tmp 15)⟩ (.run ⟨some 18, none, .pur (.fla 1) [.tmp 1]⟩ (.run ⟨some 19, none, .ld none (.tmp 18)⟩ (.run ⟨some 20, none, .pur .mov [.tmp 4]⟩ (.run ⟨some 21, none, .pur (.ixa 1) [.tmp 19, .tmp 20]⟩ (.run ⟨some 22, none, .ld none (.tmp 21)⟩ (.eff ⟨some 17, none, .eff (.bsl 50 4) []⟩ [⟨some 22, none, .ld none (.tmp 21)⟩, ⟨some 19, none, .ld none (.tmp 18)⟩, ⟨some 16, none, .ld none (.tmp 15)⟩] (.eff ⟨some 23, none, .eff (.app 50 4 32 [.int .i64 0, .int .i64 0, .int .i64 0, .int .i64 0]) [.tmp 17, .tmp 22]⟩ [⟨some 16, none, .ld none (.tmp 15)⟩] (.eff ⟨some 24, none, .eff (.bsl 70 1) [.tmp 23]⟩ [⟨some 16, none, .ld none (.tmp 15)⟩] (.eff ⟨some 25, none, .eff (.app 70 1 24 [.slice none 0 0]) [.tmp 16, .tmp 24]⟩ [] (.run ⟨some 26, none, .pur (.fla 1) [.tmp 3]⟩ (.eff ⟨none, none, .eff (.st 1) [.tmp 26, .tmp 25]⟩ [] .done))))))))))))) []))
  (.reg (straight [⟨some 13, none, .pur .mov [.tmp 4]⟩, ⟨some 14, none, .pur (.bin .add) [.tmp 13, .const (.int .i64 1)]⟩, ⟨some 4, none, .pur .mov [.tmp 14]⟩]) [4]))
def S_forebaylaw04_Own : Fun := ⟨28, [2, 0, 1, 4, 12, 3], [.cell 2 (some 2)],
  .seq (.reg (straight [⟨some 1, none, .eff (.box 57) [.tmp 0]⟩, ⟨some 2, none, .eff (.new 57 [.int .i64 0, .slice none 0 0]) []⟩]) [1, 2])
  (.seq (.reg (straight [⟨some 5, none, .pur (.fla 0) [.tmp 1]⟩, ⟨some 6, none, .ld none (.tmp 5)⟩, ⟨some 7, none, .pur (.bld [.int .i64 0, .slice none 0 0] [(0, 1)]) [.tmp 6]⟩, ⟨some 3, none, .eff (.new 57 [.int .i64 0, .slice none 0 0]) []⟩, ⟨none, none, .eff (.st 2) [.tmp 3, .tmp 7]⟩]) [3])
  (.seq (.seq (.reg (straight [⟨some 4, none, .pur .mov [.const (.int .i64 0)]⟩]) [4])
  (.block 0 (.loop S_forebaylaw04_Own_L1)))
  (.seq (.reg (straight [⟨some 27, none, .ld (some 2) (.tmp 3)⟩, ⟨none, none, .eff (.st 2) [.tmp 2, .tmp 27]⟩]) [])
  (.ret))))⟩
theorem K_forebaylaw04_Own : compF Tryd.prog 53 = some S_forebaylaw04_Own := by kernel_rfl

-- 69
def S_ins_Form : Fun := ⟨48, [2, 0, 4, 15, 22, 29, 32, 35, 38, 3], [.tmp 2],
  .seq (.reg (straight [⟨some 2, none, .pur .mov [.const (.string ⟨#[]⟩)]⟩]) [2])
  (.seq (.reg (straight [⟨some 3, none, .pur .mov [.const (.string ⟨#[]⟩)]⟩]) [3])
  (.seq (.block 0 (.seq (.block 7 (.seq (.block 6 (.seq (.block 5 (.seq (.block 4 (.seq (.block 3 (.seq (.block 2 (.seq (.block 1 (.seq (.seq (.seq (.seq (.reg (straight [⟨some 5, none, .pur .mov [.tmp 0]⟩, ⟨some 6, none, .pur (.bin .geq) [.tmp 5, .const (.int .i64 3)]⟩, ⟨some 7, none, .pur .mov [.tmp 6]⟩, ⟨some 8, some (7, true), .pur .mov [.tmp 0]⟩, ⟨some 9, some (7, true), .pur (.bin .leq) [.tmp 8, .const (.int .i64 12)]⟩, ⟨some 10, none, .pur .pick [.tmp 7, .tmp 9, .const (.bool false)]⟩, ⟨some 4, none, .pur .mov [.tmp 10]⟩]) [4])
  (.cond (.tmp 4) (.skip) (.seq (.reg (straight [⟨some 11, none, .pur .mov [.tmp 0]⟩, ⟨some 12, none, .pur (.bin .eql) [.tmp 11, .const (.int .i64 15)]⟩, ⟨some 4, none, .pur .mov [.tmp 12]⟩]) [4])
  (.cond (.tmp 4) (.skip) (.reg (straight [⟨some 13, none, .pur .mov [.tmp 0]⟩, ⟨some 14, none, .pur (.bin .eql) [.tmp 13, .const (.int .i64 16)]⟩, ⟨some 4, none, .pur .mov [.tmp 14]⟩]) [4])))))
  (.cond (.tmp 4) (.exit 1) (.skip)))
  (.seq (.seq (.seq (.reg (straight [⟨some 16, none, .pur .mov [.tmp 0]⟩, ⟨some 17, none, .pur (.bin .eql) [.tmp 16, .const (.int .i64 2)]⟩, ⟨some 15, none, .pur .mov [.tmp 17]⟩]) [15])
  (.cond (.tmp 15) (.skip) (.seq (.reg (straight [⟨some 18, none, .pur .mov [.tmp 0]⟩, ⟨some 19, none, .pur (.bin .eql) [.tmp 18, .const (.int .i64 13)]⟩, ⟨some 15, none, .pur .mov [.tmp 19]⟩]) [15])
  (.cond (.tmp 15) (.skip) (.reg (straight [⟨some 20, none, .pur .mov [.tmp 0]⟩, ⟨some 21, none, .pur (.bin .eql) [.tmp 20, .const (.int .i64 14)]⟩, ⟨some 15, none, .pur .mov [.tmp 21]⟩]) [15])))))
  (.cond (.tmp 15) (.exit 2) (.skip)))
  (.seq (.seq (.seq (.reg (straight [⟨some 23, none, .pur .mov [.tmp 0]⟩, ⟨some 24, none, .pur (.bin .eql) [.tmp 23, .const (.int .i64 17)]⟩, ⟨some 22, none, .pur .mov [.tmp 24]⟩]) [22])
  (.cond (.tmp 22) (.skip) (.seq (.reg (straight [⟨some 25, none, .pur .mov [.tmp 0]⟩, ⟨some 26, none, .pur (.bin .eql) [.tmp 25, .const (.int .i64 23)]⟩, ⟨some 22, none, .pur .mov [.tmp 26]⟩]) [22])
  (.cond (.tmp 22) (.skip) (.reg (straight [⟨some 27, none, .pur .mov [.tmp 0]⟩, ⟨some 28, none, .pur (.bin .eql) [.tmp 27, .const (.int .i64 24)]⟩, ⟨some 22, none, .pur .mov [.tmp 28]⟩]) [22])))))
  (.cond (.tmp 22) (.exit 3) (.skip)))
  (.seq (.seq (.reg (straight [⟨some 30, none, .pur .mov [.tmp 0]⟩, ⟨some 31, none, .pur (.bin .eql) [.tmp 30, .const (.int .i64 1)]⟩, ⟨some 29, none, .pur .mov [.tmp 31]⟩]) [29])
  (.cond (.tmp 29) (.exit 4) (.skip)))
  (.seq (.seq (.reg (straight [⟨some 33, none, .pur .mov [.tmp 0]⟩, ⟨some 34, none, .pur (.bin .eql) [.tmp 33, .const (.int .i64 19)]⟩, ⟨some 32, none, .pur .mov [.tmp 34]⟩]) [32])
  (.cond (.tmp 32) (.exit 5) (.skip)))
  (.seq (.seq (.reg (straight [⟨some 36, none, .pur .mov [.tmp 0]⟩, ⟨some 37, none, .pur (.bin .eql) [.tmp 36, .const (.int .i64 18)]⟩, ⟨some 35, none, .pur .mov [.tmp 37]⟩]) [35])
  (.cond (.tmp 35) (.exit 6) (.skip)))
  (.seq (.seq (.reg (straight [⟨some 39, none, .pur .mov [.tmp 0]⟩, ⟨some 40, none, .pur (.bin .eql) [.tmp 39, .const (.int .i64 20)]⟩, ⟨some 38, none, .pur .mov [.tmp 40]⟩]) [38])
  (.cond (.tmp 38) (.skip) (.reg (straight [⟨some 41, none, .pur .mov [.tmp 0]⟩, ⟨some 42, none, .pur (.bin .eql) [.tmp 41, .const (.int .i64 22)]⟩, ⟨some 38, none, .pur .mov [.tmp 42]⟩]) [38])))
  (.cond (.tmp 38) (.exit 7) (.skip)))))))))
  (.exit 0)))
  (.reg (straight [⟨some 3, none, .pur .mov [.const (.string ⟨#[114]⟩)]⟩]) [3])))
  (.reg (straight [⟨some 43, none, .pur .mov [.tmp 3]⟩, ⟨some 44, none, .pur (.bin .add) [.tmp 43, .const (.string ⟨#[114]⟩)]⟩, ⟨some 3, none, .pur .mov [.tmp 44]⟩]) [3])))
  (.seq (.reg (straight [⟨some 45, none, .pur .mov [.tmp 3]⟩, ⟨some 46, none, .pur (.bin .add) [.tmp 45, .const (.string ⟨#[114]⟩)]⟩, ⟨some 3, none, .pur .mov [.tmp 46]⟩]) [3])
  (.exit 0))))
  (.seq (.reg (straight [⟨some 3, none, .pur .mov [.const (.string ⟨#[114, 110]⟩)]⟩]) [3])
  (.exit 0))))
  (.seq (.reg (straight [⟨some 3, none, .pur .mov [.const (.string ⟨#[114, 116]⟩)]⟩]) [3])
  (.exit 0))))
  (.seq (.reg (straight [⟨some 3, none, .pur .mov [.const (.string ⟨#[116]⟩)]⟩]) [3])
  (.exit 0))))
  (.seq (.reg (straight [⟨some 3, none, .pur .mov [.const (.string ⟨#[102]⟩)]⟩]) [3])
  (.exit 0))))
  (.seq (.reg (straight [⟨some 47, none, .pur .mov [.tmp 3]⟩, ⟨some 2, none, .pur .mov [.tmp 47]⟩]) [2])
  (.ret))))⟩
theorem K_ins_Form : compF Tryd.prog 69 = some S_ins_Form := by kernel_rfl

-- 70
def S_ins_Check_L1 : SCode :=
  .seq (.reg (straight [⟨some 24, none, .pur (.bin .lss) [.tmp 23, .tmp 22]⟩]) [24])
  (.seq (.cond (.tmp 24) (.skip) (.exit 0))
  (.seq (.block 1 (.seq (.reg (straight [⟨some 25, none, .pur .mov [.tmp 23]⟩, ⟨some 5, none, .pur .mov [.tmp 25]⟩]) [5])
  (.seq (.reg (.run ⟨some 26, none, .pur .mov [.tmp 3]⟩ (.run ⟨some 27, none, .pur .mov [.tmp 5]⟩ (.run ⟨some 28, none, .pur .ixs [.tmp 26, .tmp 27]⟩ (.run ⟨some 29, none, .pur .mov [.tmp 5]⟩ (.run ⟨some 30, none, .pur (.ixaA 3 1) [.tmp 4, .tmp 29]⟩ (.run ⟨some 31, none, .ld none (.tmp 30)⟩ (.eff ⟨some 32, none, .eff (.call 94) [.tmp 28, .tmp 31]⟩ [] (.run ⟨some 33, none, .pur .not [.tmp 32]⟩ .done)))))))) [33])
  (.cond (.tmp 33) (.seq (.reg (straight [⟨some 2, none, .pur .mov [.const (.int .i64 3)]⟩]) [2])
  (.ret)) (.skip)))))
  (.reg (straight [⟨some 34, none, .pur (.bin .add) [.tmp 23, .const (.int .i64 1)]⟩, ⟨some 23, none, .pur .mov [.tmp 34]⟩]) [23])))
def S_ins_Check_L2 : SCode :=
  .seq (.reg (straight [⟨some 40, none, .pur (.bin .lss) [.tmp 39, .tmp 38]⟩]) [40])
  (.seq (.cond (.tmp 40) (.skip) (.exit 2))
  (.seq (.block 3 (.seq (.reg (straight [⟨some 41, none, .pur (.ixa 1) [.tmp 37, .tmp 39]⟩, ⟨some 42, none, .ld none (.tmp 41)⟩, ⟨some 7, none, .pur .mov [.tmp 42]⟩]) [7])
  (.seq (.reg (straight [⟨some 43, none, .pur .mov [.tmp 7]⟩, ⟨some 44, none, .pur (.bin .neq) [.tmp 43, .const (.int .i64 0)]⟩]) [44])
  (.cond (.tmp 44) (.seq (.reg (straight [⟨some 2, none, .pur .mov [.const (.int .i64 4)]⟩]) [2])
  (.ret)) (.skip)))))
  (.reg (straight [⟨some 45, none, .pur (.bin .add) [.tmp 39, .const (.int .i64 1)]⟩, ⟨some 39, none, .pur .mov [.tmp 45]⟩]) [39])))
def S_ins_Check : Fun := ⟨46, [2, 0, 1, 15, 3, 23, 22, 24, 5, 4, 33, 39, 38, 40, 37, 7, 44], [.tmp 2],
  .seq (.reg (straight [⟨some 1, none, .eff (.box 50) [.tmp 0]⟩, ⟨some 2, none, .pur .mov [.const (.int .i64 0)]⟩]) [1, 2])
  (.seq (.seq (.reg (straight [⟨some 8, none, .pur (.fla 0) [.tmp 1]⟩, ⟨some 9, none, .ld none (.tmp 8)⟩, ⟨some 10, none, .pur (.bin .lss) [.tmp 9, .const (.int .i64 0)]⟩, ⟨some 11, none, .pur .mov [.tmp 10]⟩, ⟨some 12, some (11, false), .pur (.fla 0) [.tmp 1]⟩, ⟨some 13, some (11, false), .ld none (.tmp 12)⟩, ⟨some 14, some (11, false), .pur (.bin .geq) [.tmp 13, .const (.int .i64 26)]⟩, ⟨some 15, none, .pur .pick [.tmp 11, .const (.bool true), .tmp 14]⟩]) [15])
  (.cond (.tmp 15) (.seq (.reg (straight [⟨some 2, none, .pur .mov [.const (.int .i64 5)]⟩]) [2])
  (.ret)) (.skip)))
  (.seq (.reg (.run ⟨some 16, none, .pur (.fla 0) [.tmp 1]⟩ (.run ⟨some 17, none, .ld none (.tmp 16)⟩ (.run ⟨some 19, none, .ld (some 4) (.tmp 1)⟩ (.both (.eff ⟨some 18, none, .eff (.call 69) [.tmp 17]⟩ [⟨some 19, none, .ld (some 4) (.tmp 1)⟩] (.both (.eff ⟨some 20, none, .eff (.call 93) [.tmp 19]⟩ [] (.eff ⟨some 4, none, .eff (.new 89 [.int .i64 0, .int .i64 0, .int .i64 0]) []⟩ [] (.run ⟨some 3, none, .pur .mov [.tmp 18]⟩ (.eff ⟨none, none, .eff (.st 3) [.tmp 4, .tmp 20]⟩ [] .done)))) (.eff ⟨some 4, none, .eff (.new 89 [.int .i64 0, .int .i64 0, .int .i64 0]) []⟩ [⟨some 19, none, .ld (some 4) (.tmp 1)⟩] (.eff ⟨some 20, none, .eff (.call 93) [.tmp 19]⟩ [] (.run ⟨some 3, none, .pur .mov [.tmp 18]⟩ (.eff ⟨none, none, .eff (.st 3) [.tmp 4, .tmp 20]⟩ [] .done)))))) (.eff ⟨some 4, none, .eff (.new 89 [.int .i64 0, .int .i64 0, .int .i64 0]) []⟩ [⟨some 19, none, .ld (some 4) (.tmp 1)⟩, ⟨some 17, none, .ld none (.tmp 16)⟩] (.eff ⟨some 18, none, .eff (.call 69) [.tmp 17]⟩ [⟨some 19, none, .ld (some 4) (.tmp 1)⟩] (.eff ⟨some 20, none, .eff (.call 93) [.tmp 19]⟩ [] (.run ⟨some 3, none, .pur .mov [.tmp 18]⟩ (.eff ⟨none, none, .eff (.st 3) [.tmp 4, .tmp 20]⟩ [] .done))))))))) [4, 3])
  (.seq (.seq (.reg (straight [⟨some 21, none, .pur .mov [.tmp 3]⟩, ⟨some 22, none, .pur (.len true) [.tmp 21]⟩, ⟨some 23, none, .pur .mov [.const (.int .i64 0)]⟩]) [22, 23])
  (.block 0 (.loop S_ins_Check_L1)))
  (.seq (.seq (.reg (straight [⟨some 35, none, .pur .mov [.tmp 3]⟩, ⟨some 36, none, .pur (.len true) [.tmp 35]⟩, ⟨some 37, none, .pur (.slcA 3 1 true false) [.tmp 4, .tmp 36]⟩, ⟨some 38, none, .pur (.len false) [.tmp 37]⟩, ⟨some 39, none, .pur .mov [.const (.int .i64 0)]⟩]) [37, 38, 39])
  (.block 2 (.loop S_ins_Check_L2)))
  (.seq (.reg (straight [⟨some 2, none, .pur .mov [.const (.int .i64 0)]⟩]) [2])
  (.ret))))))⟩
theorem K_ins_Check : compF Tryd.prog 70 = some S_ins_Check := by kernel_rfl

-- 72
def S_forebayref03_Form : Fun := ⟨13, [2, 0, 8], [.tmp 2],
  .seq (.reg (straight [⟨some 2, none, .pur .mov [.const (.string ⟨#[]⟩)]⟩]) [2])
  (.seq (.seq (.reg (straight [⟨some 3, none, .pur .mov [.tmp 0]⟩, ⟨some 4, none, .pur (.bin .lss) [.tmp 3, .const (.int .i64 0)]⟩, ⟨some 5, none, .pur .mov [.tmp 4]⟩, ⟨some 6, some (5, false), .pur .mov [.tmp 0]⟩, ⟨some 7, some (5, false), .pur (.bin .gtr) [.tmp 6, .const (.int .i64 25)]⟩, ⟨some 8, none, .pur .pick [.tmp 5, .const (.bool true), .tmp 7]⟩]) [8])
  (.cond (.tmp 8) (.seq (.reg (straight [⟨some 2, none, .pur .mov [.const (.string ⟨#[]⟩)]⟩]) [2])
  (.ret)) (.skip)))
  (.seq (.reg (straight [⟨some 9, none, .eff (.call 95) []⟩, ⟨some 10, none, .pur .mov [.tmp 0]⟩, ⟨some 11, none, .pur (.ixa 1) [.tmp 9, .tmp 10]⟩, ⟨some 12, none, .ld none (.tmp 11)⟩, ⟨some 2, none, .pur .mov [.tmp 12]⟩]) [2])
  (.ret)))⟩
theorem K_forebayref03_Form : compF Tryd.prog 72 = some S_forebayref03_Form := by kernel_rfl

-- 73
def S_forebayref03_Check_L1 : SCode :=
  .seq (.seq (.reg (straight [⟨some 27, none, .pur .mov [.tmp 5]⟩, ⟨some 28, none, .pur .mov [.tmp 3]⟩, ⟨some 29, none, .pur (.len true) [.tmp 28]⟩, ⟨some 30, none, .pur (.bin .lss) [.tmp 27, .tmp 29]⟩]) [30])
  (.cond (.tmp 30) (.skip) (.exit 0)))
  (.seq (.block 1 (.seq (.reg (straight [⟨some 34, none, .pur .mov [.tmp 3]⟩, ⟨some 35, none, .pur .mov [.tmp 5]⟩, ⟨some 36, none, .pur .mov [.tmp 5]⟩, ⟨some 37, none, .pur (.bin .add) [.tmp 36, .const (.int .i64 1)]⟩, ⟨some 38, none, .pur (.sls true true) [.tmp 34, .tmp 35, .tmp 37]⟩, ⟨some 39, none, .eff (.call 96) [.tmp 38]⟩, ⟨some 33, none, .pur .mov [.tmp 39]⟩, ⟨some 40, none, .pur (.ext 0) [.tmp 33]⟩, ⟨some 41, none, .pur (.ext 1) [.tmp 33]⟩, ⟨some 6, none, .pur .mov [.tmp 40]⟩, ⟨some 7, none, .pur .mov [.tmp 41]⟩]) [6, 7])
  (.seq (.reg (straight [⟨some 42, none, .pur .mov [.tmp 4]⟩, ⟨some 43, none, .pur .mov [.tmp 5]⟩, ⟨some 44, none, .pur (.ixa 1) [.tmp 42, .tmp 43]⟩, ⟨some 45, none, .ld none (.tmp 44)⟩, ⟨some 46, none, .pur .mov [.tmp 6]⟩, ⟨some 47, none, .pur (.bin .lss) [.tmp 45, .tmp 46]⟩, ⟨some 48, none, .pur .mov [.tmp 47]⟩, ⟨some 49, some (48, false), .pur .mov [.tmp 4]⟩, ⟨some 50, some (48, false), .pur .mov [.tmp 5]⟩, ⟨some 51, some (48, false), .pur (.ixa 1) [.tmp 49, .tmp 50]⟩, ⟨some 52, some (48, false), .ld none (.tmp 51)⟩, ⟨some 53, some (48, false), .pur .mov [.tmp 7]⟩, ⟨some 54, some (48, false), .pur (.bin .gtr) [.tmp 52, .tmp 53]⟩, ⟨some 55, none, .pur .pick [.tmp 48, .const (.bool true), .tmp 54]⟩]) [55])
  (.cond (.tmp 55) (.seq (.reg (straight [⟨some 2, none, .pur .mov [.const (.int .i64 3)]⟩]) [2])
  (.ret)) (.skip)))))
  (.reg (straight [⟨some 31, none, .pur .mov [.tmp 5]⟩, ⟨some 32, none, .pur (.bin .add) [.tmp 31, .const (.int .i64 1)]⟩, ⟨some 5, none, .pur .mov [.tmp 32]⟩]) [5]))
def S_forebayref03_Check_L2 : SCode :=
  .seq (.seq (.reg (straight [⟨some 58, none, .pur .mov [.tmp 8]⟩, ⟨some 59, none, .pur (.bin .lss) [.tmp 58, .const (.int .i64 3)]⟩]) [59])
  (.cond (.tmp 59) (.skip) (.exit 2)))
  (.seq (.block 3 (.seq (.reg (straight [⟨some 62, none, .pur .mov [.tmp 4]⟩, ⟨some 63, none, .pur .mov [.tmp 8]⟩, ⟨some 64, none, .pur (.ixa 1) [.tmp 62, .tmp 63]⟩, ⟨some 65, none, .ld none (.tmp 64)⟩, ⟨some 66, none, .pur (.bin .neq) [.tmp 65, .const (.int .i64 0)]⟩]) [66])
  (.cond (.tmp 66) (.seq (.reg (straight [⟨some 2, none, .pur .mov [.const (.int .i64 4)]⟩]) [2])
  (.ret)) (.skip))))
  (.reg (straight [⟨some 60, none, .pur .mov [.tmp 8]⟩, ⟨some 61, none, .pur (.bin .add) [.tmp 60, .const (.int .i64 1)]⟩, ⟨some 8, none, .pur .mov [.tmp 61]⟩]) [8]))
def S_forebayref03_Check : Fun := ⟨67, [2, 0, 1, 16, 5, 3, 30, 4, 6, 7, 55, 8, 59, 66], [.tmp 2],
  .seq (.reg (straight [⟨some 1, none, .eff (.box 50) [.tmp 0]⟩, ⟨some 2, none, .pur .mov [.const (.int .i64 0)]⟩]) [1, 2])
  (.seq (.seq (.reg (straight [⟨some 9, none, .pur (.fla 0) [.tmp 1]⟩, ⟨some 10, none, .ld none (.tmp 9)⟩, ⟨some 11, none, .pur (.bin .lss) [.tmp 10, .const (.int .i64 0)]⟩, ⟨some 12, none, .pur .mov [.tmp 11]⟩, ⟨some 13, some (12, false), .pur (.fla 0) [.tmp 1]⟩, ⟨some 14, some (12, false), .ld none (.tmp 13)⟩, ⟨some 15, some (12, false), .pur (.bin .gtr) [.tmp 14, .const (.int .i64 25)]⟩, ⟨some 16, none, .pur .pick [.tmp 12, .const (.bool true), .tmp 15]⟩]) [16])
  (.cond (.tmp 16) (.seq (.reg (straight [⟨some 2, none, .pur .mov [.const (.int .i64 5)]⟩]) [2])
  (.ret)) (.skip)))
  (.seq (.reg (straight [⟨some 17, none, .pur (.fla 0) [.tmp 1]⟩, ⟨some 18, none, .ld none (.tmp 17)⟩, ⟨some 19, none, .eff (.call 72) [.tmp 18]⟩, ⟨some 3, none, .pur .mov [.tmp 19]⟩]) [3])
  (.seq (.reg (straight [⟨some 20, none, .pur (.fla 1) [.tmp 1]⟩, ⟨some 21, none, .ld none (.tmp 20)⟩, ⟨some 22, none, .pur (.fla 2) [.tmp 1]⟩, ⟨some 23, none, .ld none (.tmp 22)⟩, ⟨some 24, none, .pur (.fla 3) [.tmp 1]⟩, ⟨some 25, none, .ld none (.tmp 24)⟩, ⟨some 26, none, .eff (.bsl 3 1) [.tmp 21, .tmp 23, .tmp 25]⟩, ⟨some 4, none, .pur .mov [.tmp 26]⟩]) [4])
  (.seq (.seq (.reg (straight [⟨some 5, none, .pur .mov [.const (.int .i64 0)]⟩]) [5])
  (.block 0 (.loop S_forebayref03_Check_L1)))
  (.seq (.seq (.reg (straight [⟨some 56, none, .pur .mov [.tmp 3]⟩, ⟨some 57, none, .pur (.len true) [.tmp 56]⟩, ⟨some 8, none, .pur .mov [.tmp 57]⟩]) [8])
  (.block 2 (.loop S_forebayref03_Check_L2)))
  (.seq (.reg (straight [⟨some 2, none, .pur .mov [.const (.int .i64 0)]⟩]) [2])
  (.ret)))))))⟩
theorem K_forebayref03_Check : compF Tryd.prog 73 = some S_forebayref03_Check := by kernel_rfl

-- 78
def S_prog_Check_L1 : SCode :=
  .seq (.reg (straight [⟨some 20, none, .pur (.bin .lss) [.tmp 19, .tmp 18]⟩]) [20])
  (.seq (.cond (.tmp 20) (.skip) (.exit 0))
  (.seq (.block 1 (.seq (.reg (straight [⟨some 21, none, .pur (.ixa 1) [.tmp 17, .tmp 19]⟩, ⟨some 22, none, .ld none (.tmp 21)⟩, ⟨some 5, none, .pur .mov [.tmp 22]⟩]) [5])
  (.seq (.reg (straight [⟨some 23, none, .pur .mov [.tmp 5]⟩, ⟨some 24, none, .pur (.fla 1) [.tmp 1]⟩, ⟨some 25, none, .ld none (.tmp 24)⟩, ⟨some 26, none, .pur (.len false) [.tmp 25]⟩, ⟨some 27, none, .eff (.call 98) [.tmp 23, .tmp 26]⟩, ⟨some 6, none, .pur .mov [.tmp 27]⟩]) [6])
  (.seq (.reg (straight [⟨some 28, none, .pur .mov [.tmp 6]⟩, ⟨some 29, none, .pur (.bin .neq) [.tmp 28, .const (.int .i64 0)]⟩]) [29])
  (.cond (.tmp 29) (.seq (.reg (straight [⟨some 30, none, .pur .mov [.tmp 6]⟩, ⟨some 2, none, .pur .mov [.tmp 30]⟩]) [2])
  (.ret)) (.skip))))))
  (.reg (straight [⟨some 31, none, .pur (.bin .add) [.tmp 19, .const (.int .i64 1)]⟩, ⟨some 19, none, .pur .mov [.tmp 31]⟩]) [19])))
def S_prog_Check : Fun := ⟨32, [2, 0, 1, 3, 14, 19, 18, 20, 17, 5, 6, 29], [.tmp 2],
  .seq (.reg (straight [⟨some 1, none, .eff (.box 57) [.tmp 0]⟩, ⟨some 2, none, .pur .mov [.const (.int .i64 0)]⟩]) [1, 2])
  (.seq (.seq (.reg (straight [⟨some 7, none, .pur (.fla 0) [.tmp 1]⟩, ⟨some 8, none, .ld none (.tmp 7)⟩, ⟨some 9, none, .pur (.fla 1) [.tmp 1]⟩, ⟨some 10, none, .ld none (.tmp 9)⟩, ⟨some 11, none, .pur (.len false) [.tmp 10]⟩, ⟨some 12, none, .eff (.call 97) [.tmp 8, .tmp 11]⟩, ⟨some 3, none, .pur .mov [.tmp 12]⟩]) [3])
  (.seq (.reg (straight [⟨some 13, none, .pur .mov [.tmp 3]⟩, ⟨some 14, none, .pur (.bin .neq) [.tmp 13, .const (.int .i64 0)]⟩]) [14])
  (.cond (.tmp 14) (.seq (.reg (straight [⟨some 15, none, .pur .mov [.tmp 3]⟩, ⟨some 2, none, .pur .mov [.tmp 15]⟩]) [2])
  (.ret)) (.skip))))
  (.seq (.seq (.reg (straight [⟨some 16, none, .pur (.fla 1) [.tmp 1]⟩, ⟨some 17, none, .ld none (.tmp 16)⟩, ⟨some 18, none, .pur (.len false) [.tmp 17]⟩, ⟨some 19, none, .pur .mov [.const (.int .i64 0)]⟩]) [17, 18, 19])
  (.block 0 (.loop S_prog_Check_L1)))
  (.seq (.reg (straight [⟨some 2, none, .pur .mov [.const (.int .i64 0)]⟩]) [2])
  (.ret))))⟩
theorem K_prog_Check : compF Tryd.prog 78 = some S_prog_Check := by kernel_rfl

-- 79
def S_forebayref04_Check_L2 : SCode :=
  .seq (.seq (.reg (straight [⟨some 43, none, .pur .mov [.tmp 7]⟩, ⟨some 44, none, .pur .mov [.tmp 5]⟩, ⟨some 45, none, .pur (.len false) [.tmp 44]⟩, ⟨some 46, none, .pur (.bin .lss) [.tmp 43, .tmp 45]⟩]) [46])
  (.cond (.tmp 46) (.skip) (.exit 2)))
  (.seq (.block 3 (.seq (.reg (straight [⟨some 49, none, .pur .mov [.tmp 5]⟩, ⟨some 50, none, .pur .mov [.tmp 7]⟩, ⟨some 51, none, .pur (.ixa 4) [.tmp 49, .tmp 50]⟩, ⟨some 52, none, .ld (some 4) (.tmp 51)⟩, ⟨some 53, none, .eff (.call 73) [.tmp 52]⟩, ⟨some 8, none, .pur .mov [.tmp 53]⟩]) [8])
  (.seq (.seq (.reg (straight [⟨some 54, none, .pur .mov [.tmp 8]⟩, ⟨some 55, none, .pur (.bin .neq) [.tmp 54, .const (.int .i64 0)]⟩]) [55])
  (.cond (.tmp 55) (.seq (.reg (straight [⟨some 56, none, .pur .mov [.tmp 8]⟩, ⟨some 2, none, .pur .mov [.tmp 56]⟩]) [2])
  (.ret)) (.skip)))
  (.seq (.reg (straight [⟨some 57, none, .pur .mov [.tmp 5]⟩, ⟨some 58, none, .pur .mov [.tmp 7]⟩, ⟨some 59, none, .pur (.ixa 4) [.tmp 57, .tmp 58]⟩, ⟨some 60, none, .pur (.fla 0) [.tmp 59]⟩, ⟨some 61, none, .ld none (.tmp 60)⟩, ⟨some 62, none, .pur (.bin .eql) [.tmp 61, .const (.int .i64 18)]⟩, ⟨some 63, none, .pur .mov [.tmp 62]⟩, ⟨some 64, some (63, true), .pur .mov [.tmp 5]⟩, ⟨some 65, some (63, true), .pur .mov [.tmp 7]⟩, ⟨some 66, some (63, true), .pur (.ixa 4) [.tmp 64, .tmp 65]⟩, ⟨some 67, some (63, true), .pur (.fla 1) [.tmp 66]⟩, ⟨some 68, some (63, true), .ld none (.tmp 67)⟩, ⟨some 69, some (63, true), .pur .mov [.tmp 5]⟩, ⟨some 70, some (63, true), .pur (.len false) [.tmp 69]⟩, ⟨some 71, some (63, true), .pur (.bin .geq) [.tmp 68, .tmp 70]⟩, ⟨some 72, none, .pur .pick [.tmp 63, .tmp 71, .const (.bool false)]⟩, ⟨some 73, none, .pur .mov [.tmp 72]⟩, ⟨some 74, some (73, false), .pur .mov [.tmp 5]⟩, ⟨some 75, some (73, false), .pur .mov [.tmp 7]⟩, ⟨some 76, some (73, false), .pur (.ixa 4) [.tmp 74, .tmp 75]⟩, ⟨some 77, some (73, false), .pur (.fla 0) [.tmp 76]⟩, ⟨some 78, some (73, false), .ld none (.tmp 77)⟩, ⟨some 79, some (73, false), .pur (.bin .eql) [.tmp 78, .const (.int .i64 19)]⟩, ⟨some 80, some (73, false), .pur .mov [.tmp 79]⟩, ⟨some 81, some (80, true), .pur .mov [.tmp 5]⟩, ⟨some 82, some (80, true), .pur .mov [.tmp 7]⟩, ⟨some 83, some (80, true), .pur (.ixa 4) [.tmp 81, .tmp 82]⟩, ⟨some 84, some (80, true), .pur (.fla 2) [.tmp 83]⟩, ⟨some 85, some (80, true), .ld none (.tmp 84)⟩, ⟨some 86, some (80, true), .pur .mov [.tmp 5]⟩, ⟨some 87, some (80, true), .pur (.len false) [.tmp 86]⟩, ⟨some 88, some (80, true), .pur (.bin .geq) [.tmp 85, .tmp 87]⟩, ⟨some 89, some (73, false), .pur .pick [.tmp 80, .tmp 88, .const (.bool false)]⟩, ⟨some 90, none, .pur .pick [.tmp 73, .const (.bool true), .tmp 89]⟩, ⟨some 91, none, .pur .mov [.tmp 90]⟩, ⟨some 92, some (91, false), .pur .mov [.tmp 5]⟩, ⟨some 93, some (91, false), .pur .mov [.tmp 7]⟩, ⟨some 94, some (91, false), .pur (.ixa 4) [.tmp 92, .tmp 93]⟩, ⟨some 95, some (91, false), .pur (.fla 0) [.tmp 94]⟩, ⟨some 96, some (91, false), .ld none (.tmp 95)⟩, ⟨some 97, some (91, false), .pur (.bin .eql) [.tmp 96, .const (.int .i64 20)]⟩, ⟨some 98, some (91, false), .pur .mov [.tmp 97]⟩, ⟨some 99, some (98, false), .pur .mov [.tmp 5]⟩, ⟨some 100, some (98, false), .pur .mov [.tmp 7]⟩, ⟨some 101, some (98, false), .pur (.ixa 4) [.tmp 99, .tmp 100]⟩, ⟨some 102, some (98, false), .pur (.fla 0) [.tmp 101]⟩, ⟨some 103, some (98, false), .ld none (.tmp 102)⟩, ⟨some 104, some (98, false), .pur (.bin .eql) [.tmp 103, .const (.int .i64 22)]⟩, ⟨some 105, some (91, false), .pur .pick [.tmp 98, .const (.bool true), .tmp 104]⟩, ⟨some 106, some (91, false), .pur .mov [.tmp 105]⟩, ⟨some 107, some (106, true), .pur .mov [.tmp 5]⟩, ⟨some 108, some (106, true), .pur .mov [.tmp 7]⟩, ⟨some 109, some (106, true), .pur (.ixa 4) [.tmp 107, .tmp 108]⟩, ⟨some 110, some (106, true), .pur (.fla 1) [.tmp 109]⟩, ⟨some 111, some (106, true), .ld none (.tmp 110)⟩, ⟨some 112, some (106, true), .pur (.fla 1) [.tmp 1]⟩, ⟨some 113, some (106, true), .ld none (.tmp 112)⟩, ⟨some 114, some (106, true), .pur (.len false) [.tmp 113]⟩, ⟨some 115, some (106, true), .pur (.bin .geq) [.tmp 111, .tmp 114]⟩, ⟨some 116, some (91, false), .pur .pick [.tmp 106, .tmp 115, .const (.bool false)]⟩, ⟨some 117, none, .pur .pick [.tmp 91, .const (.bool true), .tmp 116]⟩]) [117])
  (.cond (.tmp 117) (.seq (.reg (straight [⟨some 2, none, .pur .mov [.const (.int .i64 11)]⟩]) [2])
  (.ret)) (.skip))))))
  (.reg (straight [⟨some 47, none, .pur .mov [.tmp 7]⟩, ⟨some 48, none, .pur (.bin .add) [.tmp 47, .const (.int .i64 1)]⟩, ⟨some 7, none, .pur .mov [.tmp 48]⟩]) [7]))
def S_forebayref04_Check_L1 : SCode :=
  .seq (.seq (.reg (straight [⟨some 25, none, .pur .mov [.tmp 4]⟩, ⟨some 26, none, .pur (.fla 1) [.tmp 1]⟩, ⟨some 27, none, .ld none (.tmp 26)⟩, ⟨some 28, none, .pur (.len false) [.tmp 27]⟩, ⟨some 29, none, .pur (.bin .lss) [.tmp 25, .tmp 28]⟩]) [29])
  (.cond (.tmp 29) (.skip) (.exit 0)))
  (.seq (.block 1 (.seq (.reg (straight [⟨some 32, none, .pur (.fla 1) [.tmp 1]⟩, ⟨some 33, none, .ld none (.tmp 32)⟩, ⟨some 34, none, .pur .mov [.tmp 4]⟩, ⟨some 35, none, .pur (.ixa 1) [.tmp 33, .tmp 34]⟩, ⟨some 36, none, .ld none (.tmp 35)⟩, ⟨some 5, none, .pur .mov [.tmp 36]⟩]) [5])
  (.seq (.reg (straight [⟨some 37, none, .pur .mov [.tmp 5]⟩, ⟨some 38, none, .pur (.len false) [.tmp 37]⟩, ⟨some 39, none, .eff (.call 99) [.tmp 38, .const (.int .i64 200)]⟩, ⟨some 6, none, .pur .mov [.tmp 39]⟩]) [6])
  (.seq (.seq (.reg (straight [⟨some 40, none, .pur .mov [.tmp 6]⟩, ⟨some 41, none, .pur (.bin .neq) [.tmp 40, .const (.int .i64 0)]⟩]) [41])
  (.cond (.tmp 41) (.seq (.reg (straight [⟨some 42, none, .pur .mov [.tmp 6]⟩, ⟨some 2, none, .pur .mov [.tmp 42]⟩]) [2])
  (.ret)) (.skip)))
  (.seq (.seq (.reg (straight [⟨some 7, none, .pur .mov [.const (.int .i64 0)]⟩]) [7])
  (.block 2 (.loop S_forebayref04_Check_L2)))
  (.seq (.reg (straight [⟨some 118, none, .pur .mov [.tmp 5]⟩, ⟨some 119, none, .pur .mov [.tmp 5]⟩, ⟨some 120, none, .pur (.len false) [.tmp 119]⟩, ⟨some 121, none, .pur (.bin .sub) [.tmp 120, .const (.int .i64 1)]⟩, ⟨some 122, none, .pur (.ixa 4) [.tmp 118, .tmp 121]⟩, ⟨some 123, none, .pur (.fla 0) [.tmp 122]⟩, ⟨some 124, none, .ld none (.tmp 123)⟩, ⟨some 9, none, .pur .mov [.tmp 124]⟩]) [9])
  (.seq (.reg (straight [⟨some 125, none, .pur .mov [.tmp 9]⟩, ⟨some 126, none, .pur (.bin .neq) [.tmp 125, .const (.int .i64 0)]⟩, ⟨some 127, none, .pur .mov [.tmp 126]⟩, ⟨some 128, some (127, true), .pur .mov [.tmp 9]⟩, ⟨some 129, some (127, true), .pur (.bin .neq) [.tmp 128, .const (.int .i64 18)]⟩, ⟨some 130, none, .pur .pick [.tmp 127, .tmp 129, .const (.bool false)]⟩, ⟨some 131, none, .pur .mov [.tmp 130]⟩, ⟨some 132, some (131, true), .pur .mov [.tmp 9]⟩, ⟨some 133, some (131, true), .pur (.bin .neq) [.tmp 132, .const (.int .i64 25)]⟩, ⟨some 134, none, .pur .pick [.tmp 131, .tmp 133, .const (.bool false)]⟩]) [134])
  (.cond (.tmp 134) (.seq (.reg (straight [⟨some 2, none, .pur .mov [.const (.int .i64 12)]⟩]) [2])
  (.ret)) (.skip)))))))))
  (.reg (straight [⟨some 30, none, .pur .mov [.tmp 4]⟩, ⟨some 31, none, .pur (.bin .add) [.tmp 30, .const (.int .i64 1)]⟩, ⟨some 4, none, .pur .mov [.tmp 31]⟩]) [4]))
def S_forebayref04_Check : Fun := ⟨135, [2, 0, 1, 17, 3, 23, 4, 29, 5, 6, 41, 7, 46, 8, 55, 117, 9, 134], [.tmp 2],
  .seq (.reg (straight [⟨some 1, none, .eff (.box 57) [.tmp 0]⟩, ⟨some 2, none, .pur .mov [.const (.int .i64 0)]⟩]) [1, 2])
  (.seq (.seq (.reg (straight [⟨some 10, none, .pur (.fla 0) [.tmp 1]⟩, ⟨some 11, none, .ld none (.tmp 10)⟩, ⟨some 12, none, .pur (.bin .lss) [.tmp 11, .const (.int .i64 0)]⟩, ⟨some 13, none, .pur .mov [.tmp 12]⟩, ⟨some 14, some (13, false), .pur (.fla 0) [.tmp 1]⟩, ⟨some 15, some (13, false), .ld none (.tmp 14)⟩, ⟨some 16, some (13, false), .pur (.bin .gtr) [.tmp 15, .const (.int .i64 256)]⟩, ⟨some 17, none, .pur .pick [.tmp 13, .const (.bool true), .tmp 16]⟩]) [17])
  (.cond (.tmp 17) (.seq (.reg (straight [⟨some 2, none, .pur .mov [.const (.int .i64 3)]⟩]) [2])
  (.ret)) (.skip)))
  (.seq (.reg (straight [⟨some 18, none, .pur (.fla 1) [.tmp 1]⟩, ⟨some 19, none, .ld none (.tmp 18)⟩, ⟨some 20, none, .pur (.len false) [.tmp 19]⟩, ⟨some 21, none, .eff (.call 99) [.tmp 20, .const (.int .i64 16)]⟩, ⟨some 3, none, .pur .mov [.tmp 21]⟩]) [3])
  (.seq (.seq (.reg (straight [⟨some 22, none, .pur .mov [.tmp 3]⟩, ⟨some 23, none, .pur (.bin .neq) [.tmp 22, .const (.int .i64 0)]⟩]) [23])
  (.cond (.tmp 23) (.seq (.reg (straight [⟨some 24, none, .pur .mov [.tmp 3]⟩, ⟨some 2, none, .pur .mov [.tmp 24]⟩]) [2])
  (.ret)) (.skip)))
  (.seq (.seq (.reg (straight [⟨some 4, none, .pur .mov [.const (.int .i64 0)]⟩]) [4])
  (.block 0 (.loop S_forebayref04_Check_L1)))
  (.seq (.reg (straight [⟨some 2, none, .pur .mov [.const (.int .i64 0)]⟩]) [2])
  (.ret))))))⟩
theorem K_forebayref04_Check : compF Tryd.prog 79 = some S_forebayref04_Check := by kernel_rfl

-- 93
def S_ins_fields : Fun := ⟨10, [2, 0, 1], [.cell 2 (some 3)],
  .seq (.reg (straight [⟨some 1, none, .eff (.box 50) [.tmp 0]⟩, ⟨some 2, none, .eff (.new 89 [.int .i64 0, .int .i64 0, .int .i64 0]) []⟩]) [1, 2])
  (.seq (.reg (straight [⟨some 3, none, .pur (.fla 1) [.tmp 1]⟩, ⟨some 4, none, .ld none (.tmp 3)⟩, ⟨some 5, none, .pur (.fla 2) [.tmp 1]⟩, ⟨some 6, none, .ld none (.tmp 5)⟩, ⟨some 7, none, .pur (.fla 3) [.tmp 1]⟩, ⟨some 8, none, .ld none (.tmp 7)⟩, ⟨some 9, none, .pur (.bld [.int .i64 0, .int .i64 0, .int .i64 0] [(0, 1), (1, 1), (2, 1)]) [.tmp 4, .tmp 6, .tmp 8]⟩, ⟨none, none, .eff (.st 3) [.tmp 2, .tmp 9]⟩]) [])
  (.ret))⟩
theorem K_ins_fields : compF Tryd.prog 93 = some S_ins_fields := by kernel_rfl

-- 94
def S_ins_fits : Fun := ⟨36, [4, 0, 5, 6, 1, 14, 22], [.tmp 4],
  .seq (.reg (straight [⟨some 4, none, .pur .mov [.const (.bool false)]⟩]) [4])
  (.seq (.seq (.reg (straight [⟨some 5, none, .pur .mov [.tmp 0]⟩]) [5])
  (.block 0 (.seq (.reg (straight [⟨some 7, none, .pur (.bin .eql) [.tmp 5, .const (.int .u8 114)]⟩, ⟨some 6, none, .pur .mov [.tmp 7]⟩]) [6])
  (.cond (.tmp 6) (.seq (.reg (straight [⟨some 8, none, .pur .mov [.tmp 1]⟩, ⟨some 9, none, .pur (.bin .geq) [.tmp 8, .const (.int .i64 0)]⟩, ⟨some 10, none, .pur .mov [.tmp 9]⟩, ⟨some 11, some (10, true), .pur .mov [.tmp 1]⟩, ⟨some 12, some (10, true), .pur (.bin .leq) [.tmp 11, .const (.int .i64 7)]⟩, ⟨some 13, none, .pur .pick [.tmp 10, .tmp 12, .const (.bool false)]⟩, ⟨some 4, none, .pur .mov [.tmp 13]⟩]) [4])
  (.ret)) (.seq (.reg (straight [⟨some 15, none, .pur (.bin .eql) [.tmp 5, .const (.int .u8 102)]⟩, ⟨some 14, none, .pur .mov [.tmp 15]⟩]) [14])
  (.cond (.tmp 14) (.seq (.reg (straight [⟨some 16, none, .pur .mov [.tmp 1]⟩, ⟨some 17, none, .pur (.bin .geq) [.tmp 16, .const (.int .i64 0)]⟩, ⟨some 18, none, .pur .mov [.tmp 17]⟩, ⟨some 19, some (18, true), .pur .mov [.tmp 1]⟩, ⟨some 20, some (18, true), .pur (.bin .leq) [.tmp 19, .const (.int .i64 15)]⟩, ⟨some 21, none, .pur .pick [.tmp 18, .tmp 20, .const (.bool false)]⟩, ⟨some 4, none, .pur .mov [.tmp 21]⟩]) [4])
  (.ret)) (.seq (.reg (straight [⟨some 23, none, .pur (.bin .eql) [.tmp 5, .const (.int .u8 116)]⟩, ⟨some 22, none, .pur .mov [.tmp 23]⟩]) [22])
  (.cond (.tmp 22) (.seq (.reg (straight [⟨some 24, none, .pur .mov [.tmp 1]⟩, ⟨some 25, none, .pur (.bin .geq) [.tmp 24, .const (.int .i64 0)]⟩, ⟨some 26, none, .pur .mov [.tmp 25]⟩, ⟨some 27, some (26, true), .pur .mov [.tmp 1]⟩, ⟨some 28, some (26, true), .pur (.bin .leq) [.tmp 27, .const (.int .i64 199)]⟩, ⟨some 29, none, .pur .pick [.tmp 26, .tmp 28, .const (.bool false)]⟩, ⟨some 4, none, .pur .mov [.tmp 29]⟩]) [4])
  (.ret)) (.skip)))))))))
  (.seq (.reg (straight [⟨some 30, none, .pur .mov [.tmp 1]⟩, ⟨some 31, none, .pur (.bin .geq) [.tmp 30, .const (.int .i64 (-32768))]⟩, ⟨some 32, none, .pur .mov [.tmp 31]⟩, ⟨some 33, some (32, true), .pur .mov [.tmp 1]⟩, ⟨some 34, some (32, true), .pur (.bin .leq) [.tmp 33, .const (.int .i64 32767)]⟩, ⟨some 35, none, .pur .pick [.tmp 32, .tmp 34, .const (.bool false)]⟩, ⟨some 4, none, .pur .mov [.tmp 35]⟩]) [4])
  (.ret)))⟩
theorem K_ins_fits : compF Tryd.prog 94 = some S_ins_fits := by kernel_rfl

-- 95
def S_forebayref03_Forms : Fun := ⟨2, [0], [.tmp 0],
  .seq (.reg (straight [⟨some 0, none, .pur .mov [.const (.slice none 0 0)]⟩]) [0])
  (.seq (.reg (straight [⟨some 1, none, .eff (.bsl 9 1) [.const (.string ⟨#[]⟩), .const (.string ⟨#[114, 110]⟩), .const (.string ⟨#[114, 114]⟩), .const (.string ⟨#[114, 114, 114]⟩), .const (.string ⟨#[114, 114, 114]⟩), .const (.string ⟨#[114, 114, 114]⟩), .const (.string ⟨#[114, 114, 114]⟩), .const (.string ⟨#[114, 114, 114]⟩), .const (.string ⟨#[114, 114, 114]⟩), .const (.string ⟨#[114, 114, 114]⟩), .const (.string ⟨#[114, 114, 114]⟩), .const (.string ⟨#[114, 114, 114]⟩), .const (.string ⟨#[114, 114, 114]⟩), .const (.string ⟨#[114, 114]⟩), .const (.string ⟨#[114, 114]⟩), .const (.string ⟨#[114, 114, 114]⟩), .const (.string ⟨#[114, 114, 114]⟩), .const (.string ⟨#[114]⟩), .const (.string ⟨#[116]⟩), .const (.string ⟨#[114, 116]⟩), .const (.string ⟨#[102]⟩), .const (.string ⟨#[]⟩), .const (.string ⟨#[102]⟩), .const (.string ⟨#[114]⟩), .const (.string ⟨#[114]⟩), .const (.string ⟨#[]⟩)]⟩, ⟨some 0, none, .pur .mov [.tmp 1]⟩]) [0])
  (.ret))⟩
theorem K_forebayref03_Forms : compF Tryd.prog 95 = some S_forebayref03_Forms := by kernel_rfl

-- 96
def S_forebayref03_ends : Fun := ⟨11, [2, 3, 0, 4, 5, 7, 9], [.tmp 2, .tmp 3],
  .seq (.reg (straight [⟨some 2, none, .pur .mov [.const (.int .i64 0)]⟩, ⟨some 3, none, .pur .mov [.const (.int .i64 0)]⟩]) [2, 3])
  (.seq (.seq (.reg (straight [⟨some 4, none, .pur .mov [.tmp 0]⟩]) [4])
  (.block 0 (.seq (.reg (straight [⟨some 6, none, .pur (.bin .eql) [.tmp 4, .const (.string ⟨#[114]⟩)]⟩, ⟨some 5, none, .pur .mov [.tmp 6]⟩]) [5])
  (.cond (.tmp 5) (.seq (.reg (straight [⟨some 2, none, .pur .mov [.const (.int .i64 0)]⟩, ⟨some 3, none, .pur .mov [.const (.int .i64 7)]⟩]) [2, 3])
  (.ret)) (.seq (.reg (straight [⟨some 8, none, .pur (.bin .eql) [.tmp 4, .const (.string ⟨#[102]⟩)]⟩, ⟨some 7, none, .pur .mov [.tmp 8]⟩]) [7])
  (.cond (.tmp 7) (.seq (.reg (straight [⟨some 2, none, .pur .mov [.const (.int .i64 0)]⟩, ⟨some 3, none, .pur .mov [.const (.int .i64 15)]⟩]) [2, 3])
  (.ret)) (.seq (.reg (straight [⟨some 10, none, .pur (.bin .eql) [.tmp 4, .const (.string ⟨#[116]⟩)]⟩, ⟨some 9, none, .pur .mov [.tmp 10]⟩]) [9])
  (.cond (.tmp 9) (.seq (.reg (straight [⟨some 2, none, .pur .mov [.const (.int .i64 0)]⟩, ⟨some 3, none, .pur .mov [.const (.int .i64 199)]⟩]) [2, 3])
  (.ret)) (.skip)))))))))
  (.seq (.reg (straight [⟨some 2, none, .pur .mov [.const (.int .i64 (-32768))]⟩, ⟨some 3, none, .pur .mov [.const (.int .i64 32767)]⟩]) [2, 3])
  (.ret)))⟩
theorem K_forebayref03_ends : compF Tryd.prog 96 = some S_forebayref03_ends := by kernel_rfl

-- 97
def S_prog_sizes : Fun := ⟨13, [4, 0, 10, 1], [.tmp 4],
  .seq (.reg (straight [⟨some 4, none, .pur .mov [.const (.int .i64 0)]⟩]) [4])
  (.seq (.seq (.reg (straight [⟨some 5, none, .pur .mov [.tmp 0]⟩, ⟨some 6, none, .pur (.bin .lss) [.tmp 5, .const (.int .i64 0)]⟩, ⟨some 7, none, .pur .mov [.tmp 6]⟩, ⟨some 8, some (7, false), .pur .mov [.tmp 0]⟩, ⟨some 9, some (7, false), .pur (.bin .gtr) [.tmp 8, .const (.int .i64 256)]⟩, ⟨some 10, none, .pur .pick [.tmp 7, .const (.bool true), .tmp 9]⟩]) [10])
  (.cond (.tmp 10) (.seq (.reg (straight [⟨some 4, none, .pur .mov [.const (.int .i64 3)]⟩]) [4])
  (.ret)) (.skip)))
  (.seq (.reg (straight [⟨some 11, none, .pur .mov [.tmp 1]⟩, ⟨some 12, none, .eff (.call 110) [.tmp 11, .const (.int .i64 16)]⟩, ⟨some 4, none, .pur .mov [.tmp 12]⟩]) [4])
  (.ret)))⟩
theorem K_prog_sizes : compF Tryd.prog 97 = some S_prog_sizes := by kernel_rfl

-- 98
def S_prog_function_L1 : SCode :=
  .seq (.reg (straight [⟨some 18, none, .pur (.bin .lss) [.tmp 17, .tmp 16]⟩]) [18])
  (.seq (.cond (.tmp 18) (.skip) (.exit 0))
  (.seq (.block 1 (.seq (.reg (straight [⟨some 19, none, .pur (.ixa 4) [.tmp 15, .tmp 17]⟩, ⟨some 20, none, .ld (some 4) (.tmp 19)⟩, ⟨some 7, none, .eff (.new 50 [.int .i64 0, .int .i64 0, .int .i64 0, .int .i64 0]) []⟩, ⟨none, none, .eff (.st 4) [.tmp 7, .tmp 20]⟩]) [7])
  (.seq (.seq (.reg (straight [⟨some 21, none, .ld (some 4) (.tmp 7)⟩, ⟨some 22, none, .eff (.call 70) [.tmp 21]⟩, ⟨some 8, none, .pur .mov [.tmp 22]⟩]) [8])
  (.seq (.reg (straight [⟨some 23, none, .pur .mov [.tmp 8]⟩, ⟨some 24, none, .pur (.bin .neq) [.tmp 23, .const (.int .i64 0)]⟩]) [24])
  (.cond (.tmp 24) (.seq (.reg (straight [⟨some 25, none, .pur .mov [.tmp 8]⟩, ⟨some 4, none, .pur .mov [.tmp 25]⟩]) [4])
  (.ret)) (.skip))))
  (.seq (.reg (straight [⟨some 26, none, .ld (some 4) (.tmp 7)⟩, ⟨some 27, none, .pur .mov [.tmp 0]⟩, ⟨some 28, none, .pur (.len false) [.tmp 27]⟩, ⟨some 29, none, .pur .mov [.tmp 1]⟩, ⟨some 30, none, .eff (.call 111) [.tmp 26, .tmp 28, .tmp 29]⟩, ⟨some 31, none, .pur .not [.tmp 30]⟩]) [31])
  (.cond (.tmp 31) (.seq (.reg (straight [⟨some 4, none, .pur .mov [.const (.int .i64 11)]⟩]) [4])
  (.ret)) (.skip))))))
  (.reg (straight [⟨some 32, none, .pur (.bin .add) [.tmp 17, .const (.int .i64 1)]⟩, ⟨some 17, none, .pur .mov [.tmp 32]⟩]) [17])))
def S_prog_function : Fun := ⟨44, [4, 0, 5, 13, 17, 16, 18, 15, 7, 8, 24, 1, 31, 39, 40], [.tmp 4],
  .seq (.reg (straight [⟨some 4, none, .pur .mov [.const (.int .i64 0)]⟩]) [4])
  (.seq (.seq (.reg (straight [⟨some 9, none, .pur .mov [.tmp 0]⟩, ⟨some 10, none, .pur (.len false) [.tmp 9]⟩, ⟨some 11, none, .eff (.call 110) [.tmp 10, .const (.int .i64 200)]⟩, ⟨some 5, none, .pur .mov [.tmp 11]⟩]) [5])
  (.seq (.reg (straight [⟨some 12, none, .pur .mov [.tmp 5]⟩, ⟨some 13, none, .pur (.bin .neq) [.tmp 12, .const (.int .i64 0)]⟩]) [13])
  (.cond (.tmp 13) (.seq (.reg (straight [⟨some 14, none, .pur .mov [.tmp 5]⟩, ⟨some 4, none, .pur .mov [.tmp 14]⟩]) [4])
  (.ret)) (.skip))))
  (.seq (.seq (.reg (straight [⟨some 15, none, .pur .mov [.tmp 0]⟩, ⟨some 16, none, .pur (.len false) [.tmp 15]⟩, ⟨some 17, none, .pur .mov [.const (.int .i64 0)]⟩]) [15, 16, 17])
  (.block 0 (.loop S_prog_function_L1)))
  (.seq (.seq (.reg (straight [⟨some 33, none, .pur .mov [.tmp 0]⟩, ⟨some 34, none, .pur .mov [.tmp 0]⟩, ⟨some 35, none, .pur (.len false) [.tmp 34]⟩, ⟨some 36, none, .pur (.bin .sub) [.tmp 35, .const (.int .i64 1)]⟩, ⟨some 37, none, .pur (.ixa 4) [.tmp 33, .tmp 36]⟩, ⟨some 38, none, .pur (.fla 0) [.tmp 37]⟩, ⟨some 39, none, .ld none (.tmp 38)⟩]) [39])
  (.block 2 (.seq (.seq (.reg (straight [⟨some 41, none, .pur (.bin .eql) [.tmp 39, .const (.int .i64 0)]⟩, ⟨some 40, none, .pur .mov [.tmp 41]⟩]) [40])
  (.cond (.tmp 40) (.skip) (.seq (.reg (straight [⟨some 42, none, .pur (.bin .eql) [.tmp 39, .const (.int .i64 18)]⟩, ⟨some 40, none, .pur .mov [.tmp 42]⟩]) [40])
  (.cond (.tmp 40) (.skip) (.reg (straight [⟨some 43, none, .pur (.bin .eql) [.tmp 39, .const (.int .i64 25)]⟩, ⟨some 40, none, .pur .mov [.tmp 43]⟩]) [40])))))
  (.cond (.tmp 40) (.seq (.reg (straight [⟨some 4, none, .pur .mov [.const (.int .i64 0)]⟩]) [4])
  (.ret)) (.skip)))))
  (.seq (.reg (straight [⟨some 4, none, .pur .mov [.const (.int .i64 12)]⟩]) [4])
  (.ret)))))⟩
theorem K_prog_function : compF Tryd.prog 98 = some S_prog_function := by kernel_rfl

-- 99
def S_forebayref04_many : Fun := ⟨10, [4, 0, 6, 1, 9], [.tmp 4],
  .seq (.reg (straight [⟨some 4, none, .pur .mov [.const (.int .i64 0)]⟩]) [4])
  (.seq (.seq (.reg (straight [⟨some 5, none, .pur .mov [.tmp 0]⟩, ⟨some 6, none, .pur (.bin .eql) [.tmp 5, .const (.int .i64 0)]⟩]) [6])
  (.cond (.tmp 6) (.seq (.reg (straight [⟨some 4, none, .pur .mov [.const (.int .i64 7)]⟩]) [4])
  (.ret)) (.skip)))
  (.seq (.seq (.reg (straight [⟨some 7, none, .pur .mov [.tmp 0]⟩, ⟨some 8, none, .pur .mov [.tmp 1]⟩, ⟨some 9, none, .pur (.bin .gtr) [.tmp 7, .tmp 8]⟩]) [9])
  (.cond (.tmp 9) (.seq (.reg (straight [⟨some 4, none, .pur .mov [.const (.int .i64 9)]⟩]) [4])
  (.ret)) (.skip)))
  (.seq (.reg (straight [⟨some 4, none, .pur .mov [.const (.int .i64 0)]⟩]) [4])
  (.ret))))⟩
theorem K_forebayref04_many : compF Tryd.prog 99 = some S_forebayref04_many := by kernel_rfl

-- 110
def S_prog_many : Fun := ⟨12, [4, 0, 5, 1, 8], [.tmp 4],
  .seq (.reg (straight [⟨some 4, none, .pur .mov [.const (.int .i64 0)]⟩]) [4])
  (.seq (.block 0 (.seq (.reg (straight [⟨some 6, none, .pur .mov [.tmp 0]⟩, ⟨some 7, none, .pur (.bin .eql) [.tmp 6, .const (.int .i64 0)]⟩, ⟨some 5, none, .pur .mov [.tmp 7]⟩]) [5])
  (.cond (.tmp 5) (.seq (.reg (straight [⟨some 4, none, .pur .mov [.const (.int .i64 7)]⟩]) [4])
  (.ret)) (.seq (.reg (straight [⟨some 9, none, .pur .mov [.tmp 0]⟩, ⟨some 10, none, .pur .mov [.tmp 1]⟩, ⟨some 11, none, .pur (.bin .gtr) [.tmp 9, .tmp 10]⟩, ⟨some 8, none, .pur .mov [.tmp 11]⟩]) [8])
  (.cond (.tmp 8) (.seq (.reg (straight [⟨some 4, none, .pur .mov [.const (.int .i64 9)]⟩]) [4])
  (.ret)) (.skip))))))
  (.seq (.reg (straight [⟨some 4, none, .pur .mov [.const (.int .i64 0)]⟩]) [4])
  (.ret)))⟩
theorem K_prog_many : compF Tryd.prog 110 = some S_prog_many := by kernel_rfl

-- 111
def S_prog_leads : Fun := ⟨28, [6, 0, 3, 8, 9, 1, 15, 21, 2], [.tmp 6],
  .seq (.reg (straight [⟨some 3, none, .eff (.box 50) [.tmp 0]⟩, ⟨some 6, none, .pur .mov [.const (.bool false)]⟩]) [3, 6])
  (.seq (.seq (.reg (straight [⟨some 7, none, .pur (.fla 0) [.tmp 3]⟩, ⟨some 8, none, .ld none (.tmp 7)⟩]) [8])
  (.block 0 (.seq (.reg (straight [⟨some 10, none, .pur (.bin .eql) [.tmp 8, .const (.int .i64 18)]⟩, ⟨some 9, none, .pur .mov [.tmp 10]⟩]) [9])
  (.cond (.tmp 9) (.seq (.reg (straight [⟨some 11, none, .pur (.fla 1) [.tmp 3]⟩, ⟨some 12, none, .ld none (.tmp 11)⟩, ⟨some 13, none, .pur .mov [.tmp 1]⟩, ⟨some 14, none, .pur (.bin .lss) [.tmp 12, .tmp 13]⟩, ⟨some 6, none, .pur .mov [.tmp 14]⟩]) [6])
  (.ret)) (.seq (.reg (straight [⟨some 16, none, .pur (.bin .eql) [.tmp 8, .const (.int .i64 19)]⟩, ⟨some 15, none, .pur .mov [.tmp 16]⟩]) [15])
  (.cond (.tmp 15) (.seq (.reg (straight [⟨some 17, none, .pur (.fla 2) [.tmp 3]⟩, ⟨some 18, none, .ld none (.tmp 17)⟩, ⟨some 19, none, .pur .mov [.tmp 1]⟩, ⟨some 20, none, .pur (.bin .lss) [.tmp 18, .tmp 19]⟩, ⟨some 6, none, .pur .mov [.tmp 20]⟩]) [6])
  (.ret)) (.seq (.seq (.reg (straight [⟨some 22, none, .pur (.bin .eql) [.tmp 8, .const (.int .i64 20)]⟩, ⟨some 21, none, .pur .mov [.tmp 22]⟩]) [21])
  (.cond (.tmp 21) (.skip) (.reg (straight [⟨some 23, none, .pur (.bin .eql) [.tmp 8, .const (.int .i64 22)]⟩, ⟨some 21, none, .pur .mov [.tmp 23]⟩]) [21])))
  (.cond (.tmp 21) (.seq (.reg (straight [⟨some 24, none, .pur (.fla 1) [.tmp 3]⟩, ⟨some 25, none, .ld none (.tmp 24)⟩, ⟨some 26, none, .pur .mov [.tmp 2]⟩, ⟨some 27, none, .pur (.bin .lss) [.tmp 25, .tmp 26]⟩, ⟨some 6, none, .pur .mov [.tmp 27]⟩]) [6])
  (.ret)) (.skip)))))))))
  (.seq (.reg (straight [⟨some 6, none, .pur .mov [.const (.bool true)]⟩]) [6])
  (.ret)))⟩
theorem K_prog_leads : compF Tryd.prog 111 = some S_prog_leads := by kernel_rfl

end Go.Proofs.YtjdpejggafefjaaDoor
