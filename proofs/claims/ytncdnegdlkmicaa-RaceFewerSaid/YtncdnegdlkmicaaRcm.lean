/- RaceFewer: the walk. -/
import Derived.Test.YtncdnegdlkmicaaRcl
namespace Go.Proofs.Ytncdnegdlkmicaa.Rc
set_option linter.unusedVariables false
set_option linter.unusedSimpArgs false
open Go Go.Kx Go.Proofs
open Go.Proofs.Ytncdnegdlkmicaa.Rx hiding at_lt snoc_ind take_succ_at drop_at mixed
open Go.Proofs.Ytncdnegdlkmicaa.St (Ac aAc aAc_len aAc_one aAc_pure aAc_res Nd aNd aNd_pure aNd_res)

def S2_forebaylaw32_RaceFewer_L1 : SCode :=
  .seq (.seq (.reg (straight [⟨some 51, none, .pur .mov [.tmp 11]⟩, ⟨some 52, none, .pur .mov [.tmp 2]⟩, ⟨some 53, none, .pur (.len false) [.tmp 52]⟩, ⟨some 54, none, .pur (.bin .lss) [.tmp 51, .tmp 53]⟩]) [54])
  (.cond (.tmp 54) (.skip) (.exit 0)))
  (.seq (.block 1 (.seq (.reg (straight [⟨some 57, none, .pur .mov [.tmp 2]⟩, ⟨some 58, none, .pur .mov [.tmp 11]⟩, ⟨some 59, none, .pur (.ixa 2) [.tmp 57, .tmp 58]⟩, ⟨some 60, none, .pur (.ixaA 2 1) [.tmp 59, .const (.int .i64 0)]⟩, ⟨some 61, none, .ld none (.tmp 60)⟩, ⟨some 62, none, .pur .mov [.tmp 2]⟩, ⟨some 63, none, .pur .mov [.tmp 11]⟩, ⟨some 64, none, .pur (.ixa 2) [.tmp 62, .tmp 63]⟩, ⟨some 65, none, .pur (.ixaA 2 1) [.tmp 64, .const (.int .i64 1)]⟩, ⟨some 66, none, .ld none (.tmp 65)⟩, ⟨some 12, none, .pur .mov [.tmp 61]⟩, ⟨some 13, none, .pur .mov [.tmp 66]⟩]) [12, 13])
  (.seq (.reg (straight [⟨some 67, none, .pur .mov [.tmp 12]⟩, ⟨some 68, none, .pur (.bin .geq) [.tmp 67, .const (.int .i64 0)]⟩, ⟨some 69, none, .pur .mov [.tmp 68]⟩, ⟨some 70, some (69, true), .pur .mov [.tmp 12]⟩, ⟨some 71, some (69, true), .pur (.fla 0) [.tmp 10]⟩, ⟨some 72, some (69, true), .ld none (.tmp 71)⟩, ⟨some 73, some (69, true), .pur (.len false) [.tmp 72]⟩, ⟨some 74, some (69, true), .pur (.bin .lss) [.tmp 70, .tmp 73]⟩, ⟨some 75, none, .pur .pick [.tmp 69, .tmp 74, .const (.bool false)]⟩, ⟨some 76, none, .pur .mov [.tmp 75]⟩, ⟨some 77, some (76, true), .pur .mov [.tmp 13]⟩, ⟨some 78, some (76, true), .pur (.bin .geq) [.tmp 77, .const (.int .i64 0)]⟩, ⟨some 79, none, .pur .pick [.tmp 76, .tmp 78, .const (.bool false)]⟩, ⟨some 80, none, .pur .mov [.tmp 79]⟩, ⟨some 81, some (80, true), .pur .mov [.tmp 13]⟩, ⟨some 82, some (80, true), .pur .mov [.tmp 12]⟩, ⟨some 83, some (80, true), .pur (.bin .lss) [.tmp 81, .tmp 82]⟩, ⟨some 84, none, .pur .pick [.tmp 80, .tmp 83, .const (.bool false)]⟩]) [84])
  (.cond (.tmp 84) (.reg (.run ⟨some 85, none, .pur (.fla 0) [.tmp 10]⟩ (.run ⟨some 86, none, .ld none (.tmp 85)⟩ (.run ⟨some 87, none, .pur .mov [.tmp 12]⟩ (.run ⟨some 88, none, .pur (.fla 0) [.tmp 10]⟩ (.run ⟨some 89, none, .ld none (.tmp 88)⟩ (.run ⟨some 90, none, .pur .mov [.tmp 12]⟩ (.run ⟨some 91, none, .pur (.ixa 1) [.tmp 89, .tmp 90]⟩ (.run ⟨some 92, none, .ld none (.tmp 91)⟩ (.run ⟨some 93, none, .pur .mov [.tmp 13]⟩ (.eff ⟨some 94, none, .eff (.bsl 3 1) [.tmp 93]⟩ [] (.eff ⟨some 95, none, .eff (.app 3 1 8 [.int .i64 0]) [.tmp 92, .tmp 94]⟩ [⟨some 86, none, .ld none (.tmp 85)⟩] (.run ⟨some 96, none, .pur (.ixa 1) [.tmp 86, .tmp 87]⟩ (.eff ⟨none, none, .eff (.st 1) [.tmp 96, .tmp 95]⟩ [] .done))))))))))))) []) (.skip)))))
  (.reg (straight [⟨some 55, none, .pur .mov [.tmp 11]⟩, ⟨some 56, none, .pur (.bin .add) [.tmp 55, .const (.int .i64 1)]⟩, ⟨some 11, none, .pur .mov [.tmp 56]⟩]) [11]))
def S2_forebaylaw32_RaceFewer : Fun := ⟨209, [6, 24, 0, 1, 2, 37, 9, 47, 11, 54, 12, 10, 13, 84, 16, 15, 8, 14, 7, 124, 126, 17, 18, 19, 21, 22], [.tmp 6],
  .seq (.reg (straight [⟨some 6, none, .pur .mov [.const (.bool false)]⟩]) [6])
  (.seq (.seq (.reg (straight [⟨some 23, none, .eff (.call 22) []⟩, ⟨some 24, none, .pur .not [.tmp 23]⟩]) [24])
  (.cond (.tmp 24) (.seq (.reg (straight [⟨some 6, none, .pur .mov [.const (.bool false)]⟩]) [6])
  (.ret)) (.skip)))
  (.seq (.seq (.reg (straight [⟨some 25, none, .pur .mov [.tmp 0]⟩, ⟨some 26, none, .pur .mov [.tmp 1]⟩, ⟨some 27, none, .eff (.call 23) [.tmp 25, .tmp 26]⟩, ⟨some 28, none, .pur .mov [.tmp 27]⟩, ⟨some 29, some (28, false), .pur .mov [.tmp 2]⟩, ⟨some 30, some (28, false), .pur (.len false) [.tmp 29]⟩, ⟨some 31, some (28, false), .pur (.bin .gtr) [.tmp 30, .const (.int .i64 100)]⟩, ⟨some 32, none, .pur .pick [.tmp 28, .const (.bool true), .tmp 31]⟩, ⟨some 33, none, .pur .mov [.tmp 32]⟩, ⟨some 34, some (33, false), .pur .mov [.tmp 0]⟩, ⟨some 35, some (33, false), .eff (.call 27) [.tmp 34]⟩, ⟨some 36, some (33, false), .pur (.bin .neq) [.tmp 35, .const (.int .i64 0)]⟩, ⟨some 37, none, .pur .pick [.tmp 33, .const (.bool true), .tmp 36]⟩]) [37])
  (.cond (.tmp 37) (.seq (.reg (straight [⟨some 6, none, .pur .mov [.const (.bool true)]⟩]) [6])
  (.ret)) (.skip)))
  (.seq (.reg (straight [⟨some 39, none, .pur .mov [.tmp 0]⟩, ⟨some 40, none, .pur .mov [.tmp 1]⟩, ⟨some 41, none, .eff (.call 25) [.tmp 39, .tmp 40]⟩, ⟨some 42, none, .eff (.call 24) [.tmp 41]⟩, ⟨some 38, none, .pur .mov [.tmp 42]⟩, ⟨some 43, none, .pur (.ext 0) [.tmp 38]⟩, ⟨some 44, none, .pur (.ext 1) [.tmp 38]⟩, ⟨some 45, none, .pur (.ext 2) [.tmp 38]⟩, ⟨some 7, none, .eff (.new 64 [.int .i64 0, .int .i64 0, .int .i64 0]) []⟩, ⟨none, none, .eff (.st 3) [.tmp 7, .tmp 43]⟩, ⟨some 8, none, .pur .mov [.tmp 44]⟩, ⟨some 9, none, .pur .mov [.tmp 45]⟩]) [7, 8, 9])
  (.seq (.seq (.reg (straight [⟨some 46, none, .pur .mov [.tmp 9]⟩, ⟨some 47, none, .pur (.bin .neq) [.tmp 46, .const (.int .i64 0)]⟩]) [47])
  (.cond (.tmp 47) (.seq (.reg (straight [⟨some 6, none, .pur .mov [.const (.bool true)]⟩]) [6])
  (.ret)) (.skip)))
  (.seq (.reg (straight [⟨some 48, none, .pur .mov [.tmp 0]⟩, ⟨some 49, none, .pur .mov [.tmp 1]⟩, ⟨some 50, none, .eff (.call 25) [.tmp 48, .tmp 49]⟩, ⟨some 10, none, .eff (.new 51 [.slice none 0 0, .slice none 0 0, .slice none 0 0]) []⟩, ⟨none, none, .eff (.st 3) [.tmp 10, .tmp 50]⟩]) [10])
  (.seq (.seq (.reg (straight [⟨some 11, none, .pur .mov [.const (.int .i64 0)]⟩]) [11])
  (.block 0 (.loop S2_forebaylaw32_RaceFewer_L1)))
  (.seq (.reg (straight [⟨some 98, none, .ld (some 3) (.tmp 10)⟩, ⟨some 99, none, .eff (.call 24) [.tmp 98]⟩, ⟨some 97, none, .pur .mov [.tmp 99]⟩, ⟨some 100, none, .pur (.ext 0) [.tmp 97]⟩, ⟨some 101, none, .pur (.ext 1) [.tmp 97]⟩, ⟨some 102, none, .pur (.ext 2) [.tmp 97]⟩, ⟨some 14, none, .eff (.new 64 [.int .i64 0, .int .i64 0, .int .i64 0]) []⟩, ⟨none, none, .eff (.st 3) [.tmp 14, .tmp 100]⟩, ⟨some 15, none, .pur .mov [.tmp 101]⟩, ⟨some 16, none, .pur .mov [.tmp 102]⟩]) [14, 15, 16])
  (.seq (.seq (.reg (straight [⟨some 103, none, .pur .mov [.tmp 16]⟩, ⟨some 104, none, .pur (.bin .neq) [.tmp 103, .const (.int .i64 0)]⟩, ⟨some 105, none, .pur .mov [.tmp 104]⟩, ⟨some 106, some (105, false), .pur .mov [.tmp 15]⟩, ⟨some 107, some (105, false), .pur .mov [.tmp 106]⟩, ⟨some 108, some (107, true), .pur .mov [.tmp 8]⟩, ⟨some 109, some (107, true), .pur .not [.tmp 108]⟩, ⟨some 110, some (105, false), .pur .pick [.tmp 107, .tmp 109, .const (.bool false)]⟩, ⟨some 111, none, .pur .pick [.tmp 105, .const (.bool true), .tmp 110]⟩, ⟨some 112, none, .pur .mov [.tmp 111]⟩, ⟨some 113, some (112, false), .pur .mov [.tmp 15]⟩, ⟨some 114, some (112, false), .pur .mov [.tmp 113]⟩, ⟨some 115, some (114, true), .pur .mov [.tmp 8]⟩, ⟨some 116, some (112, false), .pur .pick [.tmp 114, .tmp 115, .const (.bool false)]⟩, ⟨some 117, some (112, false), .pur .mov [.tmp 116]⟩, ⟨some 118, some (117, true), .pur (.fla 1) [.tmp 14]⟩, ⟨some 119, some (117, true), .ld none (.tmp 118)⟩, ⟨some 120, some (117, true), .pur (.fla 1) [.tmp 7]⟩, ⟨some 121, some (117, true), .ld none (.tmp 120)⟩, ⟨some 122, some (117, true), .pur (.bin .lss) [.tmp 119, .tmp 121]⟩, ⟨some 123, some (112, false), .pur .pick [.tmp 117, .tmp 122, .const (.bool false)]⟩, ⟨some 124, none, .pur .pick [.tmp 112, .const (.bool true), .tmp 123]⟩]) [124])
  (.cond (.tmp 124) (.seq (.reg (straight [⟨some 6, none, .pur .mov [.const (.bool false)]⟩]) [6])
  (.ret)) (.skip)))
  (.seq (.seq (.reg (straight [⟨some 125, none, .pur .mov [.tmp 8]⟩, ⟨some 126, none, .pur .not [.tmp 125]⟩]) [126])
  (.cond (.tmp 126) (.seq (.reg (straight [⟨some 127, none, .ld (some 3) (.tmp 7)⟩, ⟨some 128, none, .pur (.bld [.int .i64 0, .int .i64 0, .int .i64 0] []) []⟩, ⟨some 129, none, .pur (.eqs false [.int .i64, .int .i64, .int .i64]) [.tmp 127, .tmp 128]⟩, ⟨some 6, none, .pur .mov [.tmp 129]⟩]) [6])
  (.ret)) (.skip)))
  (.seq (.reg (straight [⟨some 131, none, .pur .mov [.tmp 0]⟩, ⟨some 132, none, .pur .mov [.tmp 1]⟩, ⟨some 133, none, .pur (.fla 1) [.tmp 7]⟩, ⟨some 134, none, .ld none (.tmp 133)⟩, ⟨some 135, none, .pur (.bin .add) [.tmp 134, .const (.int .i64 1)]⟩, ⟨some 136, none, .pur (.slc 3 false true) [.tmp 132, .tmp 135]⟩, ⟨some 137, none, .eff (.call 25) [.tmp 131, .tmp 136]⟩, ⟨some 138, none, .eff (.call 24) [.tmp 137]⟩, ⟨some 130, none, .pur .mov [.tmp 138]⟩, ⟨some 139, none, .pur (.ext 0) [.tmp 130]⟩, ⟨some 140, none, .pur (.ext 1) [.tmp 130]⟩, ⟨some 141, none, .pur (.ext 2) [.tmp 130]⟩, ⟨some 17, none, .eff (.new 64 [.int .i64 0, .int .i64 0, .int .i64 0]) []⟩, ⟨none, none, .eff (.st 3) [.tmp 17, .tmp 139]⟩, ⟨some 18, none, .pur .mov [.tmp 140]⟩, ⟨some 19, none, .pur .mov [.tmp 141]⟩]) [17, 18, 19])
  (.seq (.reg (straight [⟨some 143, none, .pur .mov [.tmp 0]⟩, ⟨some 144, none, .pur .mov [.tmp 1]⟩, ⟨some 145, none, .pur (.fla 1) [.tmp 7]⟩, ⟨some 146, none, .ld none (.tmp 145)⟩, ⟨some 147, none, .pur (.slc 3 false true) [.tmp 144, .tmp 146]⟩, ⟨some 148, none, .eff (.call 25) [.tmp 143, .tmp 147]⟩, ⟨some 149, none, .eff (.call 24) [.tmp 148]⟩, ⟨some 142, none, .pur .mov [.tmp 149]⟩, ⟨some 150, none, .pur (.ext 0) [.tmp 142]⟩, ⟨some 151, none, .pur (.ext 1) [.tmp 142]⟩, ⟨some 152, none, .pur (.ext 2) [.tmp 142]⟩, ⟨some 20, none, .eff (.new 64 [.int .i64 0, .int .i64 0, .int .i64 0]) []⟩, ⟨none, none, .eff (.st 3) [.tmp 20, .tmp 150]⟩, ⟨some 21, none, .pur .mov [.tmp 151]⟩, ⟨some 22, none, .pur .mov [.tmp 152]⟩]) [21, 22])
  (.seq (.reg (straight [⟨some 153, none, .ld (some 3) (.tmp 17)⟩, ⟨some 154, none, .ld (some 3) (.tmp 7)⟩, ⟨some 155, none, .pur (.eqs false [.int .i64, .int .i64, .int .i64]) [.tmp 153, .tmp 154]⟩, ⟨some 156, none, .pur .mov [.tmp 155]⟩, ⟨some 157, some (156, true), .pur .mov [.tmp 18]⟩, ⟨some 158, none, .pur .pick [.tmp 156, .tmp 157, .const (.bool false)]⟩, ⟨some 159, none, .pur .mov [.tmp 158]⟩, ⟨some 160, some (159, true), .pur .mov [.tmp 19]⟩, ⟨some 161, some (159, true), .pur (.bin .eql) [.tmp 160, .const (.int .i64 0)]⟩, ⟨some 162, none, .pur .pick [.tmp 159, .tmp 161, .const (.bool false)]⟩, ⟨some 163, none, .pur .mov [.tmp 162]⟩, ⟨some 164, some (163, true), .pur .mov [.tmp 21]⟩, ⟨some 165, some (163, true), .pur .not [.tmp 164]⟩, ⟨some 166, none, .pur .pick [.tmp 163, .tmp 165, .const (.bool false)]⟩, ⟨some 167, none, .pur .mov [.tmp 166]⟩, ⟨some 168, some (167, true), .pur .mov [.tmp 22]⟩, ⟨some 169, some (167, true), .pur (.bin .eql) [.tmp 168, .const (.int .i64 0)]⟩, ⟨some 170, none, .pur .pick [.tmp 167, .tmp 169, .const (.bool false)]⟩, ⟨some 171, none, .pur .mov [.tmp 170]⟩, ⟨some 172, some (171, true), .pur .mov [.tmp 1]⟩, ⟨some 173, some (171, true), .pur (.fla 0) [.tmp 7]⟩, ⟨some 174, some (171, true), .ld none (.tmp 173)⟩, ⟨some 175, some (171, true), .pur (.ixa 3) [.tmp 172, .tmp 174]⟩, ⟨some 176, some (171, true), .pur (.fla 1) [.tmp 175]⟩, ⟨some 177, some (171, true), .ld none (.tmp 176)⟩, ⟨some 178, some (171, true), .pur (.fla 2) [.tmp 7]⟩, ⟨some 179, some (171, true), .ld none (.tmp 178)⟩, ⟨some 180, some (171, true), .pur (.bin .eql) [.tmp 177, .tmp 179]⟩, ⟨some 181, none, .pur .pick [.tmp 171, .tmp 180, .const (.bool false)]⟩, ⟨some 182, none, .pur .mov [.tmp 181]⟩, ⟨some 183, some (182, true), .pur .mov [.tmp 1]⟩, ⟨some 184, some (182, true), .pur (.fla 1) [.tmp 7]⟩, ⟨some 185, some (182, true), .ld none (.tmp 184)⟩, ⟨some 186, some (182, true), .pur (.ixa 3) [.tmp 183, .tmp 185]⟩, ⟨some 187, some (182, true), .pur (.fla 1) [.tmp 186]⟩, ⟨some 188, some (182, true), .ld none (.tmp 187)⟩, ⟨some 189, some (182, true), .pur (.fla 2) [.tmp 7]⟩, ⟨some 190, some (182, true), .ld none (.tmp 189)⟩, ⟨some 191, some (182, true), .pur (.bin .eql) [.tmp 188, .tmp 190]⟩, ⟨some 192, none, .pur .pick [.tmp 182, .tmp 191, .const (.bool false)]⟩, ⟨some 193, none, .pur .mov [.tmp 192]⟩, ⟨some 194, some (193, true), .pur .mov [.tmp 1]⟩, ⟨some 195, some (193, true), .pur (.fla 0) [.tmp 7]⟩, ⟨some 196, some (193, true), .ld none (.tmp 195)⟩, ⟨some 197, some (193, true), .pur (.ixa 3) [.tmp 194, .tmp 196]⟩, ⟨some 198, some (193, true), .pur (.fla 2) [.tmp 197]⟩, ⟨some 199, some (193, true), .ld none (.tmp 198)⟩, ⟨some 200, some (193, true), .pur .mov [.tmp 199]⟩, ⟨some 201, some (200, false), .pur .mov [.tmp 1]⟩, ⟨some 202, some (200, false), .pur (.fla 1) [.tmp 7]⟩, ⟨some 203, some (200, false), .ld none (.tmp 202)⟩, ⟨some 204, some (200, false), .pur (.ixa 3) [.tmp 201, .tmp 203]⟩, ⟨some 205, some (200, false), .pur (.fla 2) [.tmp 204]⟩, ⟨some 206, some (200, false), .ld none (.tmp 205)⟩, ⟨some 207, some (193, true), .pur .pick [.tmp 200, .const (.bool true), .tmp 206]⟩, ⟨some 208, none, .pur .pick [.tmp 193, .tmp 207, .const (.bool false)]⟩, ⟨some 6, none, .pur .mov [.tmp 208]⟩]) [6])
  (.ret)))))))))))))⟩
theorem K2_forebaylaw32_RaceFewer : (compF Try.prog 8).map Fun.slim = some S2_forebaylaw32_RaceFewer := by kernel_rfl
theorem eqs3 (n : Bool) (a b c a' b' c' : Int) : PF.av (.eqs n [.int .i64, .int .i64, .int .i64]) [.agg [.v (.int .i64 a), .v (.int .i64 b), .v (.int .i64 c)], .agg [.v (.int .i64 a'), .v (.int .i64 b'), .v (.int .i64 c')]] = some (.v (.bool (n != (decide (a = a') && (decide (b = b') && decide (c = c')))))) := by
  show ((PF.val (.eqs n [.int .i64, .int .i64, .int .i64]) [.agg [.int .i64 a, .int .i64 b, .int .i64 c].toArray, .agg [.int .i64 a', .int .i64 b', .int .i64 c'].toArray]).map AV.v) = _
  simp only [PF.val, eqCs, eqC]
  have k (u v : Int) : (u == v) = decide (u = v) := by rw [Bool.eq_iff_iff]; simp
  simp only [k]
  by_cases h1 : a = a' <;> by_cases h2 : b = b' <;> by_cases h3 : c = c' <;> cases n <;> simp [h1, h2, h3]
def aP2 (p : Int × Int) : List AV := [.v (.int .i64 p.1), .v (.int .i64 p.2)]
theorem aP2_len (p : Int × Int) : (aP2 p).length = 2 := rfl
theorem aP2_pure (p : Int × Int) : AV.pureL (aP2 p) = true := by simp [aP2, AV.pureL, AV.pure]
def aMo (l : List (Int × Int)) : AV := aSlN aP2 l
theorem aMo_pure (l : List (Int × Int)) : (aMo l).pure = true := aSlN_pure aP2_pure l
theorem find_no {xss : List (List Int)} {l : List Ac} {r : Fd} (hr : FindR xss l r) (h : r.ok = false) : r.i = 0 ∧ r.k = 0 ∧ r.w = 0 := by
  rcases hr with ⟨_, rfl⟩ | ⟨_, _, rfl⟩ | ⟨_, _, q, hq, rfl⟩
  · exact ⟨rfl, rfl, rfl⟩
  · exact ⟨rfl, rfl, rfl⟩
  · cases q with
    | none => exact ⟨rfl, rfl, rfl⟩
    | some p => cases h
theorem shift_acs (k : Nat) (l : List Ac) : AV.shift k (aAcs l) = aAcs l := by
  unfold aAcs aSlN
  simp only [AV.shift]
  rw [shiftL_map]
  have : (l.flatMap aAc).map (AV.shift k) = l.flatMap aAc := by
    induction l with
    | nil => rfl
    | cons a l ih => rw [List.flatMap_cons, List.map_append, ih]; rfl
  rw [this]
  rfl
/-- The dag that is added to. -/
def DS (l : List Ac) (yss : List (List Int)) (D nd : AV) (i : Nat) (σ : Kx.St) : Prop :=
  σ[i]? = some (.obj 0 [D, nd, aAcs l]) ∧ i ≠ 0 ∧ (∀ σ : Kx.St, AV.res σ nd = .sl 0 [] .none) ∧
    ((yss = [] ∧ D = .sl 0 [] .none) ∨ (0 < yss.length ∧ ∃ j w E, D = .ms j w 0 yss.length 1 ∧ E.map En.x = yss ∧ PH σ j w E ∧ j ≠ i ∧ j ≠ 0))
theorem DS.len {l : List Ac} {yss : List (List Int)} {D nd : AV} {i : Nat} {σ : Kx.St} (h : DS l yss D nd i σ) : PF.av (.len false) [D] = some (.v (.int .i64 yss.length)) := by
  rcases h.2.2.2 with ⟨rfl, rfl⟩ | ⟨_, j, w, E, rfl, _⟩ <;> rfl
theorem DS.weak {l : List Ac} {yss : List (List Int)} {D nd : AV} {i : Nat} {σ : Kx.St} (h : DS l yss D nd i σ) {c : Res} (h0 : σ[0]? = some c) : ∃ is, weak (Go.Kx.freeze is σ) [true] [.agg [D, nd, aAcs l]] = [.agg (aDg yss (.sl 0 [] .none) l)] ∧ (Go.Kx.freeze is σ)[0]? = some c := by
  obtain ⟨_, _, hnd, hc⟩ := h
  rcases hc with ⟨rfl, rfl⟩ | ⟨_, j, w, E, rfl, hE, hP, hji, hj0⟩
  · refine ⟨[], ?_, h0⟩
    show [AV.agg [AV.res _ (.sl 0 [] .none), AV.res _ nd, AV.res _ (aAcs l)]] = _
    rw [hnd, show AV.res (Go.Kx.freeze [] σ) (aAcs l) = aAcs l from aSlN_res (aAc_res _) l .none]
    rfl
  · refine ⟨[j], ?_, by rw [freeze_gen hP.obj]; exact get_set_ne hj0 h0⟩
    have hfz : (Go.Kx.freeze [j] σ)[j]? = some (.frz w (AV.resL σ (E.map cellE))) := by rw [freeze_gen hP.obj]; exact get_set_eq hP.obj
    rw [cells_res, hE] at hfz
    show [AV.agg [AV.res _ (.ms j w 0 yss.length 1), AV.res _ nd, AV.res _ (aAcs l)]] = _
    rw [hnd, show AV.res (Go.Kx.freeze [j] σ) (aAcs l) = aAcs l from aSlN_res (aAc_res _) l .none, res_ms hfz (by simp)]
    rfl
set_option maxHeartbeats 16000000 in
theorem RaceFewer_a (xss : List (List Int)) (l : List Ac) (mo : List (Int × Int)) (hs : xss.length ≤ 9223372036854775807) (hl : l.length ≤ 9223372036854775807) (hm : mo.length ≤ 9223372036854775807) :
    FnP Try.prog 8 [aInts2 xss, aAcs l, aMo mo] fun a => a = aBool true := by
  refine ⟨by simp [AV.pureL, aInts2_pure, aAcs_pure, aMo_pure], FnG.fz ?_⟩
  refine fnG_in2 K2_forebaylaw32_RaceFewer mixed rfl ?_
  simp only [S2_forebaylaw32_RaceFewer]
  have hX : aInts2 xss = .sl xss.length (xss.map aInts) .none := rfl
  have hA : aAcs l = .sl l.length (l.flatMap aAc) .none := rfl
  have hMo : aMo mo = .sl mo.length (mo.flatMap aP2) .none := rfl
  refine wpa_seqx (fun ε σ => (ε 0 = aInts2 xss ∧ ε 1 = aAcs l ∧ ε 2 = aMo mo) ∧ σ = []) ?_ ?_
  · intro N X R hN
    simp (maxSteps:=999999) -implicitDefEqProofs (disch:=omega) only [push_cast,↓reduceIte,Nat.reduceEqDiff,reduceCtorEq,wz]
    exact hN _ _ (by simp (maxSteps:=999999) -implicitDefEqProofs (disch:=omega) only [push_cast,↓reduceIte,Nat.reduceEqDiff,reduceCtorEq,wz])
  rintro ε σ ⟨hρ, rfl⟩
  refine wpa_seq (fun ε σ => (ε 0 = aInts2 xss ∧ ε 1 = aAcs l ∧ ε 2 = aMo mo) ∧ σ = []) ?_ ?_
  · intro N hN
    simp (maxSteps:=999999) -implicitDefEqProofs (disch:=omega) only [push_cast,↓reduceIte,Nat.reduceEqDiff,reduceCtorEq,wz]
    refine wpa_call law32_Works_a ?_
    rintro a rfl
    simp (maxSteps:=999999) -implicitDefEqProofs (disch:=omega) only [push_cast,↓reduceIte,Nat.reduceEqDiff,reduceCtorEq,wz,aBool]
    exact hN _ _ (by simp (maxSteps:=999999) -implicitDefEqProofs (disch:=omega) only [push_cast,↓reduceIte,Nat.reduceEqDiff,reduceCtorEq,wz,hρ])
  clear hρ ε
  rintro ε σ ⟨hρ, rfl⟩
  refine wpa_seq (fun ε σ => (ε 0 = aInts2 xss ∧ ε 1 = aAcs l ∧ ε 2 = aMo mo) ∧ σ = [] ∧ l.length ≤ 150 ∧ xss.length ≤ 200 ∧ (∀ x ∈ xss, x.length ≤ 60) ∧ chk xss = 0 ∧ mo.length ≤ 100) ?_ ?_
  · intro N hN
    simp (maxSteps:=999999) -implicitDefEqProofs (disch:=omega) only [push_cast,↓reduceIte,Nat.reduceEqDiff,reduceCtorEq,wz,hρ]
    refine wpa_call (law32_great_a xss l hs hl) ?_
    rintro a ⟨b, rfl, hb⟩
    cases b with
    | true =>
      simp (maxSteps:=999999) -implicitDefEqProofs (disch:=omega) only [push_cast,↓reduceIte,Nat.reduceEqDiff,reduceCtorEq,wz,aBool]
      first | exact ⟨[], rfl, rfl⟩ | exact ⟨[], rfl⟩
    | false =>
      obtain ⟨b1, b2, b3⟩ := hb rfl
      have hCk := ref31_Check_a xss (by omega) fun x hx => by have := b3 x hx; omega
      by_cases cm : 100 < mo.length
      · simp (maxSteps:=999999) -implicitDefEqProofs (disch:=omega) only [push_cast,↓reduceIte,Nat.reduceEqDiff,reduceCtorEq,wz,hρ,aBool,hMo,cm]
        first | exact ⟨[], rfl, rfl⟩ | exact ⟨[], rfl⟩
      · simp (maxSteps:=999999) -implicitDefEqProofs (disch:=omega) only [push_cast,↓reduceIte,Nat.reduceEqDiff,reduceCtorEq,wz,hρ,aBool,hMo,cm]
        refine wpa_call hCk ?_
        rintro a rfl
        by_cases hc : chk xss = 0
        · simp (maxSteps:=999999) -implicitDefEqProofs (disch:=omega) only [push_cast,↓reduceIte,Nat.reduceEqDiff,reduceCtorEq,wz,hρ,aInt,hc]
          exact hN _ _ ⟨by simp (maxSteps:=999999) -implicitDefEqProofs (disch:=omega) only [push_cast,↓reduceIte,Nat.reduceEqDiff,reduceCtorEq,wz,hρ,hMo], rfl, b1, b2, b3, hc, by omega⟩
        · simp (maxSteps:=999999) -implicitDefEqProofs (disch:=omega) only [push_cast,↓reduceIte,Nat.reduceEqDiff,reduceCtorEq,wz,hρ,aInt,hc]
          first | exact ⟨[], rfl, rfl⟩ | exact ⟨[], rfl⟩
  clear hρ ε hs hl hm
  rintro ε σ ⟨hρ, rfl, hl, hs, hs2, hc, hm⟩
  obtain ⟨hk1000, hok⟩ := chk_zero hc
  have hs2' : ∀ x ∈ xss, x.length ≤ 1000000 := fun x hx => by have := hs2 x hx; omega
  have hD := law32_dag_a xss l (by omega) hs2' (by omega)
  have hF := race_Find_a xss (.sl 0 [] .none) l rfl (by omega) hs2' (by omega)
  refine wpa_seqx (fun ε σ => ∃ r : Fd, FindR xss l r ∧ (ε 0 = aInts2 xss ∧ ε 1 = aAcs l ∧ ε 2 = aMo mo ∧ ε 7 = .ref 0 0 0 ∧ ε 8 = .v (.bool r.ok) ∧ ε 9 = .v (.int .i64 r.e)) ∧ σ = [.obj 0 [AV.v (.int .i64 r.i), AV.v (.int .i64 r.k), AV.v (.int .i64 r.w)]]) ?_ ?_
  · intro N X R hN
    simp (maxSteps:=999999) -implicitDefEqProofs (disch:=omega) only [push_cast,↓reduceIte,Nat.reduceEqDiff,reduceCtorEq,wz,hρ]
    refine wpa_call hD ?_
    rintro a rfl
    simp (maxSteps:=999999) -implicitDefEqProofs (disch:=omega) only [push_cast,↓reduceIte,Nat.reduceEqDiff,reduceCtorEq,wz]
    refine wpa_call hF ?_
    rintro a ⟨r, rfl, hr⟩
    simp (maxSteps:=999999) -implicitDefEqProofs (disch:=omega) only [push_cast,↓reduceIte,Nat.reduceEqDiff,reduceCtorEq,wz,aFd]
    refine wpa_new ?_
    simp (maxSteps:=999999) -implicitDefEqProofs (disch:=omega) only [push_cast,↓reduceIte,Nat.reduceEqDiff,reduceCtorEq,wz]
    refine wpa_stn (n := 3) (cs := [AV.v (.int .i64 0), AV.v (.int .i64 0), AV.v (.int .i64 0)]) rfl rfl rfl (by decide) ?_
    rw [set3n]
    simp (maxSteps:=999999) -implicitDefEqProofs (disch:=omega) only [push_cast,↓reduceIte,Nat.reduceEqDiff,reduceCtorEq,wz]
    exact hN _ _ ⟨r, hr, by simp (maxSteps:=999999) -implicitDefEqProofs (disch:=omega) only [push_cast,↓reduceIte,Nat.reduceEqDiff,reduceCtorEq,wz,hρ], rfl⟩
  clear hρ ε
  rintro ε σ ⟨r, hr, hρ, rfl⟩
  refine wpa_seq (fun ε σ => (ε 0 = aInts2 xss ∧ ε 1 = aAcs l ∧ ε 2 = aMo mo ∧ ε 7 = .ref 0 0 0 ∧ ε 8 = .v (.bool r.ok)) ∧ σ = [.obj 0 [AV.v (.int .i64 r.i), AV.v (.int .i64 r.k), AV.v (.int .i64 r.w)]] ∧ r.e = 0) ?_ ?_
  · intro N hN
    by_cases he : r.e = 0
    · simp (maxSteps:=999999) -implicitDefEqProofs (disch:=omega) only [push_cast,↓reduceIte,Nat.reduceEqDiff,reduceCtorEq,wz,hρ,he]
      exact hN _ _ ⟨by simp (maxSteps:=999999) -implicitDefEqProofs (disch:=omega) only [push_cast,↓reduceIte,Nat.reduceEqDiff,reduceCtorEq,wz,hρ], rfl, he⟩
    · simp (maxSteps:=999999) -implicitDefEqProofs (disch:=omega) only [push_cast,↓reduceIte,Nat.reduceEqDiff,reduceCtorEq,wz,hρ,he]
      first | exact ⟨[], rfl, rfl⟩ | exact ⟨[], rfl⟩
  clear hρ ε
  rintro ε σ ⟨hρ, rfl, hre⟩
  have hd3 : ∀ a b c : AV, setAtA [AV.sl 0 [] .nil, AV.sl 0 [] .nil, AV.sl 0 [] .nil] 0 [a, b, c] = [a, b, c] := fun _ _ _ => rfl
  refine wpa_seqx (fun ε σ => ∃ D nd i, (ε 0 = aInts2 xss ∧ ε 1 = aAcs l ∧ ε 2 = aMo mo ∧ ε 7 = .ref 0 0 0 ∧ ε 8 = .v (.bool r.ok) ∧ ε 10 = .ref i 0 0) ∧ σ[0]? = some (.obj 0 [AV.v (.int .i64 r.i), AV.v (.int .i64 r.k), AV.v (.int .i64 r.w)]) ∧ DS l xss D nd i σ) ?_ ?_
  · intro N X R hN
    by_cases hn : xss.length = 0
    · have hx0 : xss = [] := List.length_eq_zero_iff.1 hn
      simp (maxSteps:=999999) -implicitDefEqProofs (disch:=omega) only [push_cast,↓reduceIte,Nat.reduceEqDiff,reduceCtorEq,wz,hρ]
      refine wpa_call hD ?_
      rintro a rfl
      simp (maxSteps:=999999) -implicitDefEqProofs (disch:=omega) only [push_cast,↓reduceIte,Nat.reduceEqDiff,reduceCtorEq,wz]
      refine wpa_new ?_
      simp (maxSteps:=999999) -implicitDefEqProofs (disch:=omega) only [push_cast,↓reduceIte,Nat.reduceEqDiff,reduceCtorEq,wz]
      refine wpa_stn (n := 3) (cs := [AV.sl 0 [] .nil, AV.sl 0 [] .nil, AV.sl 0 [] .nil]) rfl rfl rfl (by decide) ?_
      simp (maxSteps:=999999) -implicitDefEqProofs (disch:=omega) only [push_cast,↓reduceIte,Nat.reduceEqDiff,reduceCtorEq,wz]
      exact hN _ _ ⟨.sl 0 [] .none, .sl 0 [] .none, 1, by simp (maxSteps:=999999) -implicitDefEqProofs (disch:=omega) only [push_cast,↓reduceIte,Nat.reduceEqDiff,reduceCtorEq,wz,hρ], rfl, by subst hx0; rfl, by decide, fun _ => rfl, .inl ⟨hx0, rfl⟩⟩
    · simp (maxSteps:=999999) -implicitDefEqProofs (disch:=omega) only [push_cast,↓reduceIte,Nat.reduceEqDiff,reduceCtorEq,wz,hρ]
      refine wpa_callF (law32_dag_m xss l (by omega) (by omega) hs2' (by omega)) (by simp [AV.pureL, aInts2_pure, aAcs_pure]) ?_
      rintro a τ ⟨w, E, rfl, hE, hP⟩
      have hP' := hP.shift [Res.obj 0 [AV.v (.int .i64 r.i), AV.v (.int .i64 r.k), AV.v (.int .i64 r.w)]]
      have hsh : AV.shift (List.length [Res.obj 0 [AV.v (.int .i64 r.i), AV.v (.int .i64 r.k), AV.v (.int .i64 r.w)]]) (.agg [.ms 3 w 0 xss.length 1, .sl 0 [] .nil, aAcs l]) = .agg [.ms 4 w 0 xss.length 1, .sl 0 [] .nil, aAcs l] := by
        simp only [AV.shift, AV.shiftL, shift_acs, Tok.shift]
        rfl
      rw [hsh]
      have q0 : ([Res.obj 0 [AV.v (.int .i64 r.i), AV.v (.int .i64 r.k), AV.v (.int .i64 r.w)]] ++ τ.map (Res.shift (List.length [Res.obj 0 [AV.v (.int .i64 r.i), AV.v (.int .i64 r.k), AV.v (.int .i64 r.w)]])))[0]? = some (.obj 0 [AV.v (.int .i64 r.i), AV.v (.int .i64 r.k), AV.v (.int .i64 r.w)]) := rfl
      generalize [Res.obj 0 [AV.v (.int .i64 r.i), AV.v (.int .i64 r.k), AV.v (.int .i64 r.w)]] ++ τ.map (Res.shift (List.length [Res.obj 0 [AV.v (.int .i64 r.i), AV.v (.int .i64 r.k), AV.v (.int .i64 r.w)]])) = σ0 at q0 hP' ⊢
      have hlt := lt_at q0
      have hl4 := lt_at hP'.obj
      simp (maxSteps:=999999) -implicitDefEqProofs (disch:=omega) only [push_cast,↓reduceIte,Nat.reduceEqDiff,reduceCtorEq,wz]
      refine wpa_new ?_
      simp (maxSteps:=999999) -implicitDefEqProofs (disch:=omega) only [push_cast,↓reduceIte,Nat.reduceEqDiff,reduceCtorEq,wz]
      refine wpa_stn (n := 3) (cs := [AV.sl 0 [] .nil, AV.sl 0 [] .nil, AV.sl 0 [] .nil]) rfl rfl (at_snoc _ _) (by decide) ?_
      simp (maxSteps:=999999) -implicitDefEqProofs (disch:=omega) only [push_cast,↓reduceIte,Nat.reduceEqDiff,reduceCtorEq,wz,hd3]
      refine hN _ _ ⟨.ms 4 w 0 xss.length 1, .sl 0 [] .nil, σ0.length, by simp (maxSteps:=999999) -implicitDefEqProofs (disch:=omega) only [push_cast,↓reduceIte,Nat.reduceEqDiff,reduceCtorEq,wz,hρ], get_app q0, at_snoc _ _, by omega, fun _ => rfl, .inr ⟨by omega, 4, w, E.map (shE 1), rfl, ?_, hP'.app, ?_, by decide⟩⟩
      · rw [List.map_map]; exact hE
      · have : 4 < σ0.length := hl4
        omega
  clear hρ ε
  rintro ε σ ⟨D, nd, i, hρ, h0, hDS⟩
  refine wpa_seqx (fun ε σ => (ε 0 = aInts2 xss ∧ ε 1 = aAcs l ∧ ε 7 = .ref 0 0 0 ∧ ε 8 = .v (.bool r.ok) ∧ ε 10 = .ref i 0 0) ∧ σ[0]? = some (.obj 0 [AV.v (.int .i64 r.i), AV.v (.int .i64 r.k), AV.v (.int .i64 r.w)]) ∧ ∃ yss, Mo xss yss 160 ∧ DS l yss D nd i σ) ?_ ?_
  · intro N X R hN
    simp (maxSteps:=999999) -implicitDefEqProofs (disch:=omega) only [push_cast,↓reduceIte,Nat.reduceEqDiff,reduceCtorEq,wz,hρ]
    refine wpa_blx (α := Nat) (I := fun k ε σ => (ε 0 = aInts2 xss ∧ ε 1 = aAcs l ∧ ε 2 = aMo mo ∧ ε 7 = .ref 0 0 0 ∧ ε 8 = .v (.bool r.ok) ∧ ε 10 = .ref i 0 0 ∧ ε 11 = .v (.int .i64 k)) ∧ k ≤ mo.length ∧ σ[0]? = some (.obj 0 [AV.v (.int .i64 r.i), AV.v (.int .i64 r.k), AV.v (.int .i64 r.w)]) ∧ ∃ yss, Mo xss yss (60 + k) ∧ DS l yss D nd i σ)
      (μ := fun k => mo.length - k) (Q := fun ε σ => (ε 0 = aInts2 xss ∧ ε 1 = aAcs l ∧ ε 7 = .ref 0 0 0 ∧ ε 8 = .v (.bool r.ok) ∧ ε 10 = .ref i 0 0) ∧ σ[0]? = some (.obj 0 [AV.v (.int .i64 r.i), AV.v (.int .i64 r.k), AV.v (.int .i64 r.w)]) ∧ ∃ yss, Mo xss yss 160 ∧ DS l yss D nd i σ) (x := 0) ?_ ?_ ?_
    · simp (maxSteps:=999999) -implicitDefEqProofs (disch:=omega) only [push_cast,↓reduceIte,Nat.reduceEqDiff,reduceCtorEq,wz,hρ]
      exact ⟨by omega, h0, xss, Mo.refl hok hs2, hDS⟩
    · clear hρ ε h0 hDS
      rintro k ε σ N E X' R' ⟨hρ, hk, h0, yss, hY, hDS⟩ hN hE
      simp only [S2_forebaylaw32_RaceFewer_L1]
      by_cases hlt : k < mo.length
      · obtain ⟨p, hp⟩ := at_lt hlt
        have hd := flat_drop aP2_len hp
        have g0 : ∀ t : List AV, (aP2 p ++ t)[Int.toNat 0]? = some (.v (.int .i64 p.1)) := fun _ => rfl
        have g1 : ∀ t : List AV, (aP2 p ++ t)[Int.toNat 1]? = some (.v (.int .i64 p.2)) := fun _ => rfl
        have hDo := hDS.1
        have hDl := hDS.len
        have z0 : [D, nd, aAcs l][0]? = some D := rfl
        have skip : Mo xss yss (60 + (k + 1)) := hY.weak (by omega)
        refine wpa_seqx (fun ε σ' => (ε 0 = aInts2 xss ∧ ε 1 = aAcs l ∧ ε 2 = aMo mo ∧ ε 7 = .ref 0 0 0 ∧ ε 8 = .v (.bool r.ok) ∧ ε 10 = .ref i 0 0 ∧ ε 11 = .v (.int .i64 k)) ∧ σ' = σ) ?_ ?_
        · intro N X R hN
          simp (maxSteps:=999999) -implicitDefEqProofs (disch:=omega) only [push_cast,↓reduceIte,Nat.reduceEqDiff,reduceCtorEq,wz,hρ,hMo]
          exact hN _ _ ⟨by simp (maxSteps:=999999) -implicitDefEqProofs (disch:=omega) only [push_cast,↓reduceIte,Nat.reduceEqDiff,reduceCtorEq,wz,hρ,hMo], rfl⟩
        clear hρ ε
        rintro ε σ' ⟨hρ, e1⟩
        rw [e1]
        clear e1 σ'
        refine wpa_seqx (fun ε σ' => (ε 0 = aInts2 xss ∧ ε 1 = aAcs l ∧ ε 2 = aMo mo ∧ ε 7 = .ref 0 0 0 ∧ ε 8 = .v (.bool r.ok) ∧ ε 10 = .ref i 0 0 ∧ ε 11 = .v (.int .i64 k)) ∧ σ'[0]? = some (.obj 0 [AV.v (.int .i64 r.i), AV.v (.int .i64 r.k), AV.v (.int .i64 r.w)]) ∧ ∃ yss, Mo xss yss (60 + (k + 1)) ∧ DS l yss D nd i σ') ?_ ?_
        · intro N X R hN
          refine wpa_blk fun X' _ => ?_
          refine wpa_seqx (fun ε σ' => (ε 0 = aInts2 xss ∧ ε 1 = aAcs l ∧ ε 2 = aMo mo ∧ ε 7 = .ref 0 0 0 ∧ ε 8 = .v (.bool r.ok) ∧ ε 10 = .ref i 0 0 ∧ ε 11 = .v (.int .i64 k) ∧ ε 12 = .v (.int .i64 p.1) ∧ ε 13 = .v (.int .i64 p.2)) ∧ σ' = σ) ?_ ?_
          · intro N X R hN
            simp (maxSteps:=999999) -implicitDefEqProofs (disch:=omega) only [push_cast,↓reduceIte,Nat.reduceEqDiff,reduceCtorEq,wz,hρ,hMo,hd,g0,g1]
            exact hN _ _ ⟨by simp (maxSteps:=999999) -implicitDefEqProofs (disch:=omega) only [push_cast,↓reduceIte,Nat.reduceEqDiff,reduceCtorEq,wz,hρ,hMo], rfl⟩
          clear hρ ε
          rintro ε σ' ⟨hρ, e1⟩
          rw [e1]
          clear e1 σ'
          refine wpa_seqx (fun ε σ' => (ε 0 = aInts2 xss ∧ ε 1 = aAcs l ∧ ε 2 = aMo mo ∧ ε 7 = .ref 0 0 0 ∧ ε 8 = .v (.bool r.ok) ∧ ε 10 = .ref i 0 0 ∧ ε 11 = .v (.int .i64 k) ∧ ε 12 = .v (.int .i64 p.1) ∧ ε 13 = .v (.int .i64 p.2) ∧ ε 84 = .v (.bool (decide (0 ≤ p.1 ∧ p.1 < yss.length ∧ 0 ≤ p.2 ∧ p.2 < p.1)))) ∧ σ' = σ) ?_ ?_
          · intro N X R hN
            by_cases c1 : 0 ≤ p.1
            · by_cases c2 : p.1 < yss.length
              · by_cases c3 : 0 ≤ p.2
                · by_cases c4 : p.2 < p.1
                  · simp (maxSteps:=999999) -implicitDefEqProofs (disch:=omega) only [push_cast,↓reduceIte,Nat.reduceEqDiff,reduceCtorEq,wz,hρ,hDo,z0,hDl,c1,c2,c3,c4]
                    exact hN _ _ ⟨by simp (maxSteps:=999999) -implicitDefEqProofs (disch:=omega) only [push_cast,↓reduceIte,Nat.reduceEqDiff,reduceCtorEq,wz,hρ,c1,c2,c3,c4,and_true], rfl⟩
                  · simp (maxSteps:=999999) -implicitDefEqProofs (disch:=omega) only [push_cast,↓reduceIte,Nat.reduceEqDiff,reduceCtorEq,wz,hρ,hDo,z0,hDl,c1,c2,c3,c4]
                    exact hN _ _ ⟨by simp (maxSteps:=999999) -implicitDefEqProofs (disch:=omega) only [push_cast,↓reduceIte,Nat.reduceEqDiff,reduceCtorEq,wz,hρ,c1,c2,c3,c4,and_false], rfl⟩
                · simp (maxSteps:=999999) -implicitDefEqProofs (disch:=omega) only [push_cast,↓reduceIte,Nat.reduceEqDiff,reduceCtorEq,wz,hρ,hDo,z0,hDl,c1,c2,c3]
                  exact hN _ _ ⟨by simp (maxSteps:=999999) -implicitDefEqProofs (disch:=omega) only [push_cast,↓reduceIte,Nat.reduceEqDiff,reduceCtorEq,wz,hρ,c1,c2,c3,and_false,false_and], rfl⟩
              · simp (maxSteps:=999999) -implicitDefEqProofs (disch:=omega) only [push_cast,↓reduceIte,Nat.reduceEqDiff,reduceCtorEq,wz,hρ,hDo,z0,hDl,c1,c2]
                exact hN _ _ ⟨by simp (maxSteps:=999999) -implicitDefEqProofs (disch:=omega) only [push_cast,↓reduceIte,Nat.reduceEqDiff,reduceCtorEq,wz,hρ,c1,c2,and_false,false_and], rfl⟩
            · simp (maxSteps:=999999) -implicitDefEqProofs (disch:=omega) only [push_cast,↓reduceIte,Nat.reduceEqDiff,reduceCtorEq,wz,hρ,hDo,z0,hDl,c1]
              exact hN _ _ ⟨by simp (maxSteps:=999999) -implicitDefEqProofs (disch:=omega) only [push_cast,↓reduceIte,Nat.reduceEqDiff,reduceCtorEq,wz,hρ,c1,and_false,false_and], rfl⟩
          clear hρ ε
          rintro ε σ' ⟨hρ, e1⟩
          rw [e1]
          clear e1 σ'
          by_cases cc : 0 ≤ p.1 ∧ p.1 < yss.length ∧ 0 ≤ p.2 ∧ p.2 < p.1
          · rw [decide_eq_true cc] at hρ
            obtain ⟨c1, c2, c3, c4⟩ := cc
            obtain ⟨_, hi0, hnd, hcase⟩ := hDS
            rcases hcase with ⟨rfl, _⟩ | ⟨hy0, j, w, E0, rfl, hE0, hP, hji, hj0⟩
            · simp at c2; omega
            have hEl : E0.length = yss.length := by rw [← hE0]; simp
            obtain ⟨e, he⟩ := at_lt (l := E0) (k := p.1.toNat) (by omega)
            have hye : yss[p.1.toNat]? = some e.x := by rw [← hE0, List.getElem?_map, he]; rfl
            have hce : (E0.map cellE)[p.1.toNat]? = some (.sl e.x.length (e.x.map aInt) (.id e.t e.v 1)) := by rw [List.getElem?_map, he]; rfl
            have hcl : p.1.toNat < (E0.map cellE).length := lt_at hce
            have hez := hY.sz e.x (List.mem_of_getElem? hye)
            have het := hP.tl e (List.mem_of_getElem? he)
            have hne : e.t ≠ j := fun e' => by rw [e', hP.obj] at het; cases het
            have hni : e.t ≠ i := fun e' => by rw [e', hDo] at het; cases het
            have hn0 : e.t ≠ 0 := fun e' => by rw [e', h0] at het; cases het
            have hPa := hP.add he p.2
            have hpc : (AV.v (.int .i64 p.2)).cells = [.v (.int .i64 p.2)] := rfl
            simp (maxSteps:=999999) -implicitDefEqProofs (disch:=omega) only [push_cast,↓reduceIte,Nat.reduceEqDiff,reduceCtorEq,wz,hρ,hDo,z0,hP.obj,hce]
            refine wpa_bsl (sz := 1) (by intro a ha; simp at ha; subst ha; rfl) (by simp) ?_
            simp (maxSteps:=999999) -implicitDefEqProofs (disch:=omega) only [push_cast,↓reduceIte,Nat.reduceEqDiff,reduceCtorEq,wz,hρ,hpc,List.append_nil]
            refine wpa_app (m := 1) rfl rfl rfl rfl (by simp) (by omega) (by omega) het ?_
            simp (maxSteps:=999999) -implicitDefEqProofs (disch:=omega) only [push_cast,↓reduceIte,Nat.reduceEqDiff,reduceCtorEq,wz,hρ]
            refine ⟨aholds_x (by simp (maxSteps:=999999) -implicitDefEqProofs (disch:=omega) only [push_cast,↓reduceIte,Nat.reduceEqDiff,reduceCtorEq,wz,hρ,get_set_ne hni hDo,z0]; exact rfl), ?_⟩
            refine wpa_st1 rfl rfl (get_set_ne hne hP.obj) hcl ?_
            simp (maxSteps:=999999) -implicitDefEqProofs (disch:=omega) only [push_cast,↓reduceIte,Nat.reduceEqDiff,reduceCtorEq,wz,hρ]
            refine hN _ _ ⟨by simp (maxSteps:=999999) -implicitDefEqProofs (disch:=omega) only [push_cast,↓reduceIte,Nat.reduceEqDiff,reduceCtorEq,wz,hρ], get_set_ne hj0 (get_set_ne hn0 h0), _, hY.add hye c3 (by omega), ?_⟩
            refine ⟨get_set_ne hji (get_set_ne hni hDo), hi0, hnd, .inr ⟨by simp; omega, j, w, _, by simp, ?_, hPa, hji, hj0⟩⟩
            rw [List.map_set, hE0]
          · rw [decide_eq_false cc] at hρ
            simp (maxSteps:=999999) -implicitDefEqProofs (disch:=omega) only [push_cast,↓reduceIte,Nat.reduceEqDiff,reduceCtorEq,wz,hρ]
            exact hN _ _ ⟨by simp (maxSteps:=999999) -implicitDefEqProofs (disch:=omega) only [push_cast,↓reduceIte,Nat.reduceEqDiff,reduceCtorEq,wz,hρ], h0, yss, skip, hDS⟩
        clear hρ ε
        rintro ε σ' ⟨hρ, h0', yss', hY', hDS'⟩
        simp (maxSteps:=999999) -implicitDefEqProofs (disch:=omega) only [push_cast,↓reduceIte,Nat.reduceEqDiff,reduceCtorEq,wz,hρ]
        refine hN (k + 1) _ _ ?_ (by omega)
        simp (maxSteps:=999999) -implicitDefEqProofs (disch:=omega) only [push_cast,↓reduceIte,Nat.reduceEqDiff,reduceCtorEq,wz,hρ]
        exact ⟨by omega, h0', yss', hY', hDS'⟩
      · simp (maxSteps:=999999) -implicitDefEqProofs (disch:=omega) only [push_cast,↓reduceIte,Nat.reduceEqDiff,reduceCtorEq,wz,hρ,hMo]
        refine hE _ _ ?_
        simp (maxSteps:=999999) -implicitDefEqProofs (disch:=omega) only [push_cast,↓reduceIte,Nat.reduceEqDiff,reduceCtorEq,wz,hρ,hMo]
        exact ⟨h0, yss, hY.weak (by omega), hDS⟩
    · rintro ε σ h
      exact hN _ _ h
  clear hρ ε h0 hDS
  rintro ε σ ⟨hρ, h0, yss, hY, hDS⟩
  have hyl := hY.len
  have hF2 := race_Find_a yss (.sl 0 [] .none) l rfl (by omega) (fun y hy => by have := hY.sz y hy; omega) (by omega)
  obtain ⟨is, hw, h0z⟩ := hDS.weak h0
  refine wpa_seqx (fun ε σ => ∃ s : Fd, ∃ i14, FindR yss l s ∧ (ε 0 = aInts2 xss ∧ ε 1 = aAcs l ∧ ε 7 = .ref 0 0 0 ∧ ε 8 = .v (.bool r.ok) ∧ ε 14 = .ref i14 0 0 ∧ ε 15 = .v (.bool s.ok) ∧ ε 16 = .v (.int .i64 s.e)) ∧ σ[0]? = some (.obj 0 [AV.v (.int .i64 r.i), AV.v (.int .i64 r.k), AV.v (.int .i64 r.w)]) ∧ σ[i14]? = some (.obj 0 [AV.v (.int .i64 s.i), AV.v (.int .i64 s.k), AV.v (.int .i64 s.w)])) ?_ ?_
  · intro N X R hN
    simp (maxSteps:=999999) -implicitDefEqProofs (disch:=omega) only [push_cast,↓reduceIte,Nat.reduceEqDiff,reduceCtorEq,wz,hρ,hDS.1,cell3]
    refine wpa_callw is [true] hF2 hw ?_
    rintro a ⟨s, rfl, hs'⟩
    generalize Go.Kx.freeze is σ = σz at h0z ⊢
    simp (maxSteps:=999999) -implicitDefEqProofs (disch:=omega) only [push_cast,↓reduceIte,Nat.reduceEqDiff,reduceCtorEq,wz,aFd]
    refine wpa_new ?_
    simp (maxSteps:=999999) -implicitDefEqProofs (disch:=omega) only [push_cast,↓reduceIte,Nat.reduceEqDiff,reduceCtorEq,wz]
    refine wpa_stn (n := 3) (cs := [AV.v (.int .i64 0), AV.v (.int .i64 0), AV.v (.int .i64 0)]) rfl rfl (at_snoc _ _) (by decide) ?_
    rw [set3n]
    simp (maxSteps:=999999) -implicitDefEqProofs (disch:=omega) only [push_cast,↓reduceIte,Nat.reduceEqDiff,reduceCtorEq,wz]
    refine hN _ _ ⟨s, σz.length, hs', by simp (maxSteps:=999999) -implicitDefEqProofs (disch:=omega) only [push_cast,↓reduceIte,Nat.reduceEqDiff,reduceCtorEq,wz,hρ], ?_, ?_⟩
    · exact get_app h0z
    · exact at_snoc _ _
  clear hρ ε hw h0z h0 hDS
  rintro ε σ ⟨s, i14, hfs, hρ, h0, h14⟩
  obtain ⟨hse, hsk⟩ := more_find hY hc hr hre hfs
  refine wpa_seq (fun ε σ' => (ε 0 = aInts2 xss ∧ ε 1 = aAcs l ∧ ε 7 = .ref 0 0 0 ∧ ε 8 = .v (.bool r.ok)) ∧ σ' = σ) ?_ ?_
  · intro N hN
    cases hso : s.ok with
    | false =>
      rw [hso] at hρ
      simp (maxSteps:=999999) -implicitDefEqProofs (disch:=omega) only [push_cast,↓reduceIte,Nat.reduceEqDiff,reduceCtorEq,wz,hρ,hse]
      exact hN _ _ ⟨by simp (maxSteps:=999999) -implicitDefEqProofs (disch:=omega) only [push_cast,↓reduceIte,Nat.reduceEqDiff,reduceCtorEq,wz,hρ], rfl⟩
    | true =>
      obtain ⟨hro, hrk⟩ := hsk hso
      have c5 : ¬ s.k < r.k := by omega
      rw [hso, hro] at hρ
      have y1 : [AV.v (.int .i64 s.i), AV.v (.int .i64 s.k), AV.v (.int .i64 s.w)][1]? = some (.v (.int .i64 s.k)) := rfl
      have y2 : [AV.v (.int .i64 r.i), AV.v (.int .i64 r.k), AV.v (.int .i64 r.w)][1]? = some (.v (.int .i64 r.k)) := rfl
      simp (maxSteps:=999999) -implicitDefEqProofs (disch:=omega) only [push_cast,↓reduceIte,Nat.reduceEqDiff,reduceCtorEq,wz,hρ,hse,h0,h14,y1,y2,c5]
      exact hN _ _ ⟨by simp (maxSteps:=999999) -implicitDefEqProofs (disch:=omega) only [push_cast,↓reduceIte,Nat.reduceEqDiff,reduceCtorEq,wz,hρ,hro], rfl⟩
  clear hρ ε h14
  rintro ε σ' ⟨hρ, e1⟩
  rw [e1]
  clear e1 σ'
  cases hro : r.ok with
  | false =>
    obtain ⟨z1, z2, z3⟩ := find_no hr hro
    rw [hro] at hρ
    rw [z1, z2, z3] at h0
    have hq := eqs3 false 0 0 0 0 0 0
    simp (maxSteps:=999999) -implicitDefEqProofs (disch:=omega) only [push_cast,↓reduceIte,Nat.reduceEqDiff,reduceCtorEq,wz,hρ,h0,cell3,fill3z,hq]
    first | exact ⟨[], rfl, rfl⟩ | exact ⟨[], rfl⟩
  | true =>
    rw [hro] at hρ
    obtain ⟨fi, fk, a, b, rfl, hik, ha, hb, hab, hwr, hf1, hf2⟩ := found_cut hc hr hro
    have hkl := lt_at hb
    refine wpa_seq (fun ε σ' => (ε 0 = aInts2 xss ∧ ε 1 = aAcs l ∧ ε 7 = .ref 0 0 0) ∧ σ' = σ) ?_ ?_
    · intro N hN
      simp (maxSteps:=999999) -implicitDefEqProofs (disch:=omega) only [push_cast,↓reduceIte,Nat.reduceEqDiff,reduceCtorEq,wz,hρ]
      exact hN _ _ ⟨by simp (maxSteps:=999999) -implicitDefEqProofs (disch:=omega) only [push_cast,↓reduceIte,Nat.reduceEqDiff,reduceCtorEq,wz,hρ], rfl⟩
    clear hρ ε
    rintro ε σ' ⟨hρ, e1⟩
    rw [e1]
    clear e1 σ'
    have y0 : [AV.v (.int .i64 fi), AV.v (.int .i64 fk), AV.v (.int .i64 b.wd)][0]? = some (.v (.int .i64 fi)) := rfl
    have y1 : [AV.v (.int .i64 fi), AV.v (.int .i64 fk), AV.v (.int .i64 b.wd)][1]? = some (.v (.int .i64 fk)) := rfl
    have y2 : [AV.v (.int .i64 fi), AV.v (.int .i64 fk), AV.v (.int .i64 b.wd)][2]? = some (.v (.int .i64 b.wd)) := rfl
    have D1 := law32_dag_a xss (l.take (fk + 1)) (by omega) hs2' (by simp; omega)
    have F1 := race_Find_a xss (.sl 0 [] .none) (l.take (fk + 1)) rfl (by omega) hs2' (by simp; omega)
    have D2 := law32_dag_a xss (l.take fk) (by omega) hs2' (by simp; omega)
    have F2 := race_Find_a xss (.sl 0 [] .none) (l.take fk) rfl (by omega) hs2' (by simp; omega)
    have t1 : aAcs (l.take (fk + 1)) = .sl (fk + 1) ((l.flatMap aAc).take ((fk + 1) * 3)) .none := by
      unfold aAcs aSlN
      rw [flat_takeN aAc_len, List.length_take, Nat.min_eq_left (by omega)]
    have t2 : aAcs (l.take fk) = .sl fk ((l.flatMap aAc).take (fk * 3)) .none := by
      unfold aAcs aSlN
      rw [flat_takeN aAc_len, List.length_take, Nat.min_eq_left (by omega)]
    rw [t1] at D1
    rw [t2] at D2
    refine wpa_seqx (fun ε σ' => ∃ i17, (ε 0 = aInts2 xss ∧ ε 1 = aAcs l ∧ ε 7 = .ref 0 0 0 ∧ ε 17 = .ref i17 0 0 ∧ ε 18 = .v (.bool true) ∧ ε 19 = .v (.int .i64 0)) ∧ σ'[0]? = some (.obj 0 [AV.v (.int .i64 fi), AV.v (.int .i64 fk), AV.v (.int .i64 b.wd)]) ∧ σ'[i17]? = some (.obj 0 [AV.v (.int .i64 fi), AV.v (.int .i64 fk), AV.v (.int .i64 b.wd)])) ?_ ?_
    · intro N X R hN
      simp (maxSteps:=999999) -implicitDefEqProofs (disch:=omega) only [push_cast,↓reduceIte,Nat.reduceEqDiff,reduceCtorEq,wz,hρ,hA,h0,y1]
      refine wpa_call D1 ?_
      rintro x rfl
      simp (maxSteps:=999999) -implicitDefEqProofs (disch:=omega) only [push_cast,↓reduceIte,Nat.reduceEqDiff,reduceCtorEq,wz]
      refine wpa_call F1 ?_
      rintro x ⟨r', rfl, hr'⟩
      have e1 := hr'.uniq hf1
      subst e1
      simp (maxSteps:=999999) -implicitDefEqProofs (disch:=omega) only [push_cast,↓reduceIte,Nat.reduceEqDiff,reduceCtorEq,wz,aFd]
      refine wpa_new ?_
      simp (maxSteps:=999999) -implicitDefEqProofs (disch:=omega) only [push_cast,↓reduceIte,Nat.reduceEqDiff,reduceCtorEq,wz]
      refine wpa_stn (n := 3) (cs := [AV.v (.int .i64 0), AV.v (.int .i64 0), AV.v (.int .i64 0)]) rfl rfl (at_snoc _ _) (by decide) ?_
      rw [set3n]
      simp (maxSteps:=999999) -implicitDefEqProofs (disch:=omega) only [push_cast,↓reduceIte,Nat.reduceEqDiff,reduceCtorEq,wz]
      refine hN _ _ ⟨σ.length, by simp (maxSteps:=999999) -implicitDefEqProofs (disch:=omega) only [push_cast,↓reduceIte,Nat.reduceEqDiff,reduceCtorEq,wz,hρ,hA], ?_, ?_⟩
      · exact get_app h0
      · exact at_snoc _ _
    clear hρ ε h0
    rintro ε σ ⟨i17, hρ, h0, h17⟩
    refine wpa_seqx (fun ε σ' => (ε 1 = aAcs l ∧ ε 7 = .ref 0 0 0 ∧ ε 17 = .ref i17 0 0 ∧ ε 18 = .v (.bool true) ∧ ε 19 = .v (.int .i64 0) ∧ ε 21 = .v (.bool false) ∧ ε 22 = .v (.int .i64 0)) ∧ σ'[0]? = some (.obj 0 [AV.v (.int .i64 fi), AV.v (.int .i64 fk), AV.v (.int .i64 b.wd)]) ∧ σ'[i17]? = some (.obj 0 [AV.v (.int .i64 fi), AV.v (.int .i64 fk), AV.v (.int .i64 b.wd)])) ?_ ?_
    · intro N X R hN
      simp (maxSteps:=999999) -implicitDefEqProofs (disch:=omega) only [push_cast,↓reduceIte,Nat.reduceEqDiff,reduceCtorEq,wz,hρ,hA,h0,y1]
      refine wpa_call D2 ?_
      rintro x rfl
      simp (maxSteps:=999999) -implicitDefEqProofs (disch:=omega) only [push_cast,↓reduceIte,Nat.reduceEqDiff,reduceCtorEq,wz]
      refine wpa_call F2 ?_
      rintro x ⟨r', rfl, hr'⟩
      obtain ⟨o1, o2⟩ := hf2 r' hr'
      simp (maxSteps:=999999) -implicitDefEqProofs (disch:=omega) only [push_cast,↓reduceIte,Nat.reduceEqDiff,reduceCtorEq,wz,aFd,o1,o2]
      refine wpa_new ?_
      simp (maxSteps:=999999) -implicitDefEqProofs (disch:=omega) only [push_cast,↓reduceIte,Nat.reduceEqDiff,reduceCtorEq,wz]
      refine wpa_stn (n := 3) (cs := [AV.v (.int .i64 0), AV.v (.int .i64 0), AV.v (.int .i64 0)]) rfl rfl (at_snoc _ _) (by decide) ?_
      rw [set3n]
      simp (maxSteps:=999999) -implicitDefEqProofs (disch:=omega) only [push_cast,↓reduceIte,Nat.reduceEqDiff,reduceCtorEq,wz]
      refine hN _ _ ⟨by simp (maxSteps:=999999) -implicitDefEqProofs (disch:=omega) only [push_cast,↓reduceIte,Nat.reduceEqDiff,reduceCtorEq,wz,hρ,hA], ?_, ?_⟩
      · exact get_app h0
      · exact get_app h17
    clear hρ ε h0 h17
    rintro ε σ ⟨hρ, h0, h17⟩
    have hq : PF.av (.eqs false [.int .i64, .int .i64, .int .i64]) [.agg [.v (.int .i64 fi), .v (.int .i64 fk), .v (.int .i64 b.wd)], .agg [.v (.int .i64 fi), .v (.int .i64 fk), .v (.int .i64 b.wd)]] = some (.v (.bool true)) := by rw [eqs3]; simp
    have da := flat_drop aAc_len ha
    have db := flat_drop aAc_len hb
    have a1 : ∀ t : List AV, (aAc a ++ t)[1]? = some (.v (.int .i64 a.wd)) := fun _ => rfl
    have a2 : ∀ t : List AV, (aAc a ++ t)[2]? = some (.v (.bool a.wr)) := fun _ => rfl
    have b1 : ∀ t : List AV, (aAc b ++ t)[1]? = some (.v (.int .i64 b.wd)) := fun _ => rfl
    have b2 : ∀ t : List AV, (aAc b ++ t)[2]? = some (.v (.bool b.wr)) := fun _ => rfl
    have hil : fi < l.length := by omega
    cases hwa : a.wr with
    | true =>
      rw [hwa] at a2
      simp (maxSteps:=999999) -implicitDefEqProofs (disch:=omega) only [push_cast,↓reduceIte,Nat.reduceEqDiff,reduceCtorEq,wz,hρ,hA,h0,h17,cell3,hq,y0,y1,y2,da,db,a1,a2,b1,b2,hab]
      first | exact ⟨[], rfl, rfl⟩ | exact ⟨[], rfl⟩
    | false =>
      have hwb : b.wr = true := by rw [hwa] at hwr; simpa using hwr
      rw [hwa] at a2
      rw [hwb] at b2
      simp (maxSteps:=999999) -implicitDefEqProofs (disch:=omega) only [push_cast,↓reduceIte,Nat.reduceEqDiff,reduceCtorEq,wz,hρ,hA,h0,h17,cell3,hq,y0,y1,y2,da,db,a1,a2,b1,b2,hab]
      first | exact ⟨[], rfl, rfl⟩ | exact ⟨[], rfl⟩
end Go.Proofs.Ytncdnegdlkmicaa.Rc
