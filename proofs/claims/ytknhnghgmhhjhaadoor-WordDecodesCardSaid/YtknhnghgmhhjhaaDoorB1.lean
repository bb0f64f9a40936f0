/- The laying of copyCheck. -/
import Derived.KernelRfl
import Derived.Test.YtknhnghgmhhjhaaDoorA6
import Derived.Test.YtknhnghgmhhjhaaDoorProg
import Derived.Test.YtknhnghgmhhjhaaDoorA3
import Derived.Test.YtknhnghgmhhjhaaDoorShelf
namespace Go.Proofs
open Go.Shelf
def Tryd.laysCC_ren : Go.Shelf.Ren := ⟨fun | 240 => 60 | 276 => 68 | n => n, fun | 4 => 4 | 70 => 47 | 72 => 49 | 37 => 31 | 164 => 84 | n => n, fun | n => n⟩
theorem Tryd.laysCC : CCLay Tryd.prog Tryd.laysCC_ren := {
  mixed := by kernel_rfl
  f240 := Tryd.func60.trans (congrArg some (by kernel_rfl))
  f276 := Tryd.func68.trans (congrArg some (by kernel_rfl))
  t4 := Tryd.underlying4
  a4 := Tryd.isAgg4
  z4 := Tryd.sizeOf4
  v4 := Tryd.zeroValue4
  t70 := Tryd.underlying47
  a70 := Tryd.isAgg47
  z70 := Tryd.sizeOf47
  v70 := Tryd.zeroValue47
  t72 := Tryd.underlying49
  a72 := Tryd.isAgg49
  z72 := Tryd.sizeOf49
  v72 := Tryd.zeroValue49
  t164 := Tryd.underlying84
  a164 := Tryd.isAgg84
  z164 := Tryd.sizeOf84
  v164 := Tryd.zeroValue84 }
theorem Tryd.Builder_X72_CC : Builder.X72 Tryd.prog Tryd.laysCC_ren := {
  sizeBuilder := by kernel_rfl
  liesBuilder := by kernel_rfl }
end Go.Proofs

/-
  The abstract program belongs to this seat's program.
-/
namespace Go.Ab.YtknhnghgmhhjhaaDoor
open Go.Proofs Go.Shelf
set_option linter.unusedVariables false
set_option maxRecDepth 20000
def gfn : FuncId → Option Nat := fun f => match f with
  | 4 => some 231
  | 9 => some 221
  | 10 => some 222
  | 12 => some 224
  | 14 => some 227
  | 15 => some 228
  | 16 => some 229
  | 17 => some 230
  | 18 => some 53
  | 19 => some 234
  | 20 => some 237
  | 21 => some 238
  | 22 => some 74
  | 25 => some 72
  | 26 => some 130
  | 27 => some 66
  | 28 => some 56
  | 29 => some 133
  | 30 => some 240
  | 31 => some 241
  | 32 => some 242
  | 33 => some 215
  | 34 => some 243
  | 35 => some 244
  | 36 => some 114
  | 37 => some 57
  | 38 => some 58
  | 39 => some 59
  | 40 => some 69
  | 41 => some 245
  | 42 => some 246
  | 43 => some 61
  | 45 => some 80
  | 46 => some 75
  | 49 => some 249
  | 50 => some 79
  | 51 => some 136
  | 52 => some 76
  | 54 => some 250
  | 55 => some 251
  | 56 => some 252
  | 57 => some 253
  | 58 => some 254
  | 59 => some 255
  | 60 => some 73
  | 61 => some 77
  | 63 => some 81
  | 64 => some 82
  | 67 => some 78
  | 69 => some 83
  | 71 => some 85
  | _ => none
def gm : GMap := { fn := gfn, tB := 49, tU := 5, inv := fun κ => ∃ m, κ.C (Tryd.laysM146_ren.g 1) 0 = some (.int .i64 m), mono := fun _ _ h ⟨m, hm⟩ => ⟨m, h _ _ _ hm⟩, glob := fun _ => none, globOK := fun _ _ _ _ h => by cases h }
theorem chk4 : chkFn Tryd.prog gm Tryd.f4 F_posthornlaw04_WordDecodes = true := by kernel_rfl
theorem chk9 : chkFn Tryd.prog gm Tryd.f9 F_posthornlaw04_alive = true := by kernel_rfl
theorem chk10 : chkFn Tryd.prog gm Tryd.f10 F_word_Encode = true := by kernel_rfl
theorem chk12 : chkFn Tryd.prog gm Tryd.f12 F_word_Plain = true := by kernel_rfl
theorem chk14 : chkFn Tryd.prog gm Tryd.f14 F_word_One = true := by kernel_rfl
theorem chk15 : chkFn Tryd.prog gm Tryd.f15 F_posthornref04_One = true := by kernel_rfl
theorem chk16 : chkFn Tryd.prog gm Tryd.f16 F_word_Decode = true := by kernel_rfl
theorem chk17 : chkFn Tryd.prog gm Tryd.f17 F_posthornref04_Decode = true := by kernel_rfl
theorem chk18 : chkFn Tryd.prog gm Tryd.f18 F_utf_Valid = true := by kernel_rfl
theorem chk19 : chkFn Tryd.prog gm Tryd.f19 F_bits_Encode = true := by kernel_rfl
theorem chk20 : chkFn Tryd.prog gm Tryd.f20 F_word_pieces = true := by kernel_rfl
theorem chk22 : chkFn Tryd.prog gm Tryd.f22 F_posthornref02_Valid = true := by kernel_rfl
theorem chk25 : chkFn Tryd.prog gm Tryd.f25 F_strings_HasPrefix = true := by kernel_rfl
theorem chk26 : chkFn Tryd.prog gm Tryd.f26 F_strings_HasSuffix = true := by kernel_rfl
theorem chk27 : chkFn Tryd.prog gm Tryd.f27 F_strings_Contains = true := by kernel_rfl
theorem chk28 : chkFn Tryd.prog gm Tryd.f28 F_posthornref04_Has = true := by kernel_rfl
theorem chk30 : chkFn Tryd.prog gm Tryd.f30 F_word_lower = true := by kernel_rfl
theorem chk31 : chkFn Tryd.prog gm Tryd.f31 F_bits_Decode = true := by kernel_rfl
theorem chk32 : chkFn Tryd.prog gm Tryd.f32 F_word_short = true := by kernel_rfl
theorem chk33 : chkFn Tryd.prog gm Tryd.f33 F_posthornref04_Parts = true := by kernel_rfl
theorem chk34 : chkFn Tryd.prog gm Tryd.f34 F_posthornref01_Decode = true := by kernel_rfl
theorem chk35 : chkFn Tryd.prog gm Tryd.f35 F_posthornref04_short = true := by kernel_rfl
theorem chk36 : chkFn Tryd.prog gm Tryd.f36 F_posthornref04_Lower = true := by kernel_rfl
theorem chk37 : chkFn Tryd.prog gm Tryd.f37 F_P_strings_Builder_WriteByte = true := by kernel_rfl
theorem chk38 : chkFn Tryd.prog gm Tryd.f38 F_P_strings_Builder_WriteString = true := by kernel_rfl
theorem chk40 : chkFn Tryd.prog gm Tryd.f40 F_utf_Points = true := by kernel_rfl
theorem chk41 : chkFn Tryd.prog gm Tryd.f41 F_bits_fits = true := by kernel_rfl
theorem chk42 : chkFn Tryd.prog gm Tryd.f42 F_word_pieces_c1 = true := by kernel_rfl
theorem chk43 : chkFn Tryd.prog gm Tryd.f43 F_utf_Cut = true := by kernel_rfl
theorem chk45 : chkFn Tryd.prog gm Tryd.f45 F_posthornref02_Points = true := by kernel_rfl
theorem chk46 : chkFn Tryd.prog gm Tryd.f46 F_posthornref02_Next = true := by kernel_rfl
theorem chk49 : chkFn Tryd.prog gm Tryd.f49 F_posthornref01_Sign = true := by kernel_rfl
theorem chk50 : chkFn Tryd.prog gm Tryd.f50 F_internal_stringslite_HasPrefix = true := by kernel_rfl
theorem chk51 : chkFn Tryd.prog gm Tryd.f51 F_internal_stringslite_HasSuffix = true := by kernel_rfl
theorem chk52 : chkFn Tryd.prog gm Tryd.f52 F_strings_Index = true := by kernel_rfl
theorem chk54 : chkFn Tryd.prog gm Tryd.f54 F_bits_value = true := by kernel_rfl
theorem chk55 : chkFn Tryd.prog gm Tryd.f55 F_word_digit = true := by kernel_rfl
theorem chk56 : chkFn Tryd.prog gm Tryd.f56 F_posthornref01_Bare = true := by kernel_rfl
theorem chk57 : chkFn Tryd.prog gm Tryd.f57 F_posthornref01_Value = true := by kernel_rfl
theorem chk58 : chkFn Tryd.prog gm Tryd.f58 F_posthornref01_tail = true := by kernel_rfl
theorem chk59 : chkFn Tryd.prog gm Tryd.f59 F_posthornref04_value = true := by kernel_rfl
theorem chk61 : chkFn Tryd.prog gm Tryd.f61 F_utf_Next = true := by kernel_rfl
theorem chk63 : chkFn Tryd.prog gm Tryd.f63 F_posthornref02_Put = true := by kernel_rfl
theorem chk69 : chkFn Tryd.prog gm Tryd.f69 F_utf_isPoint = true := by kernel_rfl
theorem chk71 : chkFn Tryd.prog gm Tryd.f71 F_posthornref02_Point = true := by kernel_rfl
set_option maxRecDepth 100000 in
theorem code_ok : ∀ (f' : FuncId) (f : Nat) (fn : ACFn), gm f' = some f → prog f = some (.code fn) → ∃ pf, Tryd.prog.funcs[f']? = some pf ∧ chkFn Tryd.prog gm pf fn = true := by
  intro f' f fn hg hA
  match f', hg with
  | 0, hg => exact absurd (show (none : Option Nat) = some f from hg) (by simp)
  | 1, hg => exact absurd (show (none : Option Nat) = some f from hg) (by simp)
  | 2, hg => exact absurd (show (none : Option Nat) = some f from hg) (by simp)
  | 3, hg => exact absurd (show (none : Option Nat) = some f from hg) (by simp)
  | 4, hg =>
    obtain rfl : f = 231 := (Option.some.inj (show some 231 = some f from hg)).symm
    obtain rfl : fn = F_posthornlaw04_WordDecodes := (AFn.code.inj (Option.some.inj (prog_231.symm.trans hA))).symm
    exact ⟨_, Tryd.func4, chk4⟩
  | 5, hg => exact absurd (show (none : Option Nat) = some f from hg) (by simp)
  | 6, hg => exact absurd (show (none : Option Nat) = some f from hg) (by simp)
  | 7, hg => exact absurd (show (none : Option Nat) = some f from hg) (by simp)
  | 8, hg => exact absurd (show (none : Option Nat) = some f from hg) (by simp)
  | 9, hg =>
    obtain rfl : f = 221 := (Option.some.inj (show some 221 = some f from hg)).symm
    obtain rfl : fn = F_posthornlaw04_alive := (AFn.code.inj (Option.some.inj (prog_221.symm.trans hA))).symm
    exact ⟨_, Tryd.func9, chk9⟩
  | 10, hg =>
    obtain rfl : f = 222 := (Option.some.inj (show some 222 = some f from hg)).symm
    obtain rfl : fn = F_word_Encode := (AFn.code.inj (Option.some.inj (prog_222.symm.trans hA))).symm
    exact ⟨_, Tryd.func10, chk10⟩
  | 11, hg => exact absurd (show (none : Option Nat) = some f from hg) (by simp)
  | 12, hg =>
    obtain rfl : f = 224 := (Option.some.inj (show some 224 = some f from hg)).symm
    obtain rfl : fn = F_word_Plain := (AFn.code.inj (Option.some.inj (prog_224.symm.trans hA))).symm
    exact ⟨_, Tryd.func12, chk12⟩
  | 13, hg => exact absurd (show (none : Option Nat) = some f from hg) (by simp)
  | 14, hg =>
    obtain rfl : f = 227 := (Option.some.inj (show some 227 = some f from hg)).symm
    obtain rfl : fn = F_word_One := (AFn.code.inj (Option.some.inj (prog_227.symm.trans hA))).symm
    exact ⟨_, Tryd.func14, chk14⟩
  | 15, hg =>
    obtain rfl : f = 228 := (Option.some.inj (show some 228 = some f from hg)).symm
    obtain rfl : fn = F_posthornref04_One := (AFn.code.inj (Option.some.inj (prog_228.symm.trans hA))).symm
    exact ⟨_, Tryd.func15, chk15⟩
  | 16, hg =>
    obtain rfl : f = 229 := (Option.some.inj (show some 229 = some f from hg)).symm
    obtain rfl : fn = F_word_Decode := (AFn.code.inj (Option.some.inj (prog_229.symm.trans hA))).symm
    exact ⟨_, Tryd.func16, chk16⟩
  | 17, hg =>
    obtain rfl : f = 230 := (Option.some.inj (show some 230 = some f from hg)).symm
    obtain rfl : fn = F_posthornref04_Decode := (AFn.code.inj (Option.some.inj (prog_230.symm.trans hA))).symm
    exact ⟨_, Tryd.func17, chk17⟩
  | 18, hg =>
    obtain rfl : f = 53 := (Option.some.inj (show some 53 = some f from hg)).symm
    obtain rfl : fn = F_utf_Valid := (AFn.code.inj (Option.some.inj (prog_53.symm.trans hA))).symm
    exact ⟨_, Tryd.func18, chk18⟩
  | 19, hg =>
    obtain rfl : f = 234 := (Option.some.inj (show some 234 = some f from hg)).symm
    obtain rfl : fn = F_bits_Encode := (AFn.code.inj (Option.some.inj (prog_234.symm.trans hA))).symm
    exact ⟨_, Tryd.func19, chk19⟩
  | 20, hg =>
    obtain rfl : f = 237 := (Option.some.inj (show some 237 = some f from hg)).symm
    obtain rfl : fn = F_word_pieces := (AFn.code.inj (Option.some.inj (prog_237.symm.trans hA))).symm
    exact ⟨_, Tryd.func20, chk20⟩
  | 21, hg =>
    obtain rfl : f = 238 := (Option.some.inj (show some 238 = some f from hg)).symm
    rw [prog_238] at hA; cases hA
  | 22, hg =>
    obtain rfl : f = 74 := (Option.some.inj (show some 74 = some f from hg)).symm
    obtain rfl : fn = F_posthornref02_Valid := (AFn.code.inj (Option.some.inj (prog_74.symm.trans hA))).symm
    exact ⟨_, Tryd.func22, chk22⟩
  | 23, hg => exact absurd (show (none : Option Nat) = some f from hg) (by simp)
  | 24, hg => exact absurd (show (none : Option Nat) = some f from hg) (by simp)
  | 25, hg =>
    obtain rfl : f = 72 := (Option.some.inj (show some 72 = some f from hg)).symm
    obtain rfl : fn = F_strings_HasPrefix := (AFn.code.inj (Option.some.inj (prog_72.symm.trans hA))).symm
    exact ⟨_, Tryd.func25, chk25⟩
  | 26, hg =>
    obtain rfl : f = 130 := (Option.some.inj (show some 130 = some f from hg)).symm
    obtain rfl : fn = F_strings_HasSuffix := (AFn.code.inj (Option.some.inj (prog_130.symm.trans hA))).symm
    exact ⟨_, Tryd.func26, chk26⟩
  | 27, hg =>
    obtain rfl : f = 66 := (Option.some.inj (show some 66 = some f from hg)).symm
    obtain rfl : fn = F_strings_Contains := (AFn.code.inj (Option.some.inj (prog_66.symm.trans hA))).symm
    exact ⟨_, Tryd.func27, chk27⟩
  | 28, hg =>
    obtain rfl : f = 56 := (Option.some.inj (show some 56 = some f from hg)).symm
    obtain rfl : fn = F_posthornref04_Has := (AFn.code.inj (Option.some.inj (prog_56.symm.trans hA))).symm
    exact ⟨_, Tryd.func28, chk28⟩
  | 29, hg =>
    obtain rfl : f = 133 := (Option.some.inj (show some 133 = some f from hg)).symm
    rw [prog_133] at hA; cases hA
  | 30, hg =>
    obtain rfl : f = 240 := (Option.some.inj (show some 240 = some f from hg)).symm
    obtain rfl : fn = F_word_lower := (AFn.code.inj (Option.some.inj (prog_240.symm.trans hA))).symm
    exact ⟨_, Tryd.func30, chk30⟩
  | 31, hg =>
    obtain rfl : f = 241 := (Option.some.inj (show some 241 = some f from hg)).symm
    obtain rfl : fn = F_bits_Decode := (AFn.code.inj (Option.some.inj (prog_241.symm.trans hA))).symm
    exact ⟨_, Tryd.func31, chk31⟩
  | 32, hg =>
    obtain rfl : f = 242 := (Option.some.inj (show some 242 = some f from hg)).symm
    obtain rfl : fn = F_word_short := (AFn.code.inj (Option.some.inj (prog_242.symm.trans hA))).symm
    exact ⟨_, Tryd.func32, chk32⟩
  | 33, hg =>
    obtain rfl : f = 215 := (Option.some.inj (show some 215 = some f from hg)).symm
    obtain rfl : fn = F_posthornref04_Parts := (AFn.code.inj (Option.some.inj (prog_215.symm.trans hA))).symm
    exact ⟨_, Tryd.func33, chk33⟩
  | 34, hg =>
    obtain rfl : f = 243 := (Option.some.inj (show some 243 = some f from hg)).symm
    obtain rfl : fn = F_posthornref01_Decode := (AFn.code.inj (Option.some.inj (prog_243.symm.trans hA))).symm
    exact ⟨_, Tryd.func34, chk34⟩
  | 35, hg =>
    obtain rfl : f = 244 := (Option.some.inj (show some 244 = some f from hg)).symm
    obtain rfl : fn = F_posthornref04_short := (AFn.code.inj (Option.some.inj (prog_244.symm.trans hA))).symm
    exact ⟨_, Tryd.func35, chk35⟩
  | 36, hg =>
    obtain rfl : f = 114 := (Option.some.inj (show some 114 = some f from hg)).symm
    obtain rfl : fn = F_posthornref04_Lower := (AFn.code.inj (Option.some.inj (prog_114.symm.trans hA))).symm
    exact ⟨_, Tryd.func36, chk36⟩
  | 37, hg =>
    obtain rfl : f = 57 := (Option.some.inj (show some 57 = some f from hg)).symm
    obtain rfl : fn = F_P_strings_Builder_WriteByte := (AFn.code.inj (Option.some.inj (prog_57.symm.trans hA))).symm
    exact ⟨_, Tryd.func37, chk37⟩
  | 38, hg =>
    obtain rfl : f = 58 := (Option.some.inj (show some 58 = some f from hg)).symm
    obtain rfl : fn = F_P_strings_Builder_WriteString := (AFn.code.inj (Option.some.inj (prog_58.symm.trans hA))).symm
    exact ⟨_, Tryd.func38, chk38⟩
  | 39, hg =>
    obtain rfl : f = 59 := (Option.some.inj (show some 59 = some f from hg)).symm
    rw [prog_59] at hA; cases hA
  | 40, hg =>
    obtain rfl : f = 69 := (Option.some.inj (show some 69 = some f from hg)).symm
    obtain rfl : fn = F_utf_Points := (AFn.code.inj (Option.some.inj (prog_69.symm.trans hA))).symm
    exact ⟨_, Tryd.func40, chk40⟩
  | 41, hg =>
    obtain rfl : f = 245 := (Option.some.inj (show some 245 = some f from hg)).symm
    obtain rfl : fn = F_bits_fits := (AFn.code.inj (Option.some.inj (prog_245.symm.trans hA))).symm
    exact ⟨_, Tryd.func41, chk41⟩
  | 42, hg =>
    obtain rfl : f = 246 := (Option.some.inj (show some 246 = some f from hg)).symm
    obtain rfl : fn = F_word_pieces_c1 := (AFn.code.inj (Option.some.inj (prog_246.symm.trans hA))).symm
    exact ⟨_, Tryd.func42, chk42⟩
  | 43, hg =>
    obtain rfl : f = 61 := (Option.some.inj (show some 61 = some f from hg)).symm
    obtain rfl : fn = F_utf_Cut := (AFn.code.inj (Option.some.inj (prog_61.symm.trans hA))).symm
    exact ⟨_, Tryd.func43, chk43⟩
  | 44, hg => exact absurd (show (none : Option Nat) = some f from hg) (by simp)
  | 45, hg =>
    obtain rfl : f = 80 := (Option.some.inj (show some 80 = some f from hg)).symm
    obtain rfl : fn = F_posthornref02_Points := (AFn.code.inj (Option.some.inj (prog_80.symm.trans hA))).symm
    exact ⟨_, Tryd.func45, chk45⟩
  | 46, hg =>
    obtain rfl : f = 75 := (Option.some.inj (show some 75 = some f from hg)).symm
    obtain rfl : fn = F_posthornref02_Next := (AFn.code.inj (Option.some.inj (prog_75.symm.trans hA))).symm
    exact ⟨_, Tryd.func46, chk46⟩
  | 47, hg => exact absurd (show (none : Option Nat) = some f from hg) (by simp)
  | 48, hg => exact absurd (show (none : Option Nat) = some f from hg) (by simp)
  | 49, hg =>
    obtain rfl : f = 249 := (Option.some.inj (show some 249 = some f from hg)).symm
    obtain rfl : fn = F_posthornref01_Sign := (AFn.code.inj (Option.some.inj (prog_249.symm.trans hA))).symm
    exact ⟨_, Tryd.func49, chk49⟩
  | 50, hg =>
    obtain rfl : f = 79 := (Option.some.inj (show some 79 = some f from hg)).symm
    obtain rfl : fn = F_internal_stringslite_HasPrefix := (AFn.code.inj (Option.some.inj (prog_79.symm.trans hA))).symm
    exact ⟨_, Tryd.func50, chk50⟩
  | 51, hg =>
    obtain rfl : f = 136 := (Option.some.inj (show some 136 = some f from hg)).symm
    obtain rfl : fn = F_internal_stringslite_HasSuffix := (AFn.code.inj (Option.some.inj (prog_136.symm.trans hA))).symm
    exact ⟨_, Tryd.func51, chk51⟩
  | 52, hg =>
    obtain rfl : f = 76 := (Option.some.inj (show some 76 = some f from hg)).symm
    obtain rfl : fn = F_strings_Index := (AFn.code.inj (Option.some.inj (prog_76.symm.trans hA))).symm
    exact ⟨_, Tryd.func52, chk52⟩
  | 53, hg => exact absurd (show (none : Option Nat) = some f from hg) (by simp)
  | 54, hg =>
    obtain rfl : f = 250 := (Option.some.inj (show some 250 = some f from hg)).symm
    obtain rfl : fn = F_bits_value := (AFn.code.inj (Option.some.inj (prog_250.symm.trans hA))).symm
    exact ⟨_, Tryd.func54, chk54⟩
  | 55, hg =>
    obtain rfl : f = 251 := (Option.some.inj (show some 251 = some f from hg)).symm
    obtain rfl : fn = F_word_digit := (AFn.code.inj (Option.some.inj (prog_251.symm.trans hA))).symm
    exact ⟨_, Tryd.func55, chk55⟩
  | 56, hg =>
    obtain rfl : f = 252 := (Option.some.inj (show some 252 = some f from hg)).symm
    obtain rfl : fn = F_posthornref01_Bare := (AFn.code.inj (Option.some.inj (prog_252.symm.trans hA))).symm
    exact ⟨_, Tryd.func56, chk56⟩
  | 57, hg =>
    obtain rfl : f = 253 := (Option.some.inj (show some 253 = some f from hg)).symm
    obtain rfl : fn = F_posthornref01_Value := (AFn.code.inj (Option.some.inj (prog_253.symm.trans hA))).symm
    exact ⟨_, Tryd.func57, chk57⟩
  | 58, hg =>
    obtain rfl : f = 254 := (Option.some.inj (show some 254 = some f from hg)).symm
    obtain rfl : fn = F_posthornref01_tail := (AFn.code.inj (Option.some.inj (prog_254.symm.trans hA))).symm
    exact ⟨_, Tryd.func58, chk58⟩
  | 59, hg =>
    obtain rfl : f = 255 := (Option.some.inj (show some 255 = some f from hg)).symm
    obtain rfl : fn = F_posthornref04_value := (AFn.code.inj (Option.some.inj (prog_255.symm.trans hA))).symm
    exact ⟨_, Tryd.func59, chk59⟩
  | 60, hg =>
    obtain rfl : f = 73 := (Option.some.inj (show some 73 = some f from hg)).symm
    rw [prog_73] at hA; cases hA
  | 61, hg =>
    obtain rfl : f = 77 := (Option.some.inj (show some 77 = some f from hg)).symm
    obtain rfl : fn = F_utf_Next := (AFn.code.inj (Option.some.inj (prog_77.symm.trans hA))).symm
    exact ⟨_, Tryd.func61, chk61⟩
  | 62, hg => exact absurd (show (none : Option Nat) = some f from hg) (by simp)
  | 63, hg =>
    obtain rfl : f = 81 := (Option.some.inj (show some 81 = some f from hg)).symm
    obtain rfl : fn = F_posthornref02_Put := (AFn.code.inj (Option.some.inj (prog_81.symm.trans hA))).symm
    exact ⟨_, Tryd.func63, chk63⟩
  | 64, hg =>
    obtain rfl : f = 82 := (Option.some.inj (show some 82 = some f from hg)).symm
    rw [prog_82] at hA; cases hA
  | 65, hg => exact absurd (show (none : Option Nat) = some f from hg) (by simp)
  | 66, hg => exact absurd (show (none : Option Nat) = some f from hg) (by simp)
  | 67, hg =>
    obtain rfl : f = 78 := (Option.some.inj (show some 78 = some f from hg)).symm
    rw [prog_78] at hA; cases hA
  | 68, hg => exact absurd (show (none : Option Nat) = some f from hg) (by simp)
  | 69, hg =>
    obtain rfl : f = 83 := (Option.some.inj (show some 83 = some f from hg)).symm
    obtain rfl : fn = F_utf_isPoint := (AFn.code.inj (Option.some.inj (prog_83.symm.trans hA))).symm
    exact ⟨_, Tryd.func69, chk69⟩
  | 70, hg => exact absurd (show (none : Option Nat) = some f from hg) (by simp)
  | 71, hg =>
    obtain rfl : f = 85 := (Option.some.inj (show some 85 = some f from hg)).symm
    obtain rfl : fn = F_posthornref02_Point := (AFn.code.inj (Option.some.inj (prog_85.symm.trans hA))).symm
    exact ⟨_, Tryd.func71, chk71⟩
  | n + 72, hg => exact absurd (show (none : Option Nat) = some f from hg) (by simp)
set_option maxRecDepth 100000 in
theorem prim_ok : ∀ (f' : FuncId) (f : Nat) (p : List PV → Option PV), gm f' = some f → prog f = some (.prim p) → PrimOK Tryd.prog gm f' p := by
  intro f' f p hg hA
  match f', hg with
  | 0, hg => exact absurd (show (none : Option Nat) = some f from hg) (by simp)
  | 1, hg => exact absurd (show (none : Option Nat) = some f from hg) (by simp)
  | 2, hg => exact absurd (show (none : Option Nat) = some f from hg) (by simp)
  | 3, hg => exact absurd (show (none : Option Nat) = some f from hg) (by simp)
  | 4, hg =>
    obtain rfl : f = 231 := (Option.some.inj (show some 231 = some f from hg)).symm
    rw [prog_231] at hA; cases hA
  | 5, hg => exact absurd (show (none : Option Nat) = some f from hg) (by simp)
  | 6, hg => exact absurd (show (none : Option Nat) = some f from hg) (by simp)
  | 7, hg => exact absurd (show (none : Option Nat) = some f from hg) (by simp)
  | 8, hg => exact absurd (show (none : Option Nat) = some f from hg) (by simp)
  | 9, hg =>
    obtain rfl : f = 221 := (Option.some.inj (show some 221 = some f from hg)).symm
    rw [prog_221] at hA; cases hA
  | 10, hg =>
    obtain rfl : f = 222 := (Option.some.inj (show some 222 = some f from hg)).symm
    rw [prog_222] at hA; cases hA
  | 11, hg => exact absurd (show (none : Option Nat) = some f from hg) (by simp)
  | 12, hg =>
    obtain rfl : f = 224 := (Option.some.inj (show some 224 = some f from hg)).symm
    rw [prog_224] at hA; cases hA
  | 13, hg => exact absurd (show (none : Option Nat) = some f from hg) (by simp)
  | 14, hg =>
    obtain rfl : f = 227 := (Option.some.inj (show some 227 = some f from hg)).symm
    rw [prog_227] at hA; cases hA
  | 15, hg =>
    obtain rfl : f = 228 := (Option.some.inj (show some 228 = some f from hg)).symm
    rw [prog_228] at hA; cases hA
  | 16, hg =>
    obtain rfl : f = 229 := (Option.some.inj (show some 229 = some f from hg)).symm
    rw [prog_229] at hA; cases hA
  | 17, hg =>
    obtain rfl : f = 230 := (Option.some.inj (show some 230 = some f from hg)).symm
    rw [prog_230] at hA; cases hA
  | 18, hg =>
    obtain rfl : f = 53 := (Option.some.inj (show some 53 = some f from hg)).symm
    rw [prog_53] at hA; cases hA
  | 19, hg =>
    obtain rfl : f = 234 := (Option.some.inj (show some 234 = some f from hg)).symm
    rw [prog_234] at hA; cases hA
  | 20, hg =>
    obtain rfl : f = 237 := (Option.some.inj (show some 237 = some f from hg)).symm
    rw [prog_237] at hA; cases hA
  | 21, hg =>
    obtain rfl : f = 238 := (Option.some.inj (show some 238 = some f from hg)).symm
    obtain rfl : p = pStrJoin := (AFn.prim.inj (Option.some.inj (prog_238.symm.trans hA))).symm
    exact primStrJoin (g := gm) Tryd.lays156 Tryd.Builder_Extra_156 Tryd.func21 (by kernel_rfl) (by decide)
  | 22, hg =>
    obtain rfl : f = 74 := (Option.some.inj (show some 74 = some f from hg)).symm
    rw [prog_74] at hA; cases hA
  | 23, hg => exact absurd (show (none : Option Nat) = some f from hg) (by simp)
  | 24, hg => exact absurd (show (none : Option Nat) = some f from hg) (by simp)
  | 25, hg =>
    obtain rfl : f = 72 := (Option.some.inj (show some 72 = some f from hg)).symm
    rw [prog_72] at hA; cases hA
  | 26, hg =>
    obtain rfl : f = 130 := (Option.some.inj (show some 130 = some f from hg)).symm
    rw [prog_130] at hA; cases hA
  | 27, hg =>
    obtain rfl : f = 66 := (Option.some.inj (show some 66 = some f from hg)).symm
    rw [prog_66] at hA; cases hA
  | 28, hg =>
    obtain rfl : f = 56 := (Option.some.inj (show some 56 = some f from hg)).symm
    rw [prog_56] at hA; cases hA
  | 29, hg =>
    obtain rfl : f = 133 := (Option.some.inj (show some 133 = some f from hg)).symm
    obtain rfl : p = pStrSplit := (AFn.prim.inj (Option.some.inj (prog_133.symm.trans hA))).symm
    exact primStrSplit (g := gm) { Tryd.laysM146 with } Tryd.laysM146.i9 (fun κ h => h) Tryd.func29 (by kernel_rfl) (by decide)
  | 30, hg =>
    obtain rfl : f = 240 := (Option.some.inj (show some 240 = some f from hg)).symm
    rw [prog_240] at hA; cases hA
  | 31, hg =>
    obtain rfl : f = 241 := (Option.some.inj (show some 241 = some f from hg)).symm
    rw [prog_241] at hA; cases hA
  | 32, hg =>
    obtain rfl : f = 242 := (Option.some.inj (show some 242 = some f from hg)).symm
    rw [prog_242] at hA; cases hA
  | 33, hg =>
    obtain rfl : f = 215 := (Option.some.inj (show some 215 = some f from hg)).symm
    rw [prog_215] at hA; cases hA
  | 34, hg =>
    obtain rfl : f = 243 := (Option.some.inj (show some 243 = some f from hg)).symm
    rw [prog_243] at hA; cases hA
  | 35, hg =>
    obtain rfl : f = 244 := (Option.some.inj (show some 244 = some f from hg)).symm
    rw [prog_244] at hA; cases hA
  | 36, hg =>
    obtain rfl : f = 114 := (Option.some.inj (show some 114 = some f from hg)).symm
    rw [prog_114] at hA; cases hA
  | 37, hg =>
    obtain rfl : f = 57 := (Option.some.inj (show some 57 = some f from hg)).symm
    rw [prog_57] at hA; cases hA
  | 38, hg =>
    obtain rfl : f = 58 := (Option.some.inj (show some 58 = some f from hg)).symm
    rw [prog_58] at hA; cases hA
  | 39, hg =>
    obtain rfl : f = 59 := (Option.some.inj (show some 59 = some f from hg)).symm
    rw [prog_59] at hA; cases hA
  | 40, hg =>
    obtain rfl : f = 69 := (Option.some.inj (show some 69 = some f from hg)).symm
    rw [prog_69] at hA; cases hA
  | 41, hg =>
    obtain rfl : f = 245 := (Option.some.inj (show some 245 = some f from hg)).symm
    rw [prog_245] at hA; cases hA
  | 42, hg =>
    obtain rfl : f = 246 := (Option.some.inj (show some 246 = some f from hg)).symm
    rw [prog_246] at hA; cases hA
  | 43, hg =>
    obtain rfl : f = 61 := (Option.some.inj (show some 61 = some f from hg)).symm
    rw [prog_61] at hA; cases hA
  | 44, hg => exact absurd (show (none : Option Nat) = some f from hg) (by simp)
  | 45, hg =>
    obtain rfl : f = 80 := (Option.some.inj (show some 80 = some f from hg)).symm
    rw [prog_80] at hA; cases hA
  | 46, hg =>
    obtain rfl : f = 75 := (Option.some.inj (show some 75 = some f from hg)).symm
    rw [prog_75] at hA; cases hA
  | 47, hg => exact absurd (show (none : Option Nat) = some f from hg) (by simp)
  | 48, hg => exact absurd (show (none : Option Nat) = some f from hg) (by simp)
  | 49, hg =>
    obtain rfl : f = 249 := (Option.some.inj (show some 249 = some f from hg)).symm
    rw [prog_249] at hA; cases hA
  | 50, hg =>
    obtain rfl : f = 79 := (Option.some.inj (show some 79 = some f from hg)).symm
    rw [prog_79] at hA; cases hA
  | 51, hg =>
    obtain rfl : f = 136 := (Option.some.inj (show some 136 = some f from hg)).symm
    rw [prog_136] at hA; cases hA
  | 52, hg =>
    obtain rfl : f = 76 := (Option.some.inj (show some 76 = some f from hg)).symm
    rw [prog_76] at hA; cases hA
  | 53, hg => exact absurd (show (none : Option Nat) = some f from hg) (by simp)
  | 54, hg =>
    obtain rfl : f = 250 := (Option.some.inj (show some 250 = some f from hg)).symm
    rw [prog_250] at hA; cases hA
  | 55, hg =>
    obtain rfl : f = 251 := (Option.some.inj (show some 251 = some f from hg)).symm
    rw [prog_251] at hA; cases hA
  | 56, hg =>
    obtain rfl : f = 252 := (Option.some.inj (show some 252 = some f from hg)).symm
    rw [prog_252] at hA; cases hA
  | 57, hg =>
    obtain rfl : f = 253 := (Option.some.inj (show some 253 = some f from hg)).symm
    rw [prog_253] at hA; cases hA
  | 58, hg =>
    obtain rfl : f = 254 := (Option.some.inj (show some 254 = some f from hg)).symm
    rw [prog_254] at hA; cases hA
  | 59, hg =>
    obtain rfl : f = 255 := (Option.some.inj (show some 255 = some f from hg)).symm
    rw [prog_255] at hA; cases hA
  | 60, hg =>
    obtain rfl : f = 73 := (Option.some.inj (show some 73 = some f from hg)).symm
    rw [prog_73] at hA; cases hA
  | 61, hg =>
    obtain rfl : f = 77 := (Option.some.inj (show some 77 = some f from hg)).symm
    rw [prog_77] at hA; cases hA
  | 62, hg => exact absurd (show (none : Option Nat) = some f from hg) (by simp)
  | 63, hg =>
    obtain rfl : f = 81 := (Option.some.inj (show some 81 = some f from hg)).symm
    rw [prog_81] at hA; cases hA
  | 64, hg =>
    obtain rfl : f = 82 := (Option.some.inj (show some 82 = some f from hg)).symm
    obtain rfl : p = pStrIndex := (AFn.prim.inj (Option.some.inj (prog_82.symm.trans hA))).symm
    exact primStrIndex (g := gm) (ρ := Tryd.laysM219_ren) { Tryd.laysM219 with } (fun κ h => h) Tryd.func64 (by kernel_rfl) (by decide)
  | 65, hg => exact absurd (show (none : Option Nat) = some f from hg) (by simp)
  | 66, hg => exact absurd (show (none : Option Nat) = some f from hg) (by simp)
  | 67, hg =>
    obtain rfl : f = 78 := (Option.some.inj (show some 78 = some f from hg)).symm
    obtain rfl : p = pStrIndexByte := (AFn.prim.inj (Option.some.inj (prog_78.symm.trans hA))).symm
    exact primStrIndexByte (g := gm) Tryd.lays137 Tryd.func67 (by kernel_rfl) (by decide)
  | 68, hg => exact absurd (show (none : Option Nat) = some f from hg) (by simp)
  | 69, hg =>
    obtain rfl : f = 83 := (Option.some.inj (show some 83 = some f from hg)).symm
    rw [prog_83] at hA; cases hA
  | 70, hg => exact absurd (show (none : Option Nat) = some f from hg) (by simp)
  | 71, hg =>
    obtain rfl : f = 85 := (Option.some.inj (show some 85 = some f from hg)).symm
    rw [prog_85] at hA; cases hA
  | n + 72, hg => exact absurd (show (none : Option Nat) = some f from hg) (by simp)
set_option maxRecDepth 100000 in
theorem primS_ok : ∀ (f' : FuncId) (f : Nat) (p : List PV → List (List PV) → Option (PV × Upd)), gm f' = some f → prog f = some (.primS p) → PrimSOK Tryd.prog gm f' p := by
  intro f' f p hg hA
  match f', hg with
  | 0, hg => exact absurd (show (none : Option Nat) = some f from hg) (by simp)
  | 1, hg => exact absurd (show (none : Option Nat) = some f from hg) (by simp)
  | 2, hg => exact absurd (show (none : Option Nat) = some f from hg) (by simp)
  | 3, hg => exact absurd (show (none : Option Nat) = some f from hg) (by simp)
  | 4, hg =>
    obtain rfl : f = 231 := (Option.some.inj (show some 231 = some f from hg)).symm
    rw [prog_231] at hA; cases hA
  | 5, hg => exact absurd (show (none : Option Nat) = some f from hg) (by simp)
  | 6, hg => exact absurd (show (none : Option Nat) = some f from hg) (by simp)
  | 7, hg => exact absurd (show (none : Option Nat) = some f from hg) (by simp)
  | 8, hg => exact absurd (show (none : Option Nat) = some f from hg) (by simp)
  | 9, hg =>
    obtain rfl : f = 221 := (Option.some.inj (show some 221 = some f from hg)).symm
    rw [prog_221] at hA; cases hA
  | 10, hg =>
    obtain rfl : f = 222 := (Option.some.inj (show some 222 = some f from hg)).symm
    rw [prog_222] at hA; cases hA
  | 11, hg => exact absurd (show (none : Option Nat) = some f from hg) (by simp)
  | 12, hg =>
    obtain rfl : f = 224 := (Option.some.inj (show some 224 = some f from hg)).symm
    rw [prog_224] at hA; cases hA
  | 13, hg => exact absurd (show (none : Option Nat) = some f from hg) (by simp)
  | 14, hg =>
    obtain rfl : f = 227 := (Option.some.inj (show some 227 = some f from hg)).symm
    rw [prog_227] at hA; cases hA
  | 15, hg =>
    obtain rfl : f = 228 := (Option.some.inj (show some 228 = some f from hg)).symm
    rw [prog_228] at hA; cases hA
  | 16, hg =>
    obtain rfl : f = 229 := (Option.some.inj (show some 229 = some f from hg)).symm
    rw [prog_229] at hA; cases hA
  | 17, hg =>
    obtain rfl : f = 230 := (Option.some.inj (show some 230 = some f from hg)).symm
    rw [prog_230] at hA; cases hA
  | 18, hg =>
    obtain rfl : f = 53 := (Option.some.inj (show some 53 = some f from hg)).symm
    rw [prog_53] at hA; cases hA
  | 19, hg =>
    obtain rfl : f = 234 := (Option.some.inj (show some 234 = some f from hg)).symm
    rw [prog_234] at hA; cases hA
  | 20, hg =>
    obtain rfl : f = 237 := (Option.some.inj (show some 237 = some f from hg)).symm
    rw [prog_237] at hA; cases hA
  | 21, hg =>
    obtain rfl : f = 238 := (Option.some.inj (show some 238 = some f from hg)).symm
    rw [prog_238] at hA; cases hA
  | 22, hg =>
    obtain rfl : f = 74 := (Option.some.inj (show some 74 = some f from hg)).symm
    rw [prog_74] at hA; cases hA
  | 23, hg => exact absurd (show (none : Option Nat) = some f from hg) (by simp)
  | 24, hg => exact absurd (show (none : Option Nat) = some f from hg) (by simp)
  | 25, hg =>
    obtain rfl : f = 72 := (Option.some.inj (show some 72 = some f from hg)).symm
    rw [prog_72] at hA; cases hA
  | 26, hg =>
    obtain rfl : f = 130 := (Option.some.inj (show some 130 = some f from hg)).symm
    rw [prog_130] at hA; cases hA
  | 27, hg =>
    obtain rfl : f = 66 := (Option.some.inj (show some 66 = some f from hg)).symm
    rw [prog_66] at hA; cases hA
  | 28, hg =>
    obtain rfl : f = 56 := (Option.some.inj (show some 56 = some f from hg)).symm
    rw [prog_56] at hA; cases hA
  | 29, hg =>
    obtain rfl : f = 133 := (Option.some.inj (show some 133 = some f from hg)).symm
    rw [prog_133] at hA; cases hA
  | 30, hg =>
    obtain rfl : f = 240 := (Option.some.inj (show some 240 = some f from hg)).symm
    rw [prog_240] at hA; cases hA
  | 31, hg =>
    obtain rfl : f = 241 := (Option.some.inj (show some 241 = some f from hg)).symm
    rw [prog_241] at hA; cases hA
  | 32, hg =>
    obtain rfl : f = 242 := (Option.some.inj (show some 242 = some f from hg)).symm
    rw [prog_242] at hA; cases hA
  | 33, hg =>
    obtain rfl : f = 215 := (Option.some.inj (show some 215 = some f from hg)).symm
    rw [prog_215] at hA; cases hA
  | 34, hg =>
    obtain rfl : f = 243 := (Option.some.inj (show some 243 = some f from hg)).symm
    rw [prog_243] at hA; cases hA
  | 35, hg =>
    obtain rfl : f = 244 := (Option.some.inj (show some 244 = some f from hg)).symm
    rw [prog_244] at hA; cases hA
  | 36, hg =>
    obtain rfl : f = 114 := (Option.some.inj (show some 114 = some f from hg)).symm
    rw [prog_114] at hA; cases hA
  | 37, hg =>
    obtain rfl : f = 57 := (Option.some.inj (show some 57 = some f from hg)).symm
    rw [prog_57] at hA; cases hA
  | 38, hg =>
    obtain rfl : f = 58 := (Option.some.inj (show some 58 = some f from hg)).symm
    rw [prog_58] at hA; cases hA
  | 39, hg =>
    obtain rfl : f = 59 := (Option.some.inj (show some 59 = some f from hg)).symm
    obtain rfl : p = pBuilderString := (AFn.primS.inj (Option.some.inj (prog_59.symm.trans hA))).symm
    exact primBuilderString (g := gm) Tryd.lays169 Tryd.Builder_Extra_169 rfl Tryd.func39 (by kernel_rfl) (by decide)
  | 40, hg =>
    obtain rfl : f = 69 := (Option.some.inj (show some 69 = some f from hg)).symm
    rw [prog_69] at hA; cases hA
  | 41, hg =>
    obtain rfl : f = 245 := (Option.some.inj (show some 245 = some f from hg)).symm
    rw [prog_245] at hA; cases hA
  | 42, hg =>
    obtain rfl : f = 246 := (Option.some.inj (show some 246 = some f from hg)).symm
    rw [prog_246] at hA; cases hA
  | 43, hg =>
    obtain rfl : f = 61 := (Option.some.inj (show some 61 = some f from hg)).symm
    rw [prog_61] at hA; cases hA
  | 44, hg => exact absurd (show (none : Option Nat) = some f from hg) (by simp)
  | 45, hg =>
    obtain rfl : f = 80 := (Option.some.inj (show some 80 = some f from hg)).symm
    rw [prog_80] at hA; cases hA
  | 46, hg =>
    obtain rfl : f = 75 := (Option.some.inj (show some 75 = some f from hg)).symm
    rw [prog_75] at hA; cases hA
  | 47, hg => exact absurd (show (none : Option Nat) = some f from hg) (by simp)
  | 48, hg => exact absurd (show (none : Option Nat) = some f from hg) (by simp)
  | 49, hg =>
    obtain rfl : f = 249 := (Option.some.inj (show some 249 = some f from hg)).symm
    rw [prog_249] at hA; cases hA
  | 50, hg =>
    obtain rfl : f = 79 := (Option.some.inj (show some 79 = some f from hg)).symm
    rw [prog_79] at hA; cases hA
  | 51, hg =>
    obtain rfl : f = 136 := (Option.some.inj (show some 136 = some f from hg)).symm
    rw [prog_136] at hA; cases hA
  | 52, hg =>
    obtain rfl : f = 76 := (Option.some.inj (show some 76 = some f from hg)).symm
    rw [prog_76] at hA; cases hA
  | 53, hg => exact absurd (show (none : Option Nat) = some f from hg) (by simp)
  | 54, hg =>
    obtain rfl : f = 250 := (Option.some.inj (show some 250 = some f from hg)).symm
    rw [prog_250] at hA; cases hA
  | 55, hg =>
    obtain rfl : f = 251 := (Option.some.inj (show some 251 = some f from hg)).symm
    rw [prog_251] at hA; cases hA
  | 56, hg =>
    obtain rfl : f = 252 := (Option.some.inj (show some 252 = some f from hg)).symm
    rw [prog_252] at hA; cases hA
  | 57, hg =>
    obtain rfl : f = 253 := (Option.some.inj (show some 253 = some f from hg)).symm
    rw [prog_253] at hA; cases hA
  | 58, hg =>
    obtain rfl : f = 254 := (Option.some.inj (show some 254 = some f from hg)).symm
    rw [prog_254] at hA; cases hA
  | 59, hg =>
    obtain rfl : f = 255 := (Option.some.inj (show some 255 = some f from hg)).symm
    rw [prog_255] at hA; cases hA
  | 60, hg =>
    obtain rfl : f = 73 := (Option.some.inj (show some 73 = some f from hg)).symm
    obtain rfl : p = pCopyCheck := (AFn.primS.inj (Option.some.inj (prog_73.symm.trans hA))).symm
    exact primCopyCheck (g := gm) Tryd.laysCC Tryd.Builder_X72_CC rfl Tryd.func60 (by kernel_rfl) (by decide)
  | 61, hg =>
    obtain rfl : f = 77 := (Option.some.inj (show some 77 = some f from hg)).symm
    rw [prog_77] at hA; cases hA
  | 62, hg => exact absurd (show (none : Option Nat) = some f from hg) (by simp)
  | 63, hg =>
    obtain rfl : f = 81 := (Option.some.inj (show some 81 = some f from hg)).symm
    rw [prog_81] at hA; cases hA
  | 64, hg =>
    obtain rfl : f = 82 := (Option.some.inj (show some 82 = some f from hg)).symm
    rw [prog_82] at hA; cases hA
  | 65, hg => exact absurd (show (none : Option Nat) = some f from hg) (by simp)
  | 66, hg => exact absurd (show (none : Option Nat) = some f from hg) (by simp)
  | 67, hg =>
    obtain rfl : f = 78 := (Option.some.inj (show some 78 = some f from hg)).symm
    rw [prog_78] at hA; cases hA
  | 68, hg => exact absurd (show (none : Option Nat) = some f from hg) (by simp)
  | 69, hg =>
    obtain rfl : f = 83 := (Option.some.inj (show some 83 = some f from hg)).symm
    rw [prog_83] at hA; cases hA
  | 70, hg => exact absurd (show (none : Option Nat) = some f from hg) (by simp)
  | 71, hg =>
    obtain rfl : f = 85 := (Option.some.inj (show some 85 = some f from hg)).symm
    rw [prog_85] at hA; cases hA
  | n + 72, hg => exact absurd (show (none : Option Nat) = some f from hg) (by simp)
theorem linked : Linked Tryd.prog gm prog := ⟨code_ok, prim_ok, primS_ok, by kernel_rfl⟩
end Go.Ab.YtknhnghgmhhjhaaDoor
