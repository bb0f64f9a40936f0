/- The laying of copyCheck. -/
import Derived.KernelRfl
import Derived.Test.YtiiedcmkmnfdiaaDoorA5
import Derived.Test.YtiiedcmkmnfdiaaDoorProg
import Derived.Test.YtiiedcmkmnfdiaaDoorA3
import Derived.Test.YtiiedcmkmnfdiaaDoorShelf
namespace Go.Proofs
open Go.Shelf
def Tryd.laysCC_ren : Go.Shelf.Ren := ⟨fun | 240 => 48 | 276 => 60 | n => n, fun | 4 => 4 | 70 => 62 | 72 => 64 | 37 => 22 | 164 => 89 | n => n, fun | n => n⟩
theorem Tryd.laysCC : CCLay Tryd.prog Tryd.laysCC_ren := {
  mixed := by kernel_rfl
  f240 := Tryd.func48.trans (congrArg some (by kernel_rfl))
  f276 := Tryd.func60.trans (congrArg some (by kernel_rfl))
  t4 := Tryd.underlying4
  a4 := Tryd.isAgg4
  z4 := Tryd.sizeOf4
  v4 := Tryd.zeroValue4
  t70 := Tryd.underlying62
  a70 := Tryd.isAgg62
  z70 := Tryd.sizeOf62
  v70 := Tryd.zeroValue62
  t72 := Tryd.underlying64
  a72 := Tryd.isAgg64
  z72 := Tryd.sizeOf64
  v72 := Tryd.zeroValue64
  t164 := Tryd.underlying89
  a164 := Tryd.isAgg89
  z164 := Tryd.sizeOf89
  v164 := Tryd.zeroValue89 }
theorem Tryd.Builder_X72_CC : Builder.X72 Tryd.prog Tryd.laysCC_ren := {
  sizeBuilder := by kernel_rfl
  liesBuilder := by kernel_rfl }
end Go.Proofs

/-
  The abstract program belongs to this seat's program.
-/
namespace Go.Ab.YtiiedcmkmnfdiaaDoor
open Go.Proofs Go.Shelf
set_option linter.unusedVariables false
set_option maxRecDepth 20000
def gfn : FuncId → Option Nat := fun f => match f with
  | 4 => some 94
  | 6 => some 40
  | 7 => some 89
  | 9 => some 55
  | 11 => some 92
  | 12 => some 47
  | 13 => some 48
  | 14 => some 43
  | 15 => some 96
  | 16 => some 69
  | 17 => some 97
  | 21 => some 70
  | 22 => some 71
  | 23 => some 72
  | 24 => some 50
  | 28 => some 60
  | 29 => some 61
  | 30 => some 57
  | 31 => some 58
  | 32 => some 59
  | 33 => some 101
  | 34 => some 77
  | 35 => some 102
  | 36 => some 32
  | 39 => some 78
  | 40 => some 79
  | 41 => some 64
  | 42 => some 65
  | 43 => some 66
  | 47 => some 53
  | 48 => some 73
  | 49 => some 103
  | 50 => some 83
  | 58 => some 76
  | 61 => some 104
  | 62 => some 108
  | 67 => some 82
  | 68 => some 105
  | 69 => some 106
  | 70 => some 107
  | 73 => some 109
  | _ => none
def gm : GMap := { fn := gfn, tB := 64, tU := 5, inv := fun κ => ∃ m, κ.C (Tryd.laysM185_ren.g 1) 0 = some (.int .i64 m), mono := fun _ _ h ⟨m, hm⟩ => ⟨m, h _ _ _ hm⟩, glob := fun _ => none, globOK := fun _ _ _ _ h => by cases h }
theorem chk4 : chkFn Tryd.prog gm Tryd.f4 F_posthornlaw10_SheetBack = true := by kernel_rfl
theorem chk6 : chkFn Tryd.prog gm Tryd.f6 F_posthornlaw10_alive = true := by kernel_rfl
theorem chk7 : chkFn Tryd.prog gm Tryd.f7 F_sheet_Read = true := by kernel_rfl
theorem chk9 : chkFn Tryd.prog gm Tryd.f9 F_sheet_One = true := by kernel_rfl
theorem chk11 : chkFn Tryd.prog gm Tryd.f11 F_posthornref10_Same = true := by kernel_rfl
theorem chk12 : chkFn Tryd.prog gm Tryd.f12 F_posthornlaw10_Great = true := by kernel_rfl
theorem chk13 : chkFn Tryd.prog gm Tryd.f13 F_sheet_Write = true := by kernel_rfl
theorem chk14 : chkFn Tryd.prog gm Tryd.f14 F_sheet_Escape = true := by kernel_rfl
theorem chk15 : chkFn Tryd.prog gm Tryd.f15 F_sheet_unfold = true := by kernel_rfl
theorem chk16 : chkFn Tryd.prog gm Tryd.f16 F_utf_Points = true := by kernel_rfl
theorem chk17 : chkFn Tryd.prog gm Tryd.f17 F_sheet_lines = true := by kernel_rfl
theorem chk21 : chkFn Tryd.prog gm Tryd.f21 F_sheet_cut = true := by kernel_rfl
theorem chk22 : chkFn Tryd.prog gm Tryd.f22 F_sheet_upper = true := by kernel_rfl
theorem chk23 : chkFn Tryd.prog gm Tryd.f23 F_strings_HasPrefix = true := by kernel_rfl
theorem chk24 : chkFn Tryd.prog gm Tryd.f24 F_sheet_Right = true := by kernel_rfl
theorem chk28 : chkFn Tryd.prog gm Tryd.f28 F_sheet_line = true := by kernel_rfl
theorem chk29 : chkFn Tryd.prog gm Tryd.f29 F_utf_Cut = true := by kernel_rfl
theorem chk30 : chkFn Tryd.prog gm Tryd.f30 F_P_strings_Builder_WriteByte = true := by kernel_rfl
theorem chk31 : chkFn Tryd.prog gm Tryd.f31 F_P_strings_Builder_WriteString = true := by kernel_rfl
theorem chk33 : chkFn Tryd.prog gm Tryd.f33 F_bytes_ReplaceAll = true := by kernel_rfl
theorem chk34 : chkFn Tryd.prog gm Tryd.f34 F_utf_Next = true := by kernel_rfl
theorem chk35 : chkFn Tryd.prog gm Tryd.f35 F_sheet_lines_c1 = true := by kernel_rfl
theorem chk40 : chkFn Tryd.prog gm Tryd.f40 F_internal_stringslite_HasPrefix = true := by kernel_rfl
theorem chk41 : chkFn Tryd.prog gm Tryd.f41 F_sheet_isName = true := by kernel_rfl
theorem chk42 : chkFn Tryd.prog gm Tryd.f42 F_sheet_isText = true := by kernel_rfl
theorem chk43 : chkFn Tryd.prog gm Tryd.f43 F_strings_Contains = true := by kernel_rfl
theorem chk47 : chkFn Tryd.prog gm Tryd.f47 F_utf_Valid = true := by kernel_rfl
theorem chk49 : chkFn Tryd.prog gm Tryd.f49 F_bytes_Replace = true := by kernel_rfl
theorem chk50 : chkFn Tryd.prog gm Tryd.f50 F_utf_isPoint = true := by kernel_rfl
theorem chk58 : chkFn Tryd.prog gm Tryd.f58 F_strings_Index = true := by kernel_rfl
theorem chk61 : chkFn Tryd.prog gm Tryd.f61 F_bytes_Count = true := by kernel_rfl
theorem chk62 : chkFn Tryd.prog gm Tryd.f62 F_unicode_utf8_DecodeRune = true := by kernel_rfl
theorem chk68 : chkFn Tryd.prog gm Tryd.f68 F_unicode_utf8_RuneCount = true := by kernel_rfl
set_option maxRecDepth 100000 in
theorem code_ok : ∀ (f' : FuncId) (f : Nat) (fn : ACFn), gm f' = some f → prog f = some (.code fn) → ∃ pf, Tryd.prog.funcs[f']? = some pf ∧ chkFn Tryd.prog gm pf fn = true := by
  intro f' f fn hg hA
  match f', hg with
  | 0, hg => exact absurd (show (none : Option Nat) = some f from hg) (by simp)
  | 1, hg => exact absurd (show (none : Option Nat) = some f from hg) (by simp)
  | 2, hg => exact absurd (show (none : Option Nat) = some f from hg) (by simp)
  | 3, hg => exact absurd (show (none : Option Nat) = some f from hg) (by simp)
  | 4, hg =>
    obtain rfl : f = 94 := (Option.some.inj (show some 94 = some f from hg)).symm
    obtain rfl : fn = F_posthornlaw10_SheetBack := (AFn.code.inj (Option.some.inj (prog_94.symm.trans hA))).symm
    exact ⟨_, Tryd.func4, chk4⟩
  | 5, hg => exact absurd (show (none : Option Nat) = some f from hg) (by simp)
  | 6, hg =>
    obtain rfl : f = 40 := (Option.some.inj (show some 40 = some f from hg)).symm
    obtain rfl : fn = F_posthornlaw10_alive := (AFn.code.inj (Option.some.inj (prog_40.symm.trans hA))).symm
    exact ⟨_, Tryd.func6, chk6⟩
  | 7, hg =>
    obtain rfl : f = 89 := (Option.some.inj (show some 89 = some f from hg)).symm
    obtain rfl : fn = F_sheet_Read := (AFn.code.inj (Option.some.inj (prog_89.symm.trans hA))).symm
    exact ⟨_, Tryd.func7, chk7⟩
  | 8, hg => exact absurd (show (none : Option Nat) = some f from hg) (by simp)
  | 9, hg =>
    obtain rfl : f = 55 := (Option.some.inj (show some 55 = some f from hg)).symm
    obtain rfl : fn = F_sheet_One := (AFn.code.inj (Option.some.inj (prog_55.symm.trans hA))).symm
    exact ⟨_, Tryd.func9, chk9⟩
  | 10, hg => exact absurd (show (none : Option Nat) = some f from hg) (by simp)
  | 11, hg =>
    obtain rfl : f = 92 := (Option.some.inj (show some 92 = some f from hg)).symm
    obtain rfl : fn = F_posthornref10_Same := (AFn.code.inj (Option.some.inj (prog_92.symm.trans hA))).symm
    exact ⟨_, Tryd.func11, chk11⟩
  | 12, hg =>
    obtain rfl : f = 47 := (Option.some.inj (show some 47 = some f from hg)).symm
    obtain rfl : fn = F_posthornlaw10_Great := (AFn.code.inj (Option.some.inj (prog_47.symm.trans hA))).symm
    exact ⟨_, Tryd.func12, chk12⟩
  | 13, hg =>
    obtain rfl : f = 48 := (Option.some.inj (show some 48 = some f from hg)).symm
    obtain rfl : fn = F_sheet_Write := (AFn.code.inj (Option.some.inj (prog_48.symm.trans hA))).symm
    exact ⟨_, Tryd.func13, chk13⟩
  | 14, hg =>
    obtain rfl : f = 43 := (Option.some.inj (show some 43 = some f from hg)).symm
    obtain rfl : fn = F_sheet_Escape := (AFn.code.inj (Option.some.inj (prog_43.symm.trans hA))).symm
    exact ⟨_, Tryd.func14, chk14⟩
  | 15, hg =>
    obtain rfl : f = 96 := (Option.some.inj (show some 96 = some f from hg)).symm
    obtain rfl : fn = F_sheet_unfold := (AFn.code.inj (Option.some.inj (prog_96.symm.trans hA))).symm
    exact ⟨_, Tryd.func15, chk15⟩
  | 16, hg =>
    obtain rfl : f = 69 := (Option.some.inj (show some 69 = some f from hg)).symm
    obtain rfl : fn = F_utf_Points := (AFn.code.inj (Option.some.inj (prog_69.symm.trans hA))).symm
    exact ⟨_, Tryd.func16, chk16⟩
  | 17, hg =>
    obtain rfl : f = 97 := (Option.some.inj (show some 97 = some f from hg)).symm
    obtain rfl : fn = F_sheet_lines := (AFn.code.inj (Option.some.inj (prog_97.symm.trans hA))).symm
    exact ⟨_, Tryd.func17, chk17⟩
  | 18, hg => exact absurd (show (none : Option Nat) = some f from hg) (by simp)
  | 19, hg => exact absurd (show (none : Option Nat) = some f from hg) (by simp)
  | 20, hg => exact absurd (show (none : Option Nat) = some f from hg) (by simp)
  | 21, hg =>
    obtain rfl : f = 70 := (Option.some.inj (show some 70 = some f from hg)).symm
    obtain rfl : fn = F_sheet_cut := (AFn.code.inj (Option.some.inj (prog_70.symm.trans hA))).symm
    exact ⟨_, Tryd.func21, chk21⟩
  | 22, hg =>
    obtain rfl : f = 71 := (Option.some.inj (show some 71 = some f from hg)).symm
    obtain rfl : fn = F_sheet_upper := (AFn.code.inj (Option.some.inj (prog_71.symm.trans hA))).symm
    exact ⟨_, Tryd.func22, chk22⟩
  | 23, hg =>
    obtain rfl : f = 72 := (Option.some.inj (show some 72 = some f from hg)).symm
    obtain rfl : fn = F_strings_HasPrefix := (AFn.code.inj (Option.some.inj (prog_72.symm.trans hA))).symm
    exact ⟨_, Tryd.func23, chk23⟩
  | 24, hg =>
    obtain rfl : f = 50 := (Option.some.inj (show some 50 = some f from hg)).symm
    obtain rfl : fn = F_sheet_Right := (AFn.code.inj (Option.some.inj (prog_50.symm.trans hA))).symm
    exact ⟨_, Tryd.func24, chk24⟩
  | 25, hg => exact absurd (show (none : Option Nat) = some f from hg) (by simp)
  | 26, hg => exact absurd (show (none : Option Nat) = some f from hg) (by simp)
  | 27, hg => exact absurd (show (none : Option Nat) = some f from hg) (by simp)
  | 28, hg =>
    obtain rfl : f = 60 := (Option.some.inj (show some 60 = some f from hg)).symm
    obtain rfl : fn = F_sheet_line := (AFn.code.inj (Option.some.inj (prog_60.symm.trans hA))).symm
    exact ⟨_, Tryd.func28, chk28⟩
  | 29, hg =>
    obtain rfl : f = 61 := (Option.some.inj (show some 61 = some f from hg)).symm
    obtain rfl : fn = F_utf_Cut := (AFn.code.inj (Option.some.inj (prog_61.symm.trans hA))).symm
    exact ⟨_, Tryd.func29, chk29⟩
  | 30, hg =>
    obtain rfl : f = 57 := (Option.some.inj (show some 57 = some f from hg)).symm
    obtain rfl : fn = F_P_strings_Builder_WriteByte := (AFn.code.inj (Option.some.inj (prog_57.symm.trans hA))).symm
    exact ⟨_, Tryd.func30, chk30⟩
  | 31, hg =>
    obtain rfl : f = 58 := (Option.some.inj (show some 58 = some f from hg)).symm
    obtain rfl : fn = F_P_strings_Builder_WriteString := (AFn.code.inj (Option.some.inj (prog_58.symm.trans hA))).symm
    exact ⟨_, Tryd.func31, chk31⟩
  | 32, hg =>
    obtain rfl : f = 59 := (Option.some.inj (show some 59 = some f from hg)).symm
    rw [prog_59] at hA; cases hA
  | 33, hg =>
    obtain rfl : f = 101 := (Option.some.inj (show some 101 = some f from hg)).symm
    obtain rfl : fn = F_bytes_ReplaceAll := (AFn.code.inj (Option.some.inj (prog_101.symm.trans hA))).symm
    exact ⟨_, Tryd.func33, chk33⟩
  | 34, hg =>
    obtain rfl : f = 77 := (Option.some.inj (show some 77 = some f from hg)).symm
    obtain rfl : fn = F_utf_Next := (AFn.code.inj (Option.some.inj (prog_77.symm.trans hA))).symm
    exact ⟨_, Tryd.func34, chk34⟩
  | 35, hg =>
    obtain rfl : f = 102 := (Option.some.inj (show some 102 = some f from hg)).symm
    obtain rfl : fn = F_sheet_lines_c1 := (AFn.code.inj (Option.some.inj (prog_102.symm.trans hA))).symm
    exact ⟨_, Tryd.func35, chk35⟩
  | 36, hg =>
    obtain rfl : f = 32 := (Option.some.inj (show some 32 = some f from hg)).symm
    rw [prog_32] at hA; cases hA
  | 37, hg => exact absurd (show (none : Option Nat) = some f from hg) (by simp)
  | 38, hg => exact absurd (show (none : Option Nat) = some f from hg) (by simp)
  | 39, hg =>
    obtain rfl : f = 78 := (Option.some.inj (show some 78 = some f from hg)).symm
    rw [prog_78] at hA; cases hA
  | 40, hg =>
    obtain rfl : f = 79 := (Option.some.inj (show some 79 = some f from hg)).symm
    obtain rfl : fn = F_internal_stringslite_HasPrefix := (AFn.code.inj (Option.some.inj (prog_79.symm.trans hA))).symm
    exact ⟨_, Tryd.func40, chk40⟩
  | 41, hg =>
    obtain rfl : f = 64 := (Option.some.inj (show some 64 = some f from hg)).symm
    obtain rfl : fn = F_sheet_isName := (AFn.code.inj (Option.some.inj (prog_64.symm.trans hA))).symm
    exact ⟨_, Tryd.func41, chk41⟩
  | 42, hg =>
    obtain rfl : f = 65 := (Option.some.inj (show some 65 = some f from hg)).symm
    obtain rfl : fn = F_sheet_isText := (AFn.code.inj (Option.some.inj (prog_65.symm.trans hA))).symm
    exact ⟨_, Tryd.func42, chk42⟩
  | 43, hg =>
    obtain rfl : f = 66 := (Option.some.inj (show some 66 = some f from hg)).symm
    obtain rfl : fn = F_strings_Contains := (AFn.code.inj (Option.some.inj (prog_66.symm.trans hA))).symm
    exact ⟨_, Tryd.func43, chk43⟩
  | 44, hg => exact absurd (show (none : Option Nat) = some f from hg) (by simp)
  | 45, hg => exact absurd (show (none : Option Nat) = some f from hg) (by simp)
  | 46, hg => exact absurd (show (none : Option Nat) = some f from hg) (by simp)
  | 47, hg =>
    obtain rfl : f = 53 := (Option.some.inj (show some 53 = some f from hg)).symm
    obtain rfl : fn = F_utf_Valid := (AFn.code.inj (Option.some.inj (prog_53.symm.trans hA))).symm
    exact ⟨_, Tryd.func47, chk47⟩
  | 48, hg =>
    obtain rfl : f = 73 := (Option.some.inj (show some 73 = some f from hg)).symm
    rw [prog_73] at hA; cases hA
  | 49, hg =>
    obtain rfl : f = 103 := (Option.some.inj (show some 103 = some f from hg)).symm
    obtain rfl : fn = F_bytes_Replace := (AFn.code.inj (Option.some.inj (prog_103.symm.trans hA))).symm
    exact ⟨_, Tryd.func49, chk49⟩
  | 50, hg =>
    obtain rfl : f = 83 := (Option.some.inj (show some 83 = some f from hg)).symm
    obtain rfl : fn = F_utf_isPoint := (AFn.code.inj (Option.some.inj (prog_83.symm.trans hA))).symm
    exact ⟨_, Tryd.func50, chk50⟩
  | 51, hg => exact absurd (show (none : Option Nat) = some f from hg) (by simp)
  | 52, hg => exact absurd (show (none : Option Nat) = some f from hg) (by simp)
  | 53, hg => exact absurd (show (none : Option Nat) = some f from hg) (by simp)
  | 54, hg => exact absurd (show (none : Option Nat) = some f from hg) (by simp)
  | 55, hg => exact absurd (show (none : Option Nat) = some f from hg) (by simp)
  | 56, hg => exact absurd (show (none : Option Nat) = some f from hg) (by simp)
  | 57, hg => exact absurd (show (none : Option Nat) = some f from hg) (by simp)
  | 58, hg =>
    obtain rfl : f = 76 := (Option.some.inj (show some 76 = some f from hg)).symm
    obtain rfl : fn = F_strings_Index := (AFn.code.inj (Option.some.inj (prog_76.symm.trans hA))).symm
    exact ⟨_, Tryd.func58, chk58⟩
  | 59, hg => exact absurd (show (none : Option Nat) = some f from hg) (by simp)
  | 60, hg => exact absurd (show (none : Option Nat) = some f from hg) (by simp)
  | 61, hg =>
    obtain rfl : f = 104 := (Option.some.inj (show some 104 = some f from hg)).symm
    obtain rfl : fn = F_bytes_Count := (AFn.code.inj (Option.some.inj (prog_104.symm.trans hA))).symm
    exact ⟨_, Tryd.func61, chk61⟩
  | 62, hg =>
    obtain rfl : f = 108 := (Option.some.inj (show some 108 = some f from hg)).symm
    obtain rfl : fn = F_unicode_utf8_DecodeRune := (AFn.code.inj (Option.some.inj (prog_108.symm.trans hA))).symm
    exact ⟨_, Tryd.func62, chk62⟩
  | 63, hg => exact absurd (show (none : Option Nat) = some f from hg) (by simp)
  | 64, hg => exact absurd (show (none : Option Nat) = some f from hg) (by simp)
  | 65, hg => exact absurd (show (none : Option Nat) = some f from hg) (by simp)
  | 66, hg => exact absurd (show (none : Option Nat) = some f from hg) (by simp)
  | 67, hg =>
    obtain rfl : f = 82 := (Option.some.inj (show some 82 = some f from hg)).symm
    rw [prog_82] at hA; cases hA
  | 68, hg =>
    obtain rfl : f = 105 := (Option.some.inj (show some 105 = some f from hg)).symm
    obtain rfl : fn = F_unicode_utf8_RuneCount := (AFn.code.inj (Option.some.inj (prog_105.symm.trans hA))).symm
    exact ⟨_, Tryd.func68, chk68⟩
  | 69, hg =>
    obtain rfl : f = 106 := (Option.some.inj (show some 106 = some f from hg)).symm
    rw [show prog 106 = none from rfl] at hA; cases hA
  | 70, hg =>
    obtain rfl : f = 107 := (Option.some.inj (show some 107 = some f from hg)).symm
    rw [show prog 107 = none from rfl] at hA; cases hA
  | 71, hg => exact absurd (show (none : Option Nat) = some f from hg) (by simp)
  | 72, hg => exact absurd (show (none : Option Nat) = some f from hg) (by simp)
  | 73, hg =>
    obtain rfl : f = 109 := (Option.some.inj (show some 109 = some f from hg)).symm
    rw [show prog 109 = none from rfl] at hA; cases hA
  | n + 74, hg => exact absurd (show (none : Option Nat) = some f from hg) (by simp)
set_option maxRecDepth 100000 in
theorem prim_ok : ∀ (f' : FuncId) (f : Nat) (p : List PV → Option PV), gm f' = some f → prog f = some (.prim p) → PrimOK Tryd.prog gm f' p := by
  intro f' f p hg hA
  match f', hg with
  | 0, hg => exact absurd (show (none : Option Nat) = some f from hg) (by simp)
  | 1, hg => exact absurd (show (none : Option Nat) = some f from hg) (by simp)
  | 2, hg => exact absurd (show (none : Option Nat) = some f from hg) (by simp)
  | 3, hg => exact absurd (show (none : Option Nat) = some f from hg) (by simp)
  | 4, hg =>
    obtain rfl : f = 94 := (Option.some.inj (show some 94 = some f from hg)).symm
    rw [prog_94] at hA; cases hA
  | 5, hg => exact absurd (show (none : Option Nat) = some f from hg) (by simp)
  | 6, hg =>
    obtain rfl : f = 40 := (Option.some.inj (show some 40 = some f from hg)).symm
    rw [prog_40] at hA; cases hA
  | 7, hg =>
    obtain rfl : f = 89 := (Option.some.inj (show some 89 = some f from hg)).symm
    rw [prog_89] at hA; cases hA
  | 8, hg => exact absurd (show (none : Option Nat) = some f from hg) (by simp)
  | 9, hg =>
    obtain rfl : f = 55 := (Option.some.inj (show some 55 = some f from hg)).symm
    rw [prog_55] at hA; cases hA
  | 10, hg => exact absurd (show (none : Option Nat) = some f from hg) (by simp)
  | 11, hg =>
    obtain rfl : f = 92 := (Option.some.inj (show some 92 = some f from hg)).symm
    rw [prog_92] at hA; cases hA
  | 12, hg =>
    obtain rfl : f = 47 := (Option.some.inj (show some 47 = some f from hg)).symm
    rw [prog_47] at hA; cases hA
  | 13, hg =>
    obtain rfl : f = 48 := (Option.some.inj (show some 48 = some f from hg)).symm
    rw [prog_48] at hA; cases hA
  | 14, hg =>
    obtain rfl : f = 43 := (Option.some.inj (show some 43 = some f from hg)).symm
    rw [prog_43] at hA; cases hA
  | 15, hg =>
    obtain rfl : f = 96 := (Option.some.inj (show some 96 = some f from hg)).symm
    rw [prog_96] at hA; cases hA
  | 16, hg =>
    obtain rfl : f = 69 := (Option.some.inj (show some 69 = some f from hg)).symm
    rw [prog_69] at hA; cases hA
  | 17, hg =>
    obtain rfl : f = 97 := (Option.some.inj (show some 97 = some f from hg)).symm
    rw [prog_97] at hA; cases hA
  | 18, hg => exact absurd (show (none : Option Nat) = some f from hg) (by simp)
  | 19, hg => exact absurd (show (none : Option Nat) = some f from hg) (by simp)
  | 20, hg => exact absurd (show (none : Option Nat) = some f from hg) (by simp)
  | 21, hg =>
    obtain rfl : f = 70 := (Option.some.inj (show some 70 = some f from hg)).symm
    rw [prog_70] at hA; cases hA
  | 22, hg =>
    obtain rfl : f = 71 := (Option.some.inj (show some 71 = some f from hg)).symm
    rw [prog_71] at hA; cases hA
  | 23, hg =>
    obtain rfl : f = 72 := (Option.some.inj (show some 72 = some f from hg)).symm
    rw [prog_72] at hA; cases hA
  | 24, hg =>
    obtain rfl : f = 50 := (Option.some.inj (show some 50 = some f from hg)).symm
    rw [prog_50] at hA; cases hA
  | 25, hg => exact absurd (show (none : Option Nat) = some f from hg) (by simp)
  | 26, hg => exact absurd (show (none : Option Nat) = some f from hg) (by simp)
  | 27, hg => exact absurd (show (none : Option Nat) = some f from hg) (by simp)
  | 28, hg =>
    obtain rfl : f = 60 := (Option.some.inj (show some 60 = some f from hg)).symm
    rw [prog_60] at hA; cases hA
  | 29, hg =>
    obtain rfl : f = 61 := (Option.some.inj (show some 61 = some f from hg)).symm
    rw [prog_61] at hA; cases hA
  | 30, hg =>
    obtain rfl : f = 57 := (Option.some.inj (show some 57 = some f from hg)).symm
    rw [prog_57] at hA; cases hA
  | 31, hg =>
    obtain rfl : f = 58 := (Option.some.inj (show some 58 = some f from hg)).symm
    rw [prog_58] at hA; cases hA
  | 32, hg =>
    obtain rfl : f = 59 := (Option.some.inj (show some 59 = some f from hg)).symm
    rw [prog_59] at hA; cases hA
  | 33, hg =>
    obtain rfl : f = 101 := (Option.some.inj (show some 101 = some f from hg)).symm
    rw [prog_101] at hA; cases hA
  | 34, hg =>
    obtain rfl : f = 77 := (Option.some.inj (show some 77 = some f from hg)).symm
    rw [prog_77] at hA; cases hA
  | 35, hg =>
    obtain rfl : f = 102 := (Option.some.inj (show some 102 = some f from hg)).symm
    rw [prog_102] at hA; cases hA
  | 36, hg =>
    obtain rfl : f = 32 := (Option.some.inj (show some 32 = some f from hg)).symm
    obtain rfl : p = pBytesIndex := (AFn.prim.inj (Option.some.inj (prog_32.symm.trans hA))).symm
    exact primIndex (g := gm) (ρ := Tryd.laysM185_ren) { Tryd.laysM185 with } (fun κ h => h) Tryd.func36 (by kernel_rfl) (by decide)
  | 37, hg => exact absurd (show (none : Option Nat) = some f from hg) (by simp)
  | 38, hg => exact absurd (show (none : Option Nat) = some f from hg) (by simp)
  | 39, hg =>
    obtain rfl : f = 78 := (Option.some.inj (show some 78 = some f from hg)).symm
    obtain rfl : p = pStrIndexByte := (AFn.prim.inj (Option.some.inj (prog_78.symm.trans hA))).symm
    exact primStrIndexByte (g := gm) Tryd.lays137 Tryd.func39 (by kernel_rfl) (by decide)
  | 40, hg =>
    obtain rfl : f = 79 := (Option.some.inj (show some 79 = some f from hg)).symm
    rw [prog_79] at hA; cases hA
  | 41, hg =>
    obtain rfl : f = 64 := (Option.some.inj (show some 64 = some f from hg)).symm
    rw [prog_64] at hA; cases hA
  | 42, hg =>
    obtain rfl : f = 65 := (Option.some.inj (show some 65 = some f from hg)).symm
    rw [prog_65] at hA; cases hA
  | 43, hg =>
    obtain rfl : f = 66 := (Option.some.inj (show some 66 = some f from hg)).symm
    rw [prog_66] at hA; cases hA
  | 44, hg => exact absurd (show (none : Option Nat) = some f from hg) (by simp)
  | 45, hg => exact absurd (show (none : Option Nat) = some f from hg) (by simp)
  | 46, hg => exact absurd (show (none : Option Nat) = some f from hg) (by simp)
  | 47, hg =>
    obtain rfl : f = 53 := (Option.some.inj (show some 53 = some f from hg)).symm
    rw [prog_53] at hA; cases hA
  | 48, hg =>
    obtain rfl : f = 73 := (Option.some.inj (show some 73 = some f from hg)).symm
    rw [prog_73] at hA; cases hA
  | 49, hg =>
    obtain rfl : f = 103 := (Option.some.inj (show some 103 = some f from hg)).symm
    rw [prog_103] at hA; cases hA
  | 50, hg =>
    obtain rfl : f = 83 := (Option.some.inj (show some 83 = some f from hg)).symm
    rw [prog_83] at hA; cases hA
  | 51, hg => exact absurd (show (none : Option Nat) = some f from hg) (by simp)
  | 52, hg => exact absurd (show (none : Option Nat) = some f from hg) (by simp)
  | 53, hg => exact absurd (show (none : Option Nat) = some f from hg) (by simp)
  | 54, hg => exact absurd (show (none : Option Nat) = some f from hg) (by simp)
  | 55, hg => exact absurd (show (none : Option Nat) = some f from hg) (by simp)
  | 56, hg => exact absurd (show (none : Option Nat) = some f from hg) (by simp)
  | 57, hg => exact absurd (show (none : Option Nat) = some f from hg) (by simp)
  | 58, hg =>
    obtain rfl : f = 76 := (Option.some.inj (show some 76 = some f from hg)).symm
    rw [prog_76] at hA; cases hA
  | 59, hg => exact absurd (show (none : Option Nat) = some f from hg) (by simp)
  | 60, hg => exact absurd (show (none : Option Nat) = some f from hg) (by simp)
  | 61, hg =>
    obtain rfl : f = 104 := (Option.some.inj (show some 104 = some f from hg)).symm
    rw [prog_104] at hA; cases hA
  | 62, hg =>
    obtain rfl : f = 108 := (Option.some.inj (show some 108 = some f from hg)).symm
    rw [prog_108] at hA; cases hA
  | 63, hg => exact absurd (show (none : Option Nat) = some f from hg) (by simp)
  | 64, hg => exact absurd (show (none : Option Nat) = some f from hg) (by simp)
  | 65, hg => exact absurd (show (none : Option Nat) = some f from hg) (by simp)
  | 66, hg => exact absurd (show (none : Option Nat) = some f from hg) (by simp)
  | 67, hg =>
    obtain rfl : f = 82 := (Option.some.inj (show some 82 = some f from hg)).symm
    obtain rfl : p = pStrIndex := (AFn.prim.inj (Option.some.inj (prog_82.symm.trans hA))).symm
    exact primStrIndex (g := gm) (ρ := Tryd.laysM219_ren) { Tryd.laysM219 with } (fun κ h => h) Tryd.func67 (by kernel_rfl) (by decide)
  | 68, hg =>
    obtain rfl : f = 105 := (Option.some.inj (show some 105 = some f from hg)).symm
    rw [prog_105] at hA; cases hA
  | 69, hg =>
    obtain rfl : f = 106 := (Option.some.inj (show some 106 = some f from hg)).symm
    rw [show prog 106 = none from rfl] at hA; cases hA
  | 70, hg =>
    obtain rfl : f = 107 := (Option.some.inj (show some 107 = some f from hg)).symm
    rw [show prog 107 = none from rfl] at hA; cases hA
  | 71, hg => exact absurd (show (none : Option Nat) = some f from hg) (by simp)
  | 72, hg => exact absurd (show (none : Option Nat) = some f from hg) (by simp)
  | 73, hg =>
    obtain rfl : f = 109 := (Option.some.inj (show some 109 = some f from hg)).symm
    rw [show prog 109 = none from rfl] at hA; cases hA
  | n + 74, hg => exact absurd (show (none : Option Nat) = some f from hg) (by simp)
set_option maxRecDepth 100000 in
theorem primS_ok : ∀ (f' : FuncId) (f : Nat) (p : List PV → List (List PV) → Option (PV × Upd)), gm f' = some f → prog f = some (.primS p) → PrimSOK Tryd.prog gm f' p := by
  intro f' f p hg hA
  match f', hg with
  | 0, hg => exact absurd (show (none : Option Nat) = some f from hg) (by simp)
  | 1, hg => exact absurd (show (none : Option Nat) = some f from hg) (by simp)
  | 2, hg => exact absurd (show (none : Option Nat) = some f from hg) (by simp)
  | 3, hg => exact absurd (show (none : Option Nat) = some f from hg) (by simp)
  | 4, hg =>
    obtain rfl : f = 94 := (Option.some.inj (show some 94 = some f from hg)).symm
    rw [prog_94] at hA; cases hA
  | 5, hg => exact absurd (show (none : Option Nat) = some f from hg) (by simp)
  | 6, hg =>
    obtain rfl : f = 40 := (Option.some.inj (show some 40 = some f from hg)).symm
    rw [prog_40] at hA; cases hA
  | 7, hg =>
    obtain rfl : f = 89 := (Option.some.inj (show some 89 = some f from hg)).symm
    rw [prog_89] at hA; cases hA
  | 8, hg => exact absurd (show (none : Option Nat) = some f from hg) (by simp)
  | 9, hg =>
    obtain rfl : f = 55 := (Option.some.inj (show some 55 = some f from hg)).symm
    rw [prog_55] at hA; cases hA
  | 10, hg => exact absurd (show (none : Option Nat) = some f from hg) (by simp)
  | 11, hg =>
    obtain rfl : f = 92 := (Option.some.inj (show some 92 = some f from hg)).symm
    rw [prog_92] at hA; cases hA
  | 12, hg =>
    obtain rfl : f = 47 := (Option.some.inj (show some 47 = some f from hg)).symm
    rw [prog_47] at hA; cases hA
  | 13, hg =>
    obtain rfl : f = 48 := (Option.some.inj (show some 48 = some f from hg)).symm
    rw [prog_48] at hA; cases hA
  | 14, hg =>
    obtain rfl : f = 43 := (Option.some.inj (show some 43 = some f from hg)).symm
    rw [prog_43] at hA; cases hA
  | 15, hg =>
    obtain rfl : f = 96 := (Option.some.inj (show some 96 = some f from hg)).symm
    rw [prog_96] at hA; cases hA
  | 16, hg =>
    obtain rfl : f = 69 := (Option.some.inj (show some 69 = some f from hg)).symm
    rw [prog_69] at hA; cases hA
  | 17, hg =>
    obtain rfl : f = 97 := (Option.some.inj (show some 97 = some f from hg)).symm
    rw [prog_97] at hA; cases hA
  | 18, hg => exact absurd (show (none : Option Nat) = some f from hg) (by simp)
  | 19, hg => exact absurd (show (none : Option Nat) = some f from hg) (by simp)
  | 20, hg => exact absurd (show (none : Option Nat) = some f from hg) (by simp)
  | 21, hg =>
    obtain rfl : f = 70 := (Option.some.inj (show some 70 = some f from hg)).symm
    rw [prog_70] at hA; cases hA
  | 22, hg =>
    obtain rfl : f = 71 := (Option.some.inj (show some 71 = some f from hg)).symm
    rw [prog_71] at hA; cases hA
  | 23, hg =>
    obtain rfl : f = 72 := (Option.some.inj (show some 72 = some f from hg)).symm
    rw [prog_72] at hA; cases hA
  | 24, hg =>
    obtain rfl : f = 50 := (Option.some.inj (show some 50 = some f from hg)).symm
    rw [prog_50] at hA; cases hA
  | 25, hg => exact absurd (show (none : Option Nat) = some f from hg) (by simp)
  | 26, hg => exact absurd (show (none : Option Nat) = some f from hg) (by simp)
  | 27, hg => exact absurd (show (none : Option Nat) = some f from hg) (by simp)
  | 28, hg =>
    obtain rfl : f = 60 := (Option.some.inj (show some 60 = some f from hg)).symm
    rw [prog_60] at hA; cases hA
  | 29, hg =>
    obtain rfl : f = 61 := (Option.some.inj (show some 61 = some f from hg)).symm
    rw [prog_61] at hA; cases hA
  | 30, hg =>
    obtain rfl : f = 57 := (Option.some.inj (show some 57 = some f from hg)).symm
    rw [prog_57] at hA; cases hA
  | 31, hg =>
    obtain rfl : f = 58 := (Option.some.inj (show some 58 = some f from hg)).symm
    rw [prog_58] at hA; cases hA
  | 32, hg =>
    obtain rfl : f = 59 := (Option.some.inj (show some 59 = some f from hg)).symm
    obtain rfl : p = pBuilderString := (AFn.primS.inj (Option.some.inj (prog_59.symm.trans hA))).symm
    exact primBuilderString (g := gm) Tryd.lays169 Tryd.Builder_Extra_169 rfl Tryd.func32 (by kernel_rfl) (by decide)
  | 33, hg =>
    obtain rfl : f = 101 := (Option.some.inj (show some 101 = some f from hg)).symm
    rw [prog_101] at hA; cases hA
  | 34, hg =>
    obtain rfl : f = 77 := (Option.some.inj (show some 77 = some f from hg)).symm
    rw [prog_77] at hA; cases hA
  | 35, hg =>
    obtain rfl : f = 102 := (Option.some.inj (show some 102 = some f from hg)).symm
    rw [prog_102] at hA; cases hA
  | 36, hg =>
    obtain rfl : f = 32 := (Option.some.inj (show some 32 = some f from hg)).symm
    rw [prog_32] at hA; cases hA
  | 37, hg => exact absurd (show (none : Option Nat) = some f from hg) (by simp)
  | 38, hg => exact absurd (show (none : Option Nat) = some f from hg) (by simp)
  | 39, hg =>
    obtain rfl : f = 78 := (Option.some.inj (show some 78 = some f from hg)).symm
    rw [prog_78] at hA; cases hA
  | 40, hg =>
    obtain rfl : f = 79 := (Option.some.inj (show some 79 = some f from hg)).symm
    rw [prog_79] at hA; cases hA
  | 41, hg =>
    obtain rfl : f = 64 := (Option.some.inj (show some 64 = some f from hg)).symm
    rw [prog_64] at hA; cases hA
  | 42, hg =>
    obtain rfl : f = 65 := (Option.some.inj (show some 65 = some f from hg)).symm
    rw [prog_65] at hA; cases hA
  | 43, hg =>
    obtain rfl : f = 66 := (Option.some.inj (show some 66 = some f from hg)).symm
    rw [prog_66] at hA; cases hA
  | 44, hg => exact absurd (show (none : Option Nat) = some f from hg) (by simp)
  | 45, hg => exact absurd (show (none : Option Nat) = some f from hg) (by simp)
  | 46, hg => exact absurd (show (none : Option Nat) = some f from hg) (by simp)
  | 47, hg =>
    obtain rfl : f = 53 := (Option.some.inj (show some 53 = some f from hg)).symm
    rw [prog_53] at hA; cases hA
  | 48, hg =>
    obtain rfl : f = 73 := (Option.some.inj (show some 73 = some f from hg)).symm
    obtain rfl : p = pCopyCheck := (AFn.primS.inj (Option.some.inj (prog_73.symm.trans hA))).symm
    exact primCopyCheck (g := gm) Tryd.laysCC Tryd.Builder_X72_CC rfl Tryd.func48 (by kernel_rfl) (by decide)
  | 49, hg =>
    obtain rfl : f = 103 := (Option.some.inj (show some 103 = some f from hg)).symm
    rw [prog_103] at hA; cases hA
  | 50, hg =>
    obtain rfl : f = 83 := (Option.some.inj (show some 83 = some f from hg)).symm
    rw [prog_83] at hA; cases hA
  | 51, hg => exact absurd (show (none : Option Nat) = some f from hg) (by simp)
  | 52, hg => exact absurd (show (none : Option Nat) = some f from hg) (by simp)
  | 53, hg => exact absurd (show (none : Option Nat) = some f from hg) (by simp)
  | 54, hg => exact absurd (show (none : Option Nat) = some f from hg) (by simp)
  | 55, hg => exact absurd (show (none : Option Nat) = some f from hg) (by simp)
  | 56, hg => exact absurd (show (none : Option Nat) = some f from hg) (by simp)
  | 57, hg => exact absurd (show (none : Option Nat) = some f from hg) (by simp)
  | 58, hg =>
    obtain rfl : f = 76 := (Option.some.inj (show some 76 = some f from hg)).symm
    rw [prog_76] at hA; cases hA
  | 59, hg => exact absurd (show (none : Option Nat) = some f from hg) (by simp)
  | 60, hg => exact absurd (show (none : Option Nat) = some f from hg) (by simp)
  | 61, hg =>
    obtain rfl : f = 104 := (Option.some.inj (show some 104 = some f from hg)).symm
    rw [prog_104] at hA; cases hA
  | 62, hg =>
    obtain rfl : f = 108 := (Option.some.inj (show some 108 = some f from hg)).symm
    rw [prog_108] at hA; cases hA
  | 63, hg => exact absurd (show (none : Option Nat) = some f from hg) (by simp)
  | 64, hg => exact absurd (show (none : Option Nat) = some f from hg) (by simp)
  | 65, hg => exact absurd (show (none : Option Nat) = some f from hg) (by simp)
  | 66, hg => exact absurd (show (none : Option Nat) = some f from hg) (by simp)
  | 67, hg =>
    obtain rfl : f = 82 := (Option.some.inj (show some 82 = some f from hg)).symm
    rw [prog_82] at hA; cases hA
  | 68, hg =>
    obtain rfl : f = 105 := (Option.some.inj (show some 105 = some f from hg)).symm
    rw [prog_105] at hA; cases hA
  | 69, hg =>
    obtain rfl : f = 106 := (Option.some.inj (show some 106 = some f from hg)).symm
    rw [show prog 106 = none from rfl] at hA; cases hA
  | 70, hg =>
    obtain rfl : f = 107 := (Option.some.inj (show some 107 = some f from hg)).symm
    rw [show prog 107 = none from rfl] at hA; cases hA
  | 71, hg => exact absurd (show (none : Option Nat) = some f from hg) (by simp)
  | 72, hg => exact absurd (show (none : Option Nat) = some f from hg) (by simp)
  | 73, hg =>
    obtain rfl : f = 109 := (Option.some.inj (show some 109 = some f from hg)).symm
    rw [show prog 109 = none from rfl] at hA; cases hA
  | n + 74, hg => exact absurd (show (none : Option Nat) = some f from hg) (by simp)
theorem linked : Linked Tryd.prog gm prog := ⟨code_ok, prim_ok, primS_ok, by kernel_rfl⟩
end Go.Ab.YtiiedcmkmnfdiaaDoor
