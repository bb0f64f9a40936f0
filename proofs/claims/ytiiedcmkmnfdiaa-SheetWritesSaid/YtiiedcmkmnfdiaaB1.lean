/- The laying of copyCheck. -/
import Derived.KernelRfl
import Derived.Test.YtiiedcmkmnfdiaaA6
import Derived.Test.YtiiedcmkmnfdiaaProg
import Derived.Test.YtiiedcmkmnfdiaaA3
import Derived.Test.YtiiedcmkmnfdiaaA5
import Derived.Test.YtiiedcmkmnfdiaaShelf
namespace Go.Proofs
open Go.Shelf
def Try.laysCC_ren : Go.Shelf.Ren := ⟨fun | 240 => 38 | 276 => 45 | n => n, fun | 4 => 4 | 70 => 46 | 72 => 48 | 37 => 28 | 164 => 73 | n => n, fun | n => n⟩
theorem Try.laysCC : CCLay Try.prog Try.laysCC_ren := {
  mixed := by kernel_rfl
  f240 := Try.func38.trans (congrArg some (by kernel_rfl))
  f276 := Try.func45.trans (congrArg some (by kernel_rfl))
  t4 := Try.underlying4
  a4 := Try.isAgg4
  z4 := Try.sizeOf4
  v4 := Try.zeroValue4
  t70 := Try.underlying46
  a70 := Try.isAgg46
  z70 := Try.sizeOf46
  v70 := Try.zeroValue46
  t72 := Try.underlying48
  a72 := Try.isAgg48
  z72 := Try.sizeOf48
  v72 := Try.zeroValue48
  t164 := Try.underlying73
  a164 := Try.isAgg73
  z164 := Try.sizeOf73
  v164 := Try.zeroValue73 }
theorem Try.Builder_X72_CC : Builder.X72 Try.prog Try.laysCC_ren := {
  sizeBuilder := by kernel_rfl
  liesBuilder := by kernel_rfl }
end Go.Proofs

/-
  The abstract program belongs to this seat's program.
-/
namespace Go.Ab.Ytiiedcmkmnfdiaa
open Go.Proofs Go.Shelf
set_option linter.unusedVariables false
def gfn : FuncId → Option Nat := fun f => match f with
  | 3 => some 45
  | 4 => some 46
  | 5 => some 52
  | 6 => some 54
  | 7 => some 40
  | 8 => some 41
  | 9 => some 42
  | 10 => some 43
  | 11 => some 44
  | 12 => some 47
  | 13 => some 48
  | 14 => some 49
  | 15 => some 50
  | 16 => some 51
  | 17 => some 8
  | 18 => some 53
  | 19 => some 55
  | 20 => some 56
  | 21 => some 57
  | 22 => some 58
  | 23 => some 59
  | 24 => some 60
  | 25 => some 61
  | 26 => some 62
  | 27 => some 63
  | 28 => some 64
  | 29 => some 65
  | 30 => some 66
  | 31 => some 67
  | 32 => some 68
  | 33 => some 22
  | 34 => some 69
  | 35 => some 70
  | 36 => some 71
  | 37 => some 72
  | 38 => some 73
  | 39 => some 74
  | 40 => some 75
  | 41 => some 76
  | 42 => some 77
  | 43 => some 78
  | 44 => some 79
  | 46 => some 80
  | 47 => some 81
  | 48 => some 82
  | 49 => some 83
  | 51 => some 85
  | _ => none
def gm : GMap := { fn := gfn, tB := 48, tU := 5, inv := fun κ => ∃ m, κ.C (Try.laysM219_ren.g 1) 0 = some (.int .i64 m), mono := fun _ _ h ⟨m, hm⟩ => ⟨m, h _ _ _ hm⟩, glob := fun _ => none, globOK := fun _ _ _ _ h => by cases h }
theorem chk3 : chkFn Try.prog gm Try.f3 F_posthornlaw10_SheetEscapes = true := by kernel_rfl
theorem chk4 : chkFn Try.prog gm Try.f4 F_posthornlaw10_SheetTexts = true := by kernel_rfl
theorem chk5 : chkFn Try.prog gm Try.f5 F_posthornlaw10_SheetWrites = true := by kernel_rfl
theorem chk6 : chkFn Try.prog gm Try.f6 F_posthornlaw10_SheetFolds = true := by kernel_rfl
theorem chk7 : chkFn Try.prog gm Try.f7 F_posthornlaw10_alive = true := by kernel_rfl
theorem chk8 : chkFn Try.prog gm Try.f8 F_sheet_Unescape = true := by kernel_rfl
theorem chk9 : chkFn Try.prog gm Try.f9 F_posthornref10_Unescape = true := by kernel_rfl
theorem chk10 : chkFn Try.prog gm Try.f10 F_sheet_Escape = true := by kernel_rfl
theorem chk11 : chkFn Try.prog gm Try.f11 F_posthornref10_Escape = true := by kernel_rfl
theorem chk12 : chkFn Try.prog gm Try.f12 F_posthornlaw10_Great = true := by kernel_rfl
theorem chk13 : chkFn Try.prog gm Try.f13 F_sheet_Write = true := by kernel_rfl
theorem chk14 : chkFn Try.prog gm Try.f14 F_posthornref10_Write = true := by kernel_rfl
theorem chk15 : chkFn Try.prog gm Try.f15 F_sheet_Right = true := by kernel_rfl
theorem chk16 : chkFn Try.prog gm Try.f16 F_posthornref10_Right = true := by kernel_rfl
theorem chk17 : chkFn Try.prog gm Try.f17 F_posthornref05_Lines = true := by kernel_rfl
theorem chk18 : chkFn Try.prog gm Try.f18 F_utf_Valid = true := by kernel_rfl
theorem chk19 : chkFn Try.prog gm Try.f19 F_sheet_One = true := by kernel_rfl
theorem chk20 : chkFn Try.prog gm Try.f20 F_posthornref04_Has = true := by kernel_rfl
theorem chk21 : chkFn Try.prog gm Try.f21 F_P_strings_Builder_WriteByte = true := by kernel_rfl
theorem chk22 : chkFn Try.prog gm Try.f22 F_P_strings_Builder_WriteString = true := by kernel_rfl
theorem chk24 : chkFn Try.prog gm Try.f24 F_sheet_line = true := by kernel_rfl
theorem chk25 : chkFn Try.prog gm Try.f25 F_utf_Cut = true := by kernel_rfl
theorem chk26 : chkFn Try.prog gm Try.f26 F_posthornref10_Plain = true := by kernel_rfl
theorem chk27 : chkFn Try.prog gm Try.f27 F_posthornref02_Cut = true := by kernel_rfl
theorem chk28 : chkFn Try.prog gm Try.f28 F_sheet_isName = true := by kernel_rfl
theorem chk29 : chkFn Try.prog gm Try.f29 F_sheet_isText = true := by kernel_rfl
theorem chk30 : chkFn Try.prog gm Try.f30 F_strings_Contains = true := by kernel_rfl
theorem chk31 : chkFn Try.prog gm Try.f31 F_posthornref10_Name = true := by kernel_rfl
theorem chk32 : chkFn Try.prog gm Try.f32 F_posthornref10_Text = true := by kernel_rfl
theorem chk33 : chkFn Try.prog gm Try.f33 F_posthornref03_Pair = true := by kernel_rfl
theorem chk34 : chkFn Try.prog gm Try.f34 F_utf_Points = true := by kernel_rfl
theorem chk35 : chkFn Try.prog gm Try.f35 F_sheet_cut = true := by kernel_rfl
theorem chk36 : chkFn Try.prog gm Try.f36 F_sheet_upper = true := by kernel_rfl
theorem chk37 : chkFn Try.prog gm Try.f37 F_strings_HasPrefix = true := by kernel_rfl
theorem chk39 : chkFn Try.prog gm Try.f39 F_posthornref02_Valid = true := by kernel_rfl
theorem chk40 : chkFn Try.prog gm Try.f40 F_posthornref02_Next = true := by kernel_rfl
theorem chk41 : chkFn Try.prog gm Try.f41 F_strings_Index = true := by kernel_rfl
theorem chk42 : chkFn Try.prog gm Try.f42 F_utf_Next = true := by kernel_rfl
theorem chk44 : chkFn Try.prog gm Try.f44 F_internal_stringslite_HasPrefix = true := by kernel_rfl
theorem chk46 : chkFn Try.prog gm Try.f46 F_posthornref02_Points = true := by kernel_rfl
theorem chk47 : chkFn Try.prog gm Try.f47 F_posthornref02_Put = true := by kernel_rfl
theorem chk49 : chkFn Try.prog gm Try.f49 F_utf_isPoint = true := by kernel_rfl
theorem chk51 : chkFn Try.prog gm Try.f51 F_posthornref02_Point = true := by kernel_rfl
set_option maxRecDepth 100000 in
theorem code_ok : ∀ (f' : FuncId) (f : Nat) (fn : ACFn), gm f' = some f → prog f = some (.code fn) → ∃ pf, Try.prog.funcs[f']? = some pf ∧ chkFn Try.prog gm pf fn = true := by
  intro f' f fn hg hA
  match f', hg with
  | 0, hg => exact absurd (show (none : Option Nat) = some f from hg) (by simp)
  | 1, hg => exact absurd (show (none : Option Nat) = some f from hg) (by simp)
  | 2, hg => exact absurd (show (none : Option Nat) = some f from hg) (by simp)
  | 3, hg =>
    obtain rfl : f = 45 := (Option.some.inj (show some 45 = some f from hg)).symm
    obtain rfl : fn = F_posthornlaw10_SheetEscapes := (AFn.code.inj (Option.some.inj (prog_45.symm.trans hA))).symm
    exact ⟨_, Try.func3, chk3⟩
  | 4, hg =>
    obtain rfl : f = 46 := (Option.some.inj (show some 46 = some f from hg)).symm
    obtain rfl : fn = F_posthornlaw10_SheetTexts := (AFn.code.inj (Option.some.inj (prog_46.symm.trans hA))).symm
    exact ⟨_, Try.func4, chk4⟩
  | 5, hg =>
    obtain rfl : f = 52 := (Option.some.inj (show some 52 = some f from hg)).symm
    obtain rfl : fn = F_posthornlaw10_SheetWrites := (AFn.code.inj (Option.some.inj (prog_52.symm.trans hA))).symm
    exact ⟨_, Try.func5, chk5⟩
  | 6, hg =>
    obtain rfl : f = 54 := (Option.some.inj (show some 54 = some f from hg)).symm
    obtain rfl : fn = F_posthornlaw10_SheetFolds := (AFn.code.inj (Option.some.inj (prog_54.symm.trans hA))).symm
    exact ⟨_, Try.func6, chk6⟩
  | 7, hg =>
    obtain rfl : f = 40 := (Option.some.inj (show some 40 = some f from hg)).symm
    obtain rfl : fn = F_posthornlaw10_alive := (AFn.code.inj (Option.some.inj (prog_40.symm.trans hA))).symm
    exact ⟨_, Try.func7, chk7⟩
  | 8, hg =>
    obtain rfl : f = 41 := (Option.some.inj (show some 41 = some f from hg)).symm
    obtain rfl : fn = F_sheet_Unescape := (AFn.code.inj (Option.some.inj (prog_41.symm.trans hA))).symm
    exact ⟨_, Try.func8, chk8⟩
  | 9, hg =>
    obtain rfl : f = 42 := (Option.some.inj (show some 42 = some f from hg)).symm
    obtain rfl : fn = F_posthornref10_Unescape := (AFn.code.inj (Option.some.inj (prog_42.symm.trans hA))).symm
    exact ⟨_, Try.func9, chk9⟩
  | 10, hg =>
    obtain rfl : f = 43 := (Option.some.inj (show some 43 = some f from hg)).symm
    obtain rfl : fn = F_sheet_Escape := (AFn.code.inj (Option.some.inj (prog_43.symm.trans hA))).symm
    exact ⟨_, Try.func10, chk10⟩
  | 11, hg =>
    obtain rfl : f = 44 := (Option.some.inj (show some 44 = some f from hg)).symm
    obtain rfl : fn = F_posthornref10_Escape := (AFn.code.inj (Option.some.inj (prog_44.symm.trans hA))).symm
    exact ⟨_, Try.func11, chk11⟩
  | 12, hg =>
    obtain rfl : f = 47 := (Option.some.inj (show some 47 = some f from hg)).symm
    obtain rfl : fn = F_posthornlaw10_Great := (AFn.code.inj (Option.some.inj (prog_47.symm.trans hA))).symm
    exact ⟨_, Try.func12, chk12⟩
  | 13, hg =>
    obtain rfl : f = 48 := (Option.some.inj (show some 48 = some f from hg)).symm
    obtain rfl : fn = F_sheet_Write := (AFn.code.inj (Option.some.inj (prog_48.symm.trans hA))).symm
    exact ⟨_, Try.func13, chk13⟩
  | 14, hg =>
    obtain rfl : f = 49 := (Option.some.inj (show some 49 = some f from hg)).symm
    obtain rfl : fn = F_posthornref10_Write := (AFn.code.inj (Option.some.inj (prog_49.symm.trans hA))).symm
    exact ⟨_, Try.func14, chk14⟩
  | 15, hg =>
    obtain rfl : f = 50 := (Option.some.inj (show some 50 = some f from hg)).symm
    obtain rfl : fn = F_sheet_Right := (AFn.code.inj (Option.some.inj (prog_50.symm.trans hA))).symm
    exact ⟨_, Try.func15, chk15⟩
  | 16, hg =>
    obtain rfl : f = 51 := (Option.some.inj (show some 51 = some f from hg)).symm
    obtain rfl : fn = F_posthornref10_Right := (AFn.code.inj (Option.some.inj (prog_51.symm.trans hA))).symm
    exact ⟨_, Try.func16, chk16⟩
  | 17, hg =>
    obtain rfl : f = 8 := (Option.some.inj (show some 8 = some f from hg)).symm
    obtain rfl : fn = F_posthornref05_Lines := (AFn.code.inj (Option.some.inj (prog_8.symm.trans hA))).symm
    exact ⟨_, Try.func17, chk17⟩
  | 18, hg =>
    obtain rfl : f = 53 := (Option.some.inj (show some 53 = some f from hg)).symm
    obtain rfl : fn = F_utf_Valid := (AFn.code.inj (Option.some.inj (prog_53.symm.trans hA))).symm
    exact ⟨_, Try.func18, chk18⟩
  | 19, hg =>
    obtain rfl : f = 55 := (Option.some.inj (show some 55 = some f from hg)).symm
    obtain rfl : fn = F_sheet_One := (AFn.code.inj (Option.some.inj (prog_55.symm.trans hA))).symm
    exact ⟨_, Try.func19, chk19⟩
  | 20, hg =>
    obtain rfl : f = 56 := (Option.some.inj (show some 56 = some f from hg)).symm
    obtain rfl : fn = F_posthornref04_Has := (AFn.code.inj (Option.some.inj (prog_56.symm.trans hA))).symm
    exact ⟨_, Try.func20, chk20⟩
  | 21, hg =>
    obtain rfl : f = 57 := (Option.some.inj (show some 57 = some f from hg)).symm
    obtain rfl : fn = F_P_strings_Builder_WriteByte := (AFn.code.inj (Option.some.inj (prog_57.symm.trans hA))).symm
    exact ⟨_, Try.func21, chk21⟩
  | 22, hg =>
    obtain rfl : f = 58 := (Option.some.inj (show some 58 = some f from hg)).symm
    obtain rfl : fn = F_P_strings_Builder_WriteString := (AFn.code.inj (Option.some.inj (prog_58.symm.trans hA))).symm
    exact ⟨_, Try.func22, chk22⟩
  | 23, hg =>
    obtain rfl : f = 59 := (Option.some.inj (show some 59 = some f from hg)).symm
    rw [prog_59] at hA; cases hA
  | 24, hg =>
    obtain rfl : f = 60 := (Option.some.inj (show some 60 = some f from hg)).symm
    obtain rfl : fn = F_sheet_line := (AFn.code.inj (Option.some.inj (prog_60.symm.trans hA))).symm
    exact ⟨_, Try.func24, chk24⟩
  | 25, hg =>
    obtain rfl : f = 61 := (Option.some.inj (show some 61 = some f from hg)).symm
    obtain rfl : fn = F_utf_Cut := (AFn.code.inj (Option.some.inj (prog_61.symm.trans hA))).symm
    exact ⟨_, Try.func25, chk25⟩
  | 26, hg =>
    obtain rfl : f = 62 := (Option.some.inj (show some 62 = some f from hg)).symm
    obtain rfl : fn = F_posthornref10_Plain := (AFn.code.inj (Option.some.inj (prog_62.symm.trans hA))).symm
    exact ⟨_, Try.func26, chk26⟩
  | 27, hg =>
    obtain rfl : f = 63 := (Option.some.inj (show some 63 = some f from hg)).symm
    obtain rfl : fn = F_posthornref02_Cut := (AFn.code.inj (Option.some.inj (prog_63.symm.trans hA))).symm
    exact ⟨_, Try.func27, chk27⟩
  | 28, hg =>
    obtain rfl : f = 64 := (Option.some.inj (show some 64 = some f from hg)).symm
    obtain rfl : fn = F_sheet_isName := (AFn.code.inj (Option.some.inj (prog_64.symm.trans hA))).symm
    exact ⟨_, Try.func28, chk28⟩
  | 29, hg =>
    obtain rfl : f = 65 := (Option.some.inj (show some 65 = some f from hg)).symm
    obtain rfl : fn = F_sheet_isText := (AFn.code.inj (Option.some.inj (prog_65.symm.trans hA))).symm
    exact ⟨_, Try.func29, chk29⟩
  | 30, hg =>
    obtain rfl : f = 66 := (Option.some.inj (show some 66 = some f from hg)).symm
    obtain rfl : fn = F_strings_Contains := (AFn.code.inj (Option.some.inj (prog_66.symm.trans hA))).symm
    exact ⟨_, Try.func30, chk30⟩
  | 31, hg =>
    obtain rfl : f = 67 := (Option.some.inj (show some 67 = some f from hg)).symm
    obtain rfl : fn = F_posthornref10_Name := (AFn.code.inj (Option.some.inj (prog_67.symm.trans hA))).symm
    exact ⟨_, Try.func31, chk31⟩
  | 32, hg =>
    obtain rfl : f = 68 := (Option.some.inj (show some 68 = some f from hg)).symm
    obtain rfl : fn = F_posthornref10_Text := (AFn.code.inj (Option.some.inj (prog_68.symm.trans hA))).symm
    exact ⟨_, Try.func32, chk32⟩
  | 33, hg =>
    obtain rfl : f = 22 := (Option.some.inj (show some 22 = some f from hg)).symm
    obtain rfl : fn = F_posthornref03_Pair := (AFn.code.inj (Option.some.inj (prog_22.symm.trans hA))).symm
    exact ⟨_, Try.func33, chk33⟩
  | 34, hg =>
    obtain rfl : f = 69 := (Option.some.inj (show some 69 = some f from hg)).symm
    obtain rfl : fn = F_utf_Points := (AFn.code.inj (Option.some.inj (prog_69.symm.trans hA))).symm
    exact ⟨_, Try.func34, chk34⟩
  | 35, hg =>
    obtain rfl : f = 70 := (Option.some.inj (show some 70 = some f from hg)).symm
    obtain rfl : fn = F_sheet_cut := (AFn.code.inj (Option.some.inj (prog_70.symm.trans hA))).symm
    exact ⟨_, Try.func35, chk35⟩
  | 36, hg =>
    obtain rfl : f = 71 := (Option.some.inj (show some 71 = some f from hg)).symm
    obtain rfl : fn = F_sheet_upper := (AFn.code.inj (Option.some.inj (prog_71.symm.trans hA))).symm
    exact ⟨_, Try.func36, chk36⟩
  | 37, hg =>
    obtain rfl : f = 72 := (Option.some.inj (show some 72 = some f from hg)).symm
    obtain rfl : fn = F_strings_HasPrefix := (AFn.code.inj (Option.some.inj (prog_72.symm.trans hA))).symm
    exact ⟨_, Try.func37, chk37⟩
  | 38, hg =>
    obtain rfl : f = 73 := (Option.some.inj (show some 73 = some f from hg)).symm
    rw [prog_73] at hA; cases hA
  | 39, hg =>
    obtain rfl : f = 74 := (Option.some.inj (show some 74 = some f from hg)).symm
    obtain rfl : fn = F_posthornref02_Valid := (AFn.code.inj (Option.some.inj (prog_74.symm.trans hA))).symm
    exact ⟨_, Try.func39, chk39⟩
  | 40, hg =>
    obtain rfl : f = 75 := (Option.some.inj (show some 75 = some f from hg)).symm
    obtain rfl : fn = F_posthornref02_Next := (AFn.code.inj (Option.some.inj (prog_75.symm.trans hA))).symm
    exact ⟨_, Try.func40, chk40⟩
  | 41, hg =>
    obtain rfl : f = 76 := (Option.some.inj (show some 76 = some f from hg)).symm
    obtain rfl : fn = F_strings_Index := (AFn.code.inj (Option.some.inj (prog_76.symm.trans hA))).symm
    exact ⟨_, Try.func41, chk41⟩
  | 42, hg =>
    obtain rfl : f = 77 := (Option.some.inj (show some 77 = some f from hg)).symm
    obtain rfl : fn = F_utf_Next := (AFn.code.inj (Option.some.inj (prog_77.symm.trans hA))).symm
    exact ⟨_, Try.func42, chk42⟩
  | 43, hg =>
    obtain rfl : f = 78 := (Option.some.inj (show some 78 = some f from hg)).symm
    rw [prog_78] at hA; cases hA
  | 44, hg =>
    obtain rfl : f = 79 := (Option.some.inj (show some 79 = some f from hg)).symm
    obtain rfl : fn = F_internal_stringslite_HasPrefix := (AFn.code.inj (Option.some.inj (prog_79.symm.trans hA))).symm
    exact ⟨_, Try.func44, chk44⟩
  | 45, hg => exact absurd (show (none : Option Nat) = some f from hg) (by simp)
  | 46, hg =>
    obtain rfl : f = 80 := (Option.some.inj (show some 80 = some f from hg)).symm
    obtain rfl : fn = F_posthornref02_Points := (AFn.code.inj (Option.some.inj (prog_80.symm.trans hA))).symm
    exact ⟨_, Try.func46, chk46⟩
  | 47, hg =>
    obtain rfl : f = 81 := (Option.some.inj (show some 81 = some f from hg)).symm
    obtain rfl : fn = F_posthornref02_Put := (AFn.code.inj (Option.some.inj (prog_81.symm.trans hA))).symm
    exact ⟨_, Try.func47, chk47⟩
  | 48, hg =>
    obtain rfl : f = 82 := (Option.some.inj (show some 82 = some f from hg)).symm
    rw [prog_82] at hA; cases hA
  | 49, hg =>
    obtain rfl : f = 83 := (Option.some.inj (show some 83 = some f from hg)).symm
    obtain rfl : fn = F_utf_isPoint := (AFn.code.inj (Option.some.inj (prog_83.symm.trans hA))).symm
    exact ⟨_, Try.func49, chk49⟩
  | 50, hg => exact absurd (show (none : Option Nat) = some f from hg) (by simp)
  | 51, hg =>
    obtain rfl : f = 85 := (Option.some.inj (show some 85 = some f from hg)).symm
    obtain rfl : fn = F_posthornref02_Point := (AFn.code.inj (Option.some.inj (prog_85.symm.trans hA))).symm
    exact ⟨_, Try.func51, chk51⟩
  | n + 52, hg => exact absurd (show (none : Option Nat) = some f from hg) (by simp)
set_option maxRecDepth 100000 in
theorem prim_ok : ∀ (f' : FuncId) (f : Nat) (p : List PV → Option PV), gm f' = some f → prog f = some (.prim p) → PrimOK Try.prog gm f' p := by
  intro f' f p hg hA
  match f', hg with
  | 0, hg => exact absurd (show (none : Option Nat) = some f from hg) (by simp)
  | 1, hg => exact absurd (show (none : Option Nat) = some f from hg) (by simp)
  | 2, hg => exact absurd (show (none : Option Nat) = some f from hg) (by simp)
  | 3, hg =>
    obtain rfl : f = 45 := (Option.some.inj (show some 45 = some f from hg)).symm
    rw [prog_45] at hA; cases hA
  | 4, hg =>
    obtain rfl : f = 46 := (Option.some.inj (show some 46 = some f from hg)).symm
    rw [prog_46] at hA; cases hA
  | 5, hg =>
    obtain rfl : f = 52 := (Option.some.inj (show some 52 = some f from hg)).symm
    rw [prog_52] at hA; cases hA
  | 6, hg =>
    obtain rfl : f = 54 := (Option.some.inj (show some 54 = some f from hg)).symm
    rw [prog_54] at hA; cases hA
  | 7, hg =>
    obtain rfl : f = 40 := (Option.some.inj (show some 40 = some f from hg)).symm
    rw [prog_40] at hA; cases hA
  | 8, hg =>
    obtain rfl : f = 41 := (Option.some.inj (show some 41 = some f from hg)).symm
    rw [prog_41] at hA; cases hA
  | 9, hg =>
    obtain rfl : f = 42 := (Option.some.inj (show some 42 = some f from hg)).symm
    rw [prog_42] at hA; cases hA
  | 10, hg =>
    obtain rfl : f = 43 := (Option.some.inj (show some 43 = some f from hg)).symm
    rw [prog_43] at hA; cases hA
  | 11, hg =>
    obtain rfl : f = 44 := (Option.some.inj (show some 44 = some f from hg)).symm
    rw [prog_44] at hA; cases hA
  | 12, hg =>
    obtain rfl : f = 47 := (Option.some.inj (show some 47 = some f from hg)).symm
    rw [prog_47] at hA; cases hA
  | 13, hg =>
    obtain rfl : f = 48 := (Option.some.inj (show some 48 = some f from hg)).symm
    rw [prog_48] at hA; cases hA
  | 14, hg =>
    obtain rfl : f = 49 := (Option.some.inj (show some 49 = some f from hg)).symm
    rw [prog_49] at hA; cases hA
  | 15, hg =>
    obtain rfl : f = 50 := (Option.some.inj (show some 50 = some f from hg)).symm
    rw [prog_50] at hA; cases hA
  | 16, hg =>
    obtain rfl : f = 51 := (Option.some.inj (show some 51 = some f from hg)).symm
    rw [prog_51] at hA; cases hA
  | 17, hg =>
    obtain rfl : f = 8 := (Option.some.inj (show some 8 = some f from hg)).symm
    rw [prog_8] at hA; cases hA
  | 18, hg =>
    obtain rfl : f = 53 := (Option.some.inj (show some 53 = some f from hg)).symm
    rw [prog_53] at hA; cases hA
  | 19, hg =>
    obtain rfl : f = 55 := (Option.some.inj (show some 55 = some f from hg)).symm
    rw [prog_55] at hA; cases hA
  | 20, hg =>
    obtain rfl : f = 56 := (Option.some.inj (show some 56 = some f from hg)).symm
    rw [prog_56] at hA; cases hA
  | 21, hg =>
    obtain rfl : f = 57 := (Option.some.inj (show some 57 = some f from hg)).symm
    rw [prog_57] at hA; cases hA
  | 22, hg =>
    obtain rfl : f = 58 := (Option.some.inj (show some 58 = some f from hg)).symm
    rw [prog_58] at hA; cases hA
  | 23, hg =>
    obtain rfl : f = 59 := (Option.some.inj (show some 59 = some f from hg)).symm
    rw [prog_59] at hA; cases hA
  | 24, hg =>
    obtain rfl : f = 60 := (Option.some.inj (show some 60 = some f from hg)).symm
    rw [prog_60] at hA; cases hA
  | 25, hg =>
    obtain rfl : f = 61 := (Option.some.inj (show some 61 = some f from hg)).symm
    rw [prog_61] at hA; cases hA
  | 26, hg =>
    obtain rfl : f = 62 := (Option.some.inj (show some 62 = some f from hg)).symm
    rw [prog_62] at hA; cases hA
  | 27, hg =>
    obtain rfl : f = 63 := (Option.some.inj (show some 63 = some f from hg)).symm
    rw [prog_63] at hA; cases hA
  | 28, hg =>
    obtain rfl : f = 64 := (Option.some.inj (show some 64 = some f from hg)).symm
    rw [prog_64] at hA; cases hA
  | 29, hg =>
    obtain rfl : f = 65 := (Option.some.inj (show some 65 = some f from hg)).symm
    rw [prog_65] at hA; cases hA
  | 30, hg =>
    obtain rfl : f = 66 := (Option.some.inj (show some 66 = some f from hg)).symm
    rw [prog_66] at hA; cases hA
  | 31, hg =>
    obtain rfl : f = 67 := (Option.some.inj (show some 67 = some f from hg)).symm
    rw [prog_67] at hA; cases hA
  | 32, hg =>
    obtain rfl : f = 68 := (Option.some.inj (show some 68 = some f from hg)).symm
    rw [prog_68] at hA; cases hA
  | 33, hg =>
    obtain rfl : f = 22 := (Option.some.inj (show some 22 = some f from hg)).symm
    rw [prog_22] at hA; cases hA
  | 34, hg =>
    obtain rfl : f = 69 := (Option.some.inj (show some 69 = some f from hg)).symm
    rw [prog_69] at hA; cases hA
  | 35, hg =>
    obtain rfl : f = 70 := (Option.some.inj (show some 70 = some f from hg)).symm
    rw [prog_70] at hA; cases hA
  | 36, hg =>
    obtain rfl : f = 71 := (Option.some.inj (show some 71 = some f from hg)).symm
    rw [prog_71] at hA; cases hA
  | 37, hg =>
    obtain rfl : f = 72 := (Option.some.inj (show some 72 = some f from hg)).symm
    rw [prog_72] at hA; cases hA
  | 38, hg =>
    obtain rfl : f = 73 := (Option.some.inj (show some 73 = some f from hg)).symm
    rw [prog_73] at hA; cases hA
  | 39, hg =>
    obtain rfl : f = 74 := (Option.some.inj (show some 74 = some f from hg)).symm
    rw [prog_74] at hA; cases hA
  | 40, hg =>
    obtain rfl : f = 75 := (Option.some.inj (show some 75 = some f from hg)).symm
    rw [prog_75] at hA; cases hA
  | 41, hg =>
    obtain rfl : f = 76 := (Option.some.inj (show some 76 = some f from hg)).symm
    rw [prog_76] at hA; cases hA
  | 42, hg =>
    obtain rfl : f = 77 := (Option.some.inj (show some 77 = some f from hg)).symm
    rw [prog_77] at hA; cases hA
  | 43, hg =>
    obtain rfl : f = 78 := (Option.some.inj (show some 78 = some f from hg)).symm
    obtain rfl : p = pStrIndexByte := (AFn.prim.inj (Option.some.inj (prog_78.symm.trans hA))).symm
    exact primStrIndexByte (g := gm) Try.lays137 Try.func43 (by kernel_rfl) (by decide)
  | 44, hg =>
    obtain rfl : f = 79 := (Option.some.inj (show some 79 = some f from hg)).symm
    rw [prog_79] at hA; cases hA
  | 45, hg => exact absurd (show (none : Option Nat) = some f from hg) (by simp)
  | 46, hg =>
    obtain rfl : f = 80 := (Option.some.inj (show some 80 = some f from hg)).symm
    rw [prog_80] at hA; cases hA
  | 47, hg =>
    obtain rfl : f = 81 := (Option.some.inj (show some 81 = some f from hg)).symm
    rw [prog_81] at hA; cases hA
  | 48, hg =>
    obtain rfl : f = 82 := (Option.some.inj (show some 82 = some f from hg)).symm
    obtain rfl : p = pStrIndex := (AFn.prim.inj (Option.some.inj (prog_82.symm.trans hA))).symm
    exact primStrIndex (g := gm) (ρ := Try.laysM219_ren) { Try.laysM219 with } (fun κ h => h) Try.func48 (by kernel_rfl) (by decide)
  | 49, hg =>
    obtain rfl : f = 83 := (Option.some.inj (show some 83 = some f from hg)).symm
    rw [prog_83] at hA; cases hA
  | 50, hg => exact absurd (show (none : Option Nat) = some f from hg) (by simp)
  | 51, hg =>
    obtain rfl : f = 85 := (Option.some.inj (show some 85 = some f from hg)).symm
    rw [prog_85] at hA; cases hA
  | n + 52, hg => exact absurd (show (none : Option Nat) = some f from hg) (by simp)
set_option maxRecDepth 100000 in
theorem primS_ok : ∀ (f' : FuncId) (f : Nat) (p : List PV → List (List PV) → Option (PV × Upd)), gm f' = some f → prog f = some (.primS p) → PrimSOK Try.prog gm f' p := by
  intro f' f p hg hA
  match f', hg with
  | 0, hg => exact absurd (show (none : Option Nat) = some f from hg) (by simp)
  | 1, hg => exact absurd (show (none : Option Nat) = some f from hg) (by simp)
  | 2, hg => exact absurd (show (none : Option Nat) = some f from hg) (by simp)
  | 3, hg =>
    obtain rfl : f = 45 := (Option.some.inj (show some 45 = some f from hg)).symm
    rw [prog_45] at hA; cases hA
  | 4, hg =>
    obtain rfl : f = 46 := (Option.some.inj (show some 46 = some f from hg)).symm
    rw [prog_46] at hA; cases hA
  | 5, hg =>
    obtain rfl : f = 52 := (Option.some.inj (show some 52 = some f from hg)).symm
    rw [prog_52] at hA; cases hA
  | 6, hg =>
    obtain rfl : f = 54 := (Option.some.inj (show some 54 = some f from hg)).symm
    rw [prog_54] at hA; cases hA
  | 7, hg =>
    obtain rfl : f = 40 := (Option.some.inj (show some 40 = some f from hg)).symm
    rw [prog_40] at hA; cases hA
  | 8, hg =>
    obtain rfl : f = 41 := (Option.some.inj (show some 41 = some f from hg)).symm
    rw [prog_41] at hA; cases hA
  | 9, hg =>
    obtain rfl : f = 42 := (Option.some.inj (show some 42 = some f from hg)).symm
    rw [prog_42] at hA; cases hA
  | 10, hg =>
    obtain rfl : f = 43 := (Option.some.inj (show some 43 = some f from hg)).symm
    rw [prog_43] at hA; cases hA
  | 11, hg =>
    obtain rfl : f = 44 := (Option.some.inj (show some 44 = some f from hg)).symm
    rw [prog_44] at hA; cases hA
  | 12, hg =>
    obtain rfl : f = 47 := (Option.some.inj (show some 47 = some f from hg)).symm
    rw [prog_47] at hA; cases hA
  | 13, hg =>
    obtain rfl : f = 48 := (Option.some.inj (show some 48 = some f from hg)).symm
    rw [prog_48] at hA; cases hA
  | 14, hg =>
    obtain rfl : f = 49 := (Option.some.inj (show some 49 = some f from hg)).symm
    rw [prog_49] at hA; cases hA
  | 15, hg =>
    obtain rfl : f = 50 := (Option.some.inj (show some 50 = some f from hg)).symm
    rw [prog_50] at hA; cases hA
  | 16, hg =>
    obtain rfl : f = 51 := (Option.some.inj (show some 51 = some f from hg)).symm
    rw [prog_51] at hA; cases hA
  | 17, hg =>
    obtain rfl : f = 8 := (Option.some.inj (show some 8 = some f from hg)).symm
    rw [prog_8] at hA; cases hA
  | 18, hg =>
    obtain rfl : f = 53 := (Option.some.inj (show some 53 = some f from hg)).symm
    rw [prog_53] at hA; cases hA
  | 19, hg =>
    obtain rfl : f = 55 := (Option.some.inj (show some 55 = some f from hg)).symm
    rw [prog_55] at hA; cases hA
  | 20, hg =>
    obtain rfl : f = 56 := (Option.some.inj (show some 56 = some f from hg)).symm
    rw [prog_56] at hA; cases hA
  | 21, hg =>
    obtain rfl : f = 57 := (Option.some.inj (show some 57 = some f from hg)).symm
    rw [prog_57] at hA; cases hA
  | 22, hg =>
    obtain rfl : f = 58 := (Option.some.inj (show some 58 = some f from hg)).symm
    rw [prog_58] at hA; cases hA
  | 23, hg =>
    obtain rfl : f = 59 := (Option.some.inj (show some 59 = some f from hg)).symm
    obtain rfl : p = pBuilderString := (AFn.primS.inj (Option.some.inj (prog_59.symm.trans hA))).symm
    exact primBuilderString (g := gm) Try.lays169 Try.Builder_Extra_169 rfl Try.func23 (by kernel_rfl) (by decide)
  | 24, hg =>
    obtain rfl : f = 60 := (Option.some.inj (show some 60 = some f from hg)).symm
    rw [prog_60] at hA; cases hA
  | 25, hg =>
    obtain rfl : f = 61 := (Option.some.inj (show some 61 = some f from hg)).symm
    rw [prog_61] at hA; cases hA
  | 26, hg =>
    obtain rfl : f = 62 := (Option.some.inj (show some 62 = some f from hg)).symm
    rw [prog_62] at hA; cases hA
  | 27, hg =>
    obtain rfl : f = 63 := (Option.some.inj (show some 63 = some f from hg)).symm
    rw [prog_63] at hA; cases hA
  | 28, hg =>
    obtain rfl : f = 64 := (Option.some.inj (show some 64 = some f from hg)).symm
    rw [prog_64] at hA; cases hA
  | 29, hg =>
    obtain rfl : f = 65 := (Option.some.inj (show some 65 = some f from hg)).symm
    rw [prog_65] at hA; cases hA
  | 30, hg =>
    obtain rfl : f = 66 := (Option.some.inj (show some 66 = some f from hg)).symm
    rw [prog_66] at hA; cases hA
  | 31, hg =>
    obtain rfl : f = 67 := (Option.some.inj (show some 67 = some f from hg)).symm
    rw [prog_67] at hA; cases hA
  | 32, hg =>
    obtain rfl : f = 68 := (Option.some.inj (show some 68 = some f from hg)).symm
    rw [prog_68] at hA; cases hA
  | 33, hg =>
    obtain rfl : f = 22 := (Option.some.inj (show some 22 = some f from hg)).symm
    rw [prog_22] at hA; cases hA
  | 34, hg =>
    obtain rfl : f = 69 := (Option.some.inj (show some 69 = some f from hg)).symm
    rw [prog_69] at hA; cases hA
  | 35, hg =>
    obtain rfl : f = 70 := (Option.some.inj (show some 70 = some f from hg)).symm
    rw [prog_70] at hA; cases hA
  | 36, hg =>
    obtain rfl : f = 71 := (Option.some.inj (show some 71 = some f from hg)).symm
    rw [prog_71] at hA; cases hA
  | 37, hg =>
    obtain rfl : f = 72 := (Option.some.inj (show some 72 = some f from hg)).symm
    rw [prog_72] at hA; cases hA
  | 38, hg =>
    obtain rfl : f = 73 := (Option.some.inj (show some 73 = some f from hg)).symm
    obtain rfl : p = pCopyCheck := (AFn.primS.inj (Option.some.inj (prog_73.symm.trans hA))).symm
    exact primCopyCheck (g := gm) Try.laysCC Try.Builder_X72_CC rfl Try.func38 (by kernel_rfl) (by decide)
  | 39, hg =>
    obtain rfl : f = 74 := (Option.some.inj (show some 74 = some f from hg)).symm
    rw [prog_74] at hA; cases hA
  | 40, hg =>
    obtain rfl : f = 75 := (Option.some.inj (show some 75 = some f from hg)).symm
    rw [prog_75] at hA; cases hA
  | 41, hg =>
    obtain rfl : f = 76 := (Option.some.inj (show some 76 = some f from hg)).symm
    rw [prog_76] at hA; cases hA
  | 42, hg =>
    obtain rfl : f = 77 := (Option.some.inj (show some 77 = some f from hg)).symm
    rw [prog_77] at hA; cases hA
  | 43, hg =>
    obtain rfl : f = 78 := (Option.some.inj (show some 78 = some f from hg)).symm
    rw [prog_78] at hA; cases hA
  | 44, hg =>
    obtain rfl : f = 79 := (Option.some.inj (show some 79 = some f from hg)).symm
    rw [prog_79] at hA; cases hA
  | 45, hg => exact absurd (show (none : Option Nat) = some f from hg) (by simp)
  | 46, hg =>
    obtain rfl : f = 80 := (Option.some.inj (show some 80 = some f from hg)).symm
    rw [prog_80] at hA; cases hA
  | 47, hg =>
    obtain rfl : f = 81 := (Option.some.inj (show some 81 = some f from hg)).symm
    rw [prog_81] at hA; cases hA
  | 48, hg =>
    obtain rfl : f = 82 := (Option.some.inj (show some 82 = some f from hg)).symm
    rw [prog_82] at hA; cases hA
  | 49, hg =>
    obtain rfl : f = 83 := (Option.some.inj (show some 83 = some f from hg)).symm
    rw [prog_83] at hA; cases hA
  | 50, hg => exact absurd (show (none : Option Nat) = some f from hg) (by simp)
  | 51, hg =>
    obtain rfl : f = 85 := (Option.some.inj (show some 85 = some f from hg)).symm
    rw [prog_85] at hA; cases hA
  | n + 52, hg => exact absurd (show (none : Option Nat) = some f from hg) (by simp)
theorem linked : Linked Try.prog gm prog := ⟨code_ok, prim_ok, primS_ok, by kernel_rfl⟩
end Go.Ab.Ytiiedcmkmnfdiaa
