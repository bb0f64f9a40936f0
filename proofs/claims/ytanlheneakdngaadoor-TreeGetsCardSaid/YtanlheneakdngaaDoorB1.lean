/-
  The abstract program belongs to this seat's program.
-/
import Derived.Test.YtanlheneakdngaaDoorA3
import Derived.Test.YtanlheneakdngaaDoorA5
import Derived.KernelRfl
import Derived.Test.YtanlheneakdngaaDoorProg
import Derived.Test.YtanlheneakdngaaDoorShelf
set_option linter.unusedVariables false
set_option linter.unusedSimpArgs false
namespace Go.Ab.YtanlheneakdngaaDoor
open Go.Proofs Go.Shelf
set_option maxRecDepth 20000
def gfn : FuncId → Option Nat := fun f => match f with
  | 7 => some 336
  | 9 => some 316
  | 10 => some 317
  | 11 => some 318
  | 12 => some 319
  | 14 => some 321
  | 16 => some 324
  | 18 => some 326
  | 19 => some 330
  | 20 => some 331
  | 21 => some 92
  | 22 => some 332
  | 23 => some 335
  | 24 => some 333
  | 25 => some 334
  | 26 => some 337
  | 27 => some 47
  | 28 => some 339
  | 29 => some 48
  | 32 => some 341
  | 34 => some 89
  | 35 => some 343
  | 38 => some 50
  | 39 => some 60
  | 40 => some 61
  | 44 => some 345
  | 46 => some 96
  | 47 => some 69
  | 48 => some 97
  | 49 => some 55
  | 50 => some 346
  | 56 => some 64
  | 57 => some 65
  | 58 => some 66
  | 59 => some 53
  | 64 => some 101
  | 65 => some 77
  | 66 => some 102
  | 67 => some 32
  | 68 => some 70
  | 69 => some 71
  | 70 => some 72
  | 73 => some 76
  | 75 => some 103
  | 76 => some 83
  | 82 => some 78
  | 83 => some 79
  | 84 => some 82
  | 86 => some 104
  | 87 => some 108
  | 93 => some 105
  | 94 => some 106
  | 95 => some 107
  | 98 => some 109
  | _ => none
def gm : GMap := { fn := gfn, tB := 0, tU := 5, inv := fun κ => ∃ m, κ.C (Tryd.laysM185_ren.g 1) 0 = some (.int .i64 m), mono := fun _ _ h ⟨m, hm⟩ => ⟨m, h _ _ _ hm⟩, glob := fun _ => none, globOK := fun _ _ _ _ h => by cases h }
theorem chk7 : chkFn Tryd.prog gm Tryd.f7 F_posthornlaw11_TreeGets = true := by kernel_rfl
theorem chk9 : chkFn Tryd.prog gm Tryd.f9 F_posthornlaw11_Great = true := by kernel_rfl
theorem chk10 : chkFn Tryd.prog gm Tryd.f10 F_posthornlaw11_few = true := by kernel_rfl
theorem chk11 : chkFn Tryd.prog gm Tryd.f11 F_posthornlaw11_alive = true := by kernel_rfl
theorem chk12 : chkFn Tryd.prog gm Tryd.f12 F_tree_Write = true := by kernel_rfl
theorem chk14 : chkFn Tryd.prog gm Tryd.f14 F_tree_Right = true := by kernel_rfl
theorem chk16 : chkFn Tryd.prog gm Tryd.f16 F_tree_Read = true := by kernel_rfl
theorem chk18 : chkFn Tryd.prog gm Tryd.f18 F_posthornref11_Same = true := by kernel_rfl
theorem chk19 : chkFn Tryd.prog gm Tryd.f19 F_tree_Get = true := by kernel_rfl
theorem chk20 : chkFn Tryd.prog gm Tryd.f20 F_posthornref11_All = true := by kernel_rfl
theorem chk21 : chkFn Tryd.prog gm Tryd.f21 F_posthornref10_Same = true := by kernel_rfl
theorem chk22 : chkFn Tryd.prog gm Tryd.f22 F_tree_All = true := by kernel_rfl
theorem chk23 : chkFn Tryd.prog gm Tryd.f23 F_posthornref11_SameAll = true := by kernel_rfl
theorem chk24 : chkFn Tryd.prog gm Tryd.f24 F_tree_Find = true := by kernel_rfl
theorem chk25 : chkFn Tryd.prog gm Tryd.f25 F_posthornref11_Find = true := by kernel_rfl
theorem chk26 : chkFn Tryd.prog gm Tryd.f26 F_posthornref11_Count = true := by kernel_rfl
theorem chk27 : chkFn Tryd.prog gm Tryd.f27 F_posthornlaw10_Great = true := by kernel_rfl
theorem chk28 : chkFn Tryd.prog gm Tryd.f28 F_tree_lines = true := by kernel_rfl
theorem chk29 : chkFn Tryd.prog gm Tryd.f29 F_sheet_Write = true := by kernel_rfl
theorem chk32 : chkFn Tryd.prog gm Tryd.f32 F_P_tree_meter_right = true := by kernel_rfl
theorem chk34 : chkFn Tryd.prog gm Tryd.f34 F_sheet_Read = true := by kernel_rfl
theorem chk35 : chkFn Tryd.prog gm Tryd.f35 F_tree_read = true := by kernel_rfl
theorem chk38 : chkFn Tryd.prog gm Tryd.f38 F_sheet_Right = true := by kernel_rfl
theorem chk39 : chkFn Tryd.prog gm Tryd.f39 F_sheet_line = true := by kernel_rfl
theorem chk40 : chkFn Tryd.prog gm Tryd.f40 F_utf_Cut = true := by kernel_rfl
theorem chk44 : chkFn Tryd.prog gm Tryd.f44 F_tree_isName = true := by kernel_rfl
theorem chk46 : chkFn Tryd.prog gm Tryd.f46 F_sheet_unfold = true := by kernel_rfl
theorem chk47 : chkFn Tryd.prog gm Tryd.f47 F_utf_Points = true := by kernel_rfl
theorem chk48 : chkFn Tryd.prog gm Tryd.f48 F_sheet_lines = true := by kernel_rfl
theorem chk49 : chkFn Tryd.prog gm Tryd.f49 F_sheet_One = true := by kernel_rfl
theorem chk50 : chkFn Tryd.prog gm Tryd.f50 F_tree_upper = true := by kernel_rfl
theorem chk56 : chkFn Tryd.prog gm Tryd.f56 F_sheet_isName = true := by kernel_rfl
theorem chk57 : chkFn Tryd.prog gm Tryd.f57 F_sheet_isText = true := by kernel_rfl
theorem chk58 : chkFn Tryd.prog gm Tryd.f58 F_strings_Contains = true := by kernel_rfl
theorem chk59 : chkFn Tryd.prog gm Tryd.f59 F_utf_Valid = true := by kernel_rfl
theorem chk64 : chkFn Tryd.prog gm Tryd.f64 F_bytes_ReplaceAll = true := by kernel_rfl
theorem chk65 : chkFn Tryd.prog gm Tryd.f65 F_utf_Next = true := by kernel_rfl
theorem chk66 : chkFn Tryd.prog gm Tryd.f66 F_sheet_lines_c1 = true := by kernel_rfl
theorem chk68 : chkFn Tryd.prog gm Tryd.f68 F_sheet_cut = true := by kernel_rfl
theorem chk69 : chkFn Tryd.prog gm Tryd.f69 F_sheet_upper = true := by kernel_rfl
theorem chk70 : chkFn Tryd.prog gm Tryd.f70 F_strings_HasPrefix = true := by kernel_rfl
theorem chk73 : chkFn Tryd.prog gm Tryd.f73 F_strings_Index = true := by kernel_rfl
theorem chk75 : chkFn Tryd.prog gm Tryd.f75 F_bytes_Replace = true := by kernel_rfl
theorem chk76 : chkFn Tryd.prog gm Tryd.f76 F_utf_isPoint = true := by kernel_rfl
theorem chk83 : chkFn Tryd.prog gm Tryd.f83 F_internal_stringslite_HasPrefix = true := by kernel_rfl
theorem chk86 : chkFn Tryd.prog gm Tryd.f86 F_bytes_Count = true := by kernel_rfl
theorem chk87 : chkFn Tryd.prog gm Tryd.f87 F_unicode_utf8_DecodeRune = true := by kernel_rfl
theorem chk93 : chkFn Tryd.prog gm Tryd.f93 F_unicode_utf8_RuneCount = true := by kernel_rfl
set_option maxRecDepth 100000 in
theorem code_ok : ∀ (f' : FuncId) (f : Nat) (fn : ACFn), gm f' = some f → prog f = some (.code fn) → ∃ pf, Tryd.prog.funcs[f']? = some pf ∧ chkFn Tryd.prog gm pf fn = true := by
  intro f' f fn hg hA
  match f', hg with
  | 0, hg => exact absurd (show (none : Option Nat) = some f from hg) (by simp)
  | 1, hg => exact absurd (show (none : Option Nat) = some f from hg) (by simp)
  | 2, hg => exact absurd (show (none : Option Nat) = some f from hg) (by simp)
  | 3, hg => exact absurd (show (none : Option Nat) = some f from hg) (by simp)
  | 4, hg => exact absurd (show (none : Option Nat) = some f from hg) (by simp)
  | 5, hg => exact absurd (show (none : Option Nat) = some f from hg) (by simp)
  | 6, hg => exact absurd (show (none : Option Nat) = some f from hg) (by simp)
  | 7, hg =>
    obtain rfl : f = 336 := (Option.some.inj (show some 336 = some f from hg)).symm
    obtain rfl : fn = F_posthornlaw11_TreeGets := (AFn.code.inj (Option.some.inj (prog_336.symm.trans hA))).symm
    exact ⟨_, Tryd.func7, chk7⟩
  | 8, hg => exact absurd (show (none : Option Nat) = some f from hg) (by simp)
  | 9, hg =>
    obtain rfl : f = 316 := (Option.some.inj (show some 316 = some f from hg)).symm
    obtain rfl : fn = F_posthornlaw11_Great := (AFn.code.inj (Option.some.inj (prog_316.symm.trans hA))).symm
    exact ⟨_, Tryd.func9, chk9⟩
  | 10, hg =>
    obtain rfl : f = 317 := (Option.some.inj (show some 317 = some f from hg)).symm
    obtain rfl : fn = F_posthornlaw11_few := (AFn.code.inj (Option.some.inj (prog_317.symm.trans hA))).symm
    exact ⟨_, Tryd.func10, chk10⟩
  | 11, hg =>
    obtain rfl : f = 318 := (Option.some.inj (show some 318 = some f from hg)).symm
    obtain rfl : fn = F_posthornlaw11_alive := (AFn.code.inj (Option.some.inj (prog_318.symm.trans hA))).symm
    exact ⟨_, Tryd.func11, chk11⟩
  | 12, hg =>
    obtain rfl : f = 319 := (Option.some.inj (show some 319 = some f from hg)).symm
    obtain rfl : fn = F_tree_Write := (AFn.code.inj (Option.some.inj (prog_319.symm.trans hA))).symm
    exact ⟨_, Tryd.func12, chk12⟩
  | 13, hg => exact absurd (show (none : Option Nat) = some f from hg) (by simp)
  | 14, hg =>
    obtain rfl : f = 321 := (Option.some.inj (show some 321 = some f from hg)).symm
    obtain rfl : fn = F_tree_Right := (AFn.code.inj (Option.some.inj (prog_321.symm.trans hA))).symm
    exact ⟨_, Tryd.func14, chk14⟩
  | 15, hg => exact absurd (show (none : Option Nat) = some f from hg) (by simp)
  | 16, hg =>
    obtain rfl : f = 324 := (Option.some.inj (show some 324 = some f from hg)).symm
    obtain rfl : fn = F_tree_Read := (AFn.code.inj (Option.some.inj (prog_324.symm.trans hA))).symm
    exact ⟨_, Tryd.func16, chk16⟩
  | 17, hg => exact absurd (show (none : Option Nat) = some f from hg) (by simp)
  | 18, hg =>
    obtain rfl : f = 326 := (Option.some.inj (show some 326 = some f from hg)).symm
    obtain rfl : fn = F_posthornref11_Same := (AFn.code.inj (Option.some.inj (prog_326.symm.trans hA))).symm
    exact ⟨_, Tryd.func18, chk18⟩
  | 19, hg =>
    obtain rfl : f = 330 := (Option.some.inj (show some 330 = some f from hg)).symm
    obtain rfl : fn = F_tree_Get := (AFn.code.inj (Option.some.inj (prog_330.symm.trans hA))).symm
    exact ⟨_, Tryd.func19, chk19⟩
  | 20, hg =>
    obtain rfl : f = 331 := (Option.some.inj (show some 331 = some f from hg)).symm
    obtain rfl : fn = F_posthornref11_All := (AFn.code.inj (Option.some.inj (prog_331.symm.trans hA))).symm
    exact ⟨_, Tryd.func20, chk20⟩
  | 21, hg =>
    obtain rfl : f = 92 := (Option.some.inj (show some 92 = some f from hg)).symm
    obtain rfl : fn = F_posthornref10_Same := (AFn.code.inj (Option.some.inj (prog_92.symm.trans hA))).symm
    exact ⟨_, Tryd.func21, chk21⟩
  | 22, hg =>
    obtain rfl : f = 332 := (Option.some.inj (show some 332 = some f from hg)).symm
    obtain rfl : fn = F_tree_All := (AFn.code.inj (Option.some.inj (prog_332.symm.trans hA))).symm
    exact ⟨_, Tryd.func22, chk22⟩
  | 23, hg =>
    obtain rfl : f = 335 := (Option.some.inj (show some 335 = some f from hg)).symm
    obtain rfl : fn = F_posthornref11_SameAll := (AFn.code.inj (Option.some.inj (prog_335.symm.trans hA))).symm
    exact ⟨_, Tryd.func23, chk23⟩
  | 24, hg =>
    obtain rfl : f = 333 := (Option.some.inj (show some 333 = some f from hg)).symm
    obtain rfl : fn = F_tree_Find := (AFn.code.inj (Option.some.inj (prog_333.symm.trans hA))).symm
    exact ⟨_, Tryd.func24, chk24⟩
  | 25, hg =>
    obtain rfl : f = 334 := (Option.some.inj (show some 334 = some f from hg)).symm
    obtain rfl : fn = F_posthornref11_Find := (AFn.code.inj (Option.some.inj (prog_334.symm.trans hA))).symm
    exact ⟨_, Tryd.func25, chk25⟩
  | 26, hg =>
    obtain rfl : f = 337 := (Option.some.inj (show some 337 = some f from hg)).symm
    obtain rfl : fn = F_posthornref11_Count := (AFn.code.inj (Option.some.inj (prog_337.symm.trans hA))).symm
    exact ⟨_, Tryd.func26, chk26⟩
  | 27, hg =>
    obtain rfl : f = 47 := (Option.some.inj (show some 47 = some f from hg)).symm
    obtain rfl : fn = F_posthornlaw10_Great := (AFn.code.inj (Option.some.inj (prog_47.symm.trans hA))).symm
    exact ⟨_, Tryd.func27, chk27⟩
  | 28, hg =>
    obtain rfl : f = 339 := (Option.some.inj (show some 339 = some f from hg)).symm
    obtain rfl : fn = F_tree_lines := (AFn.code.inj (Option.some.inj (prog_339.symm.trans hA))).symm
    exact ⟨_, Tryd.func28, chk28⟩
  | 29, hg =>
    obtain rfl : f = 48 := (Option.some.inj (show some 48 = some f from hg)).symm
    obtain rfl : fn = F_sheet_Write := (AFn.code.inj (Option.some.inj (prog_48.symm.trans hA))).symm
    exact ⟨_, Tryd.func29, chk29⟩
  | 30, hg => exact absurd (show (none : Option Nat) = some f from hg) (by simp)
  | 31, hg => exact absurd (show (none : Option Nat) = some f from hg) (by simp)
  | 32, hg =>
    obtain rfl : f = 341 := (Option.some.inj (show some 341 = some f from hg)).symm
    obtain rfl : fn = F_P_tree_meter_right := (AFn.code.inj (Option.some.inj (prog_341.symm.trans hA))).symm
    exact ⟨_, Tryd.func32, chk32⟩
  | 33, hg => exact absurd (show (none : Option Nat) = some f from hg) (by simp)
  | 34, hg =>
    obtain rfl : f = 89 := (Option.some.inj (show some 89 = some f from hg)).symm
    obtain rfl : fn = F_sheet_Read := (AFn.code.inj (Option.some.inj (prog_89.symm.trans hA))).symm
    exact ⟨_, Tryd.func34, chk34⟩
  | 35, hg =>
    obtain rfl : f = 343 := (Option.some.inj (show some 343 = some f from hg)).symm
    obtain rfl : fn = F_tree_read := (AFn.code.inj (Option.some.inj (prog_343.symm.trans hA))).symm
    exact ⟨_, Tryd.func35, chk35⟩
  | 36, hg => exact absurd (show (none : Option Nat) = some f from hg) (by simp)
  | 37, hg => exact absurd (show (none : Option Nat) = some f from hg) (by simp)
  | 38, hg =>
    obtain rfl : f = 50 := (Option.some.inj (show some 50 = some f from hg)).symm
    obtain rfl : fn = F_sheet_Right := (AFn.code.inj (Option.some.inj (prog_50.symm.trans hA))).symm
    exact ⟨_, Tryd.func38, chk38⟩
  | 39, hg =>
    obtain rfl : f = 60 := (Option.some.inj (show some 60 = some f from hg)).symm
    obtain rfl : fn = F_sheet_line := (AFn.code.inj (Option.some.inj (prog_60.symm.trans hA))).symm
    exact ⟨_, Tryd.func39, chk39⟩
  | 40, hg =>
    obtain rfl : f = 61 := (Option.some.inj (show some 61 = some f from hg)).symm
    obtain rfl : fn = F_utf_Cut := (AFn.code.inj (Option.some.inj (prog_61.symm.trans hA))).symm
    exact ⟨_, Tryd.func40, chk40⟩
  | 41, hg => exact absurd (show (none : Option Nat) = some f from hg) (by simp)
  | 42, hg => exact absurd (show (none : Option Nat) = some f from hg) (by simp)
  | 43, hg => exact absurd (show (none : Option Nat) = some f from hg) (by simp)
  | 44, hg =>
    obtain rfl : f = 345 := (Option.some.inj (show some 345 = some f from hg)).symm
    obtain rfl : fn = F_tree_isName := (AFn.code.inj (Option.some.inj (prog_345.symm.trans hA))).symm
    exact ⟨_, Tryd.func44, chk44⟩
  | 45, hg => exact absurd (show (none : Option Nat) = some f from hg) (by simp)
  | 46, hg =>
    obtain rfl : f = 96 := (Option.some.inj (show some 96 = some f from hg)).symm
    obtain rfl : fn = F_sheet_unfold := (AFn.code.inj (Option.some.inj (prog_96.symm.trans hA))).symm
    exact ⟨_, Tryd.func46, chk46⟩
  | 47, hg =>
    obtain rfl : f = 69 := (Option.some.inj (show some 69 = some f from hg)).symm
    obtain rfl : fn = F_utf_Points := (AFn.code.inj (Option.some.inj (prog_69.symm.trans hA))).symm
    exact ⟨_, Tryd.func47, chk47⟩
  | 48, hg =>
    obtain rfl : f = 97 := (Option.some.inj (show some 97 = some f from hg)).symm
    obtain rfl : fn = F_sheet_lines := (AFn.code.inj (Option.some.inj (prog_97.symm.trans hA))).symm
    exact ⟨_, Tryd.func48, chk48⟩
  | 49, hg =>
    obtain rfl : f = 55 := (Option.some.inj (show some 55 = some f from hg)).symm
    obtain rfl : fn = F_sheet_One := (AFn.code.inj (Option.some.inj (prog_55.symm.trans hA))).symm
    exact ⟨_, Tryd.func49, chk49⟩
  | 50, hg =>
    obtain rfl : f = 346 := (Option.some.inj (show some 346 = some f from hg)).symm
    obtain rfl : fn = F_tree_upper := (AFn.code.inj (Option.some.inj (prog_346.symm.trans hA))).symm
    exact ⟨_, Tryd.func50, chk50⟩
  | 51, hg => exact absurd (show (none : Option Nat) = some f from hg) (by simp)
  | 52, hg => exact absurd (show (none : Option Nat) = some f from hg) (by simp)
  | 53, hg => exact absurd (show (none : Option Nat) = some f from hg) (by simp)
  | 54, hg => exact absurd (show (none : Option Nat) = some f from hg) (by simp)
  | 55, hg => exact absurd (show (none : Option Nat) = some f from hg) (by simp)
  | 56, hg =>
    obtain rfl : f = 64 := (Option.some.inj (show some 64 = some f from hg)).symm
    obtain rfl : fn = F_sheet_isName := (AFn.code.inj (Option.some.inj (prog_64.symm.trans hA))).symm
    exact ⟨_, Tryd.func56, chk56⟩
  | 57, hg =>
    obtain rfl : f = 65 := (Option.some.inj (show some 65 = some f from hg)).symm
    obtain rfl : fn = F_sheet_isText := (AFn.code.inj (Option.some.inj (prog_65.symm.trans hA))).symm
    exact ⟨_, Tryd.func57, chk57⟩
  | 58, hg =>
    obtain rfl : f = 66 := (Option.some.inj (show some 66 = some f from hg)).symm
    obtain rfl : fn = F_strings_Contains := (AFn.code.inj (Option.some.inj (prog_66.symm.trans hA))).symm
    exact ⟨_, Tryd.func58, chk58⟩
  | 59, hg =>
    obtain rfl : f = 53 := (Option.some.inj (show some 53 = some f from hg)).symm
    obtain rfl : fn = F_utf_Valid := (AFn.code.inj (Option.some.inj (prog_53.symm.trans hA))).symm
    exact ⟨_, Tryd.func59, chk59⟩
  | 60, hg => exact absurd (show (none : Option Nat) = some f from hg) (by simp)
  | 61, hg => exact absurd (show (none : Option Nat) = some f from hg) (by simp)
  | 62, hg => exact absurd (show (none : Option Nat) = some f from hg) (by simp)
  | 63, hg => exact absurd (show (none : Option Nat) = some f from hg) (by simp)
  | 64, hg =>
    obtain rfl : f = 101 := (Option.some.inj (show some 101 = some f from hg)).symm
    obtain rfl : fn = F_bytes_ReplaceAll := (AFn.code.inj (Option.some.inj (prog_101.symm.trans hA))).symm
    exact ⟨_, Tryd.func64, chk64⟩
  | 65, hg =>
    obtain rfl : f = 77 := (Option.some.inj (show some 77 = some f from hg)).symm
    obtain rfl : fn = F_utf_Next := (AFn.code.inj (Option.some.inj (prog_77.symm.trans hA))).symm
    exact ⟨_, Tryd.func65, chk65⟩
  | 66, hg =>
    obtain rfl : f = 102 := (Option.some.inj (show some 102 = some f from hg)).symm
    obtain rfl : fn = F_sheet_lines_c1 := (AFn.code.inj (Option.some.inj (prog_102.symm.trans hA))).symm
    exact ⟨_, Tryd.func66, chk66⟩
  | 67, hg =>
    obtain rfl : f = 32 := (Option.some.inj (show some 32 = some f from hg)).symm
    rw [prog_32] at hA; cases hA
  | 68, hg =>
    obtain rfl : f = 70 := (Option.some.inj (show some 70 = some f from hg)).symm
    obtain rfl : fn = F_sheet_cut := (AFn.code.inj (Option.some.inj (prog_70.symm.trans hA))).symm
    exact ⟨_, Tryd.func68, chk68⟩
  | 69, hg =>
    obtain rfl : f = 71 := (Option.some.inj (show some 71 = some f from hg)).symm
    obtain rfl : fn = F_sheet_upper := (AFn.code.inj (Option.some.inj (prog_71.symm.trans hA))).symm
    exact ⟨_, Tryd.func69, chk69⟩
  | 70, hg =>
    obtain rfl : f = 72 := (Option.some.inj (show some 72 = some f from hg)).symm
    obtain rfl : fn = F_strings_HasPrefix := (AFn.code.inj (Option.some.inj (prog_72.symm.trans hA))).symm
    exact ⟨_, Tryd.func70, chk70⟩
  | 71, hg => exact absurd (show (none : Option Nat) = some f from hg) (by simp)
  | 72, hg => exact absurd (show (none : Option Nat) = some f from hg) (by simp)
  | 73, hg =>
    obtain rfl : f = 76 := (Option.some.inj (show some 76 = some f from hg)).symm
    obtain rfl : fn = F_strings_Index := (AFn.code.inj (Option.some.inj (prog_76.symm.trans hA))).symm
    exact ⟨_, Tryd.func73, chk73⟩
  | 74, hg => exact absurd (show (none : Option Nat) = some f from hg) (by simp)
  | 75, hg =>
    obtain rfl : f = 103 := (Option.some.inj (show some 103 = some f from hg)).symm
    obtain rfl : fn = F_bytes_Replace := (AFn.code.inj (Option.some.inj (prog_103.symm.trans hA))).symm
    exact ⟨_, Tryd.func75, chk75⟩
  | 76, hg =>
    obtain rfl : f = 83 := (Option.some.inj (show some 83 = some f from hg)).symm
    obtain rfl : fn = F_utf_isPoint := (AFn.code.inj (Option.some.inj (prog_83.symm.trans hA))).symm
    exact ⟨_, Tryd.func76, chk76⟩
  | 77, hg => exact absurd (show (none : Option Nat) = some f from hg) (by simp)
  | 78, hg => exact absurd (show (none : Option Nat) = some f from hg) (by simp)
  | 79, hg => exact absurd (show (none : Option Nat) = some f from hg) (by simp)
  | 80, hg => exact absurd (show (none : Option Nat) = some f from hg) (by simp)
  | 81, hg => exact absurd (show (none : Option Nat) = some f from hg) (by simp)
  | 82, hg =>
    obtain rfl : f = 78 := (Option.some.inj (show some 78 = some f from hg)).symm
    rw [prog_78] at hA; cases hA
  | 83, hg =>
    obtain rfl : f = 79 := (Option.some.inj (show some 79 = some f from hg)).symm
    obtain rfl : fn = F_internal_stringslite_HasPrefix := (AFn.code.inj (Option.some.inj (prog_79.symm.trans hA))).symm
    exact ⟨_, Tryd.func83, chk83⟩
  | 84, hg =>
    obtain rfl : f = 82 := (Option.some.inj (show some 82 = some f from hg)).symm
    rw [prog_82] at hA; cases hA
  | 85, hg => exact absurd (show (none : Option Nat) = some f from hg) (by simp)
  | 86, hg =>
    obtain rfl : f = 104 := (Option.some.inj (show some 104 = some f from hg)).symm
    obtain rfl : fn = F_bytes_Count := (AFn.code.inj (Option.some.inj (prog_104.symm.trans hA))).symm
    exact ⟨_, Tryd.func86, chk86⟩
  | 87, hg =>
    obtain rfl : f = 108 := (Option.some.inj (show some 108 = some f from hg)).symm
    obtain rfl : fn = F_unicode_utf8_DecodeRune := (AFn.code.inj (Option.some.inj (prog_108.symm.trans hA))).symm
    exact ⟨_, Tryd.func87, chk87⟩
  | 88, hg => exact absurd (show (none : Option Nat) = some f from hg) (by simp)
  | 89, hg => exact absurd (show (none : Option Nat) = some f from hg) (by simp)
  | 90, hg => exact absurd (show (none : Option Nat) = some f from hg) (by simp)
  | 91, hg => exact absurd (show (none : Option Nat) = some f from hg) (by simp)
  | 92, hg => exact absurd (show (none : Option Nat) = some f from hg) (by simp)
  | 93, hg =>
    obtain rfl : f = 105 := (Option.some.inj (show some 105 = some f from hg)).symm
    obtain rfl : fn = F_unicode_utf8_RuneCount := (AFn.code.inj (Option.some.inj (prog_105.symm.trans hA))).symm
    exact ⟨_, Tryd.func93, chk93⟩
  | 94, hg =>
    obtain rfl : f = 106 := (Option.some.inj (show some 106 = some f from hg)).symm
    rw [show prog 106 = none from rfl] at hA; cases hA
  | 95, hg =>
    obtain rfl : f = 107 := (Option.some.inj (show some 107 = some f from hg)).symm
    rw [show prog 107 = none from rfl] at hA; cases hA
  | 96, hg => exact absurd (show (none : Option Nat) = some f from hg) (by simp)
  | 97, hg => exact absurd (show (none : Option Nat) = some f from hg) (by simp)
  | 98, hg =>
    obtain rfl : f = 109 := (Option.some.inj (show some 109 = some f from hg)).symm
    rw [show prog 109 = none from rfl] at hA; cases hA
  | n + 99, hg => exact absurd (show (none : Option Nat) = some f from hg) (by simp)
set_option maxRecDepth 100000 in
theorem prim_ok : ∀ (f' : FuncId) (f : Nat) (p : List PV → Option PV), gm f' = some f → prog f = some (.prim p) → PrimOK Tryd.prog gm f' p := by
  intro f' f p hg hA
  match f', hg with
  | 0, hg => exact absurd (show (none : Option Nat) = some f from hg) (by simp)
  | 1, hg => exact absurd (show (none : Option Nat) = some f from hg) (by simp)
  | 2, hg => exact absurd (show (none : Option Nat) = some f from hg) (by simp)
  | 3, hg => exact absurd (show (none : Option Nat) = some f from hg) (by simp)
  | 4, hg => exact absurd (show (none : Option Nat) = some f from hg) (by simp)
  | 5, hg => exact absurd (show (none : Option Nat) = some f from hg) (by simp)
  | 6, hg => exact absurd (show (none : Option Nat) = some f from hg) (by simp)
  | 7, hg =>
    obtain rfl : f = 336 := (Option.some.inj (show some 336 = some f from hg)).symm
    rw [prog_336] at hA; cases hA
  | 8, hg => exact absurd (show (none : Option Nat) = some f from hg) (by simp)
  | 9, hg =>
    obtain rfl : f = 316 := (Option.some.inj (show some 316 = some f from hg)).symm
    rw [prog_316] at hA; cases hA
  | 10, hg =>
    obtain rfl : f = 317 := (Option.some.inj (show some 317 = some f from hg)).symm
    rw [prog_317] at hA; cases hA
  | 11, hg =>
    obtain rfl : f = 318 := (Option.some.inj (show some 318 = some f from hg)).symm
    rw [prog_318] at hA; cases hA
  | 12, hg =>
    obtain rfl : f = 319 := (Option.some.inj (show some 319 = some f from hg)).symm
    rw [prog_319] at hA; cases hA
  | 13, hg => exact absurd (show (none : Option Nat) = some f from hg) (by simp)
  | 14, hg =>
    obtain rfl : f = 321 := (Option.some.inj (show some 321 = some f from hg)).symm
    rw [prog_321] at hA; cases hA
  | 15, hg => exact absurd (show (none : Option Nat) = some f from hg) (by simp)
  | 16, hg =>
    obtain rfl : f = 324 := (Option.some.inj (show some 324 = some f from hg)).symm
    rw [prog_324] at hA; cases hA
  | 17, hg => exact absurd (show (none : Option Nat) = some f from hg) (by simp)
  | 18, hg =>
    obtain rfl : f = 326 := (Option.some.inj (show some 326 = some f from hg)).symm
    rw [prog_326] at hA; cases hA
  | 19, hg =>
    obtain rfl : f = 330 := (Option.some.inj (show some 330 = some f from hg)).symm
    rw [prog_330] at hA; cases hA
  | 20, hg =>
    obtain rfl : f = 331 := (Option.some.inj (show some 331 = some f from hg)).symm
    rw [prog_331] at hA; cases hA
  | 21, hg =>
    obtain rfl : f = 92 := (Option.some.inj (show some 92 = some f from hg)).symm
    rw [prog_92] at hA; cases hA
  | 22, hg =>
    obtain rfl : f = 332 := (Option.some.inj (show some 332 = some f from hg)).symm
    rw [prog_332] at hA; cases hA
  | 23, hg =>
    obtain rfl : f = 335 := (Option.some.inj (show some 335 = some f from hg)).symm
    rw [prog_335] at hA; cases hA
  | 24, hg =>
    obtain rfl : f = 333 := (Option.some.inj (show some 333 = some f from hg)).symm
    rw [prog_333] at hA; cases hA
  | 25, hg =>
    obtain rfl : f = 334 := (Option.some.inj (show some 334 = some f from hg)).symm
    rw [prog_334] at hA; cases hA
  | 26, hg =>
    obtain rfl : f = 337 := (Option.some.inj (show some 337 = some f from hg)).symm
    rw [prog_337] at hA; cases hA
  | 27, hg =>
    obtain rfl : f = 47 := (Option.some.inj (show some 47 = some f from hg)).symm
    rw [prog_47] at hA; cases hA
  | 28, hg =>
    obtain rfl : f = 339 := (Option.some.inj (show some 339 = some f from hg)).symm
    rw [prog_339] at hA; cases hA
  | 29, hg =>
    obtain rfl : f = 48 := (Option.some.inj (show some 48 = some f from hg)).symm
    rw [prog_48] at hA; cases hA
  | 30, hg => exact absurd (show (none : Option Nat) = some f from hg) (by simp)
  | 31, hg => exact absurd (show (none : Option Nat) = some f from hg) (by simp)
  | 32, hg =>
    obtain rfl : f = 341 := (Option.some.inj (show some 341 = some f from hg)).symm
    rw [prog_341] at hA; cases hA
  | 33, hg => exact absurd (show (none : Option Nat) = some f from hg) (by simp)
  | 34, hg =>
    obtain rfl : f = 89 := (Option.some.inj (show some 89 = some f from hg)).symm
    rw [prog_89] at hA; cases hA
  | 35, hg =>
    obtain rfl : f = 343 := (Option.some.inj (show some 343 = some f from hg)).symm
    rw [prog_343] at hA; cases hA
  | 36, hg => exact absurd (show (none : Option Nat) = some f from hg) (by simp)
  | 37, hg => exact absurd (show (none : Option Nat) = some f from hg) (by simp)
  | 38, hg =>
    obtain rfl : f = 50 := (Option.some.inj (show some 50 = some f from hg)).symm
    rw [prog_50] at hA; cases hA
  | 39, hg =>
    obtain rfl : f = 60 := (Option.some.inj (show some 60 = some f from hg)).symm
    rw [prog_60] at hA; cases hA
  | 40, hg =>
    obtain rfl : f = 61 := (Option.some.inj (show some 61 = some f from hg)).symm
    rw [prog_61] at hA; cases hA
  | 41, hg => exact absurd (show (none : Option Nat) = some f from hg) (by simp)
  | 42, hg => exact absurd (show (none : Option Nat) = some f from hg) (by simp)
  | 43, hg => exact absurd (show (none : Option Nat) = some f from hg) (by simp)
  | 44, hg =>
    obtain rfl : f = 345 := (Option.some.inj (show some 345 = some f from hg)).symm
    rw [prog_345] at hA; cases hA
  | 45, hg => exact absurd (show (none : Option Nat) = some f from hg) (by simp)
  | 46, hg =>
    obtain rfl : f = 96 := (Option.some.inj (show some 96 = some f from hg)).symm
    rw [prog_96] at hA; cases hA
  | 47, hg =>
    obtain rfl : f = 69 := (Option.some.inj (show some 69 = some f from hg)).symm
    rw [prog_69] at hA; cases hA
  | 48, hg =>
    obtain rfl : f = 97 := (Option.some.inj (show some 97 = some f from hg)).symm
    rw [prog_97] at hA; cases hA
  | 49, hg =>
    obtain rfl : f = 55 := (Option.some.inj (show some 55 = some f from hg)).symm
    rw [prog_55] at hA; cases hA
  | 50, hg =>
    obtain rfl : f = 346 := (Option.some.inj (show some 346 = some f from hg)).symm
    rw [prog_346] at hA; cases hA
  | 51, hg => exact absurd (show (none : Option Nat) = some f from hg) (by simp)
  | 52, hg => exact absurd (show (none : Option Nat) = some f from hg) (by simp)
  | 53, hg => exact absurd (show (none : Option Nat) = some f from hg) (by simp)
  | 54, hg => exact absurd (show (none : Option Nat) = some f from hg) (by simp)
  | 55, hg => exact absurd (show (none : Option Nat) = some f from hg) (by simp)
  | 56, hg =>
    obtain rfl : f = 64 := (Option.some.inj (show some 64 = some f from hg)).symm
    rw [prog_64] at hA; cases hA
  | 57, hg =>
    obtain rfl : f = 65 := (Option.some.inj (show some 65 = some f from hg)).symm
    rw [prog_65] at hA; cases hA
  | 58, hg =>
    obtain rfl : f = 66 := (Option.some.inj (show some 66 = some f from hg)).symm
    rw [prog_66] at hA; cases hA
  | 59, hg =>
    obtain rfl : f = 53 := (Option.some.inj (show some 53 = some f from hg)).symm
    rw [prog_53] at hA; cases hA
  | 60, hg => exact absurd (show (none : Option Nat) = some f from hg) (by simp)
  | 61, hg => exact absurd (show (none : Option Nat) = some f from hg) (by simp)
  | 62, hg => exact absurd (show (none : Option Nat) = some f from hg) (by simp)
  | 63, hg => exact absurd (show (none : Option Nat) = some f from hg) (by simp)
  | 64, hg =>
    obtain rfl : f = 101 := (Option.some.inj (show some 101 = some f from hg)).symm
    rw [prog_101] at hA; cases hA
  | 65, hg =>
    obtain rfl : f = 77 := (Option.some.inj (show some 77 = some f from hg)).symm
    rw [prog_77] at hA; cases hA
  | 66, hg =>
    obtain rfl : f = 102 := (Option.some.inj (show some 102 = some f from hg)).symm
    rw [prog_102] at hA; cases hA
  | 67, hg =>
    obtain rfl : f = 32 := (Option.some.inj (show some 32 = some f from hg)).symm
    obtain rfl : p = pBytesIndex := (AFn.prim.inj (Option.some.inj (prog_32.symm.trans hA))).symm
    exact primIndex (g := gm) (ρ := Tryd.laysM185_ren) { Tryd.laysM185 with } (fun κ h => h) Tryd.func67 (by kernel_rfl) (by decide)
  | 68, hg =>
    obtain rfl : f = 70 := (Option.some.inj (show some 70 = some f from hg)).symm
    rw [prog_70] at hA; cases hA
  | 69, hg =>
    obtain rfl : f = 71 := (Option.some.inj (show some 71 = some f from hg)).symm
    rw [prog_71] at hA; cases hA
  | 70, hg =>
    obtain rfl : f = 72 := (Option.some.inj (show some 72 = some f from hg)).symm
    rw [prog_72] at hA; cases hA
  | 71, hg => exact absurd (show (none : Option Nat) = some f from hg) (by simp)
  | 72, hg => exact absurd (show (none : Option Nat) = some f from hg) (by simp)
  | 73, hg =>
    obtain rfl : f = 76 := (Option.some.inj (show some 76 = some f from hg)).symm
    rw [prog_76] at hA; cases hA
  | 74, hg => exact absurd (show (none : Option Nat) = some f from hg) (by simp)
  | 75, hg =>
    obtain rfl : f = 103 := (Option.some.inj (show some 103 = some f from hg)).symm
    rw [prog_103] at hA; cases hA
  | 76, hg =>
    obtain rfl : f = 83 := (Option.some.inj (show some 83 = some f from hg)).symm
    rw [prog_83] at hA; cases hA
  | 77, hg => exact absurd (show (none : Option Nat) = some f from hg) (by simp)
  | 78, hg => exact absurd (show (none : Option Nat) = some f from hg) (by simp)
  | 79, hg => exact absurd (show (none : Option Nat) = some f from hg) (by simp)
  | 80, hg => exact absurd (show (none : Option Nat) = some f from hg) (by simp)
  | 81, hg => exact absurd (show (none : Option Nat) = some f from hg) (by simp)
  | 82, hg =>
    obtain rfl : f = 78 := (Option.some.inj (show some 78 = some f from hg)).symm
    obtain rfl : p = pStrIndexByte := (AFn.prim.inj (Option.some.inj (prog_78.symm.trans hA))).symm
    exact primStrIndexByte (g := gm) Tryd.lays137 Tryd.func82 (by kernel_rfl) (by decide)
  | 83, hg =>
    obtain rfl : f = 79 := (Option.some.inj (show some 79 = some f from hg)).symm
    rw [prog_79] at hA; cases hA
  | 84, hg =>
    obtain rfl : f = 82 := (Option.some.inj (show some 82 = some f from hg)).symm
    obtain rfl : p = pStrIndex := (AFn.prim.inj (Option.some.inj (prog_82.symm.trans hA))).symm
    exact primStrIndex (g := gm) (ρ := Tryd.laysM219_ren) { Tryd.laysM219 with } (fun κ h => h) Tryd.func84 (by kernel_rfl) (by decide)
  | 85, hg => exact absurd (show (none : Option Nat) = some f from hg) (by simp)
  | 86, hg =>
    obtain rfl : f = 104 := (Option.some.inj (show some 104 = some f from hg)).symm
    rw [prog_104] at hA; cases hA
  | 87, hg =>
    obtain rfl : f = 108 := (Option.some.inj (show some 108 = some f from hg)).symm
    rw [prog_108] at hA; cases hA
  | 88, hg => exact absurd (show (none : Option Nat) = some f from hg) (by simp)
  | 89, hg => exact absurd (show (none : Option Nat) = some f from hg) (by simp)
  | 90, hg => exact absurd (show (none : Option Nat) = some f from hg) (by simp)
  | 91, hg => exact absurd (show (none : Option Nat) = some f from hg) (by simp)
  | 92, hg => exact absurd (show (none : Option Nat) = some f from hg) (by simp)
  | 93, hg =>
    obtain rfl : f = 105 := (Option.some.inj (show some 105 = some f from hg)).symm
    rw [prog_105] at hA; cases hA
  | 94, hg =>
    obtain rfl : f = 106 := (Option.some.inj (show some 106 = some f from hg)).symm
    rw [show prog 106 = none from rfl] at hA; cases hA
  | 95, hg =>
    obtain rfl : f = 107 := (Option.some.inj (show some 107 = some f from hg)).symm
    rw [show prog 107 = none from rfl] at hA; cases hA
  | 96, hg => exact absurd (show (none : Option Nat) = some f from hg) (by simp)
  | 97, hg => exact absurd (show (none : Option Nat) = some f from hg) (by simp)
  | 98, hg =>
    obtain rfl : f = 109 := (Option.some.inj (show some 109 = some f from hg)).symm
    rw [show prog 109 = none from rfl] at hA; cases hA
  | n + 99, hg => exact absurd (show (none : Option Nat) = some f from hg) (by simp)
set_option maxRecDepth 100000 in
theorem primS_ok : ∀ (f' : FuncId) (f : Nat) (p : List PV → List (List PV) → Option (PV × Upd)), gm f' = some f → prog f = some (.primS p) → PrimSOK Tryd.prog gm f' p := by
  intro f' f p hg hA
  match f', hg with
  | 0, hg => exact absurd (show (none : Option Nat) = some f from hg) (by simp)
  | 1, hg => exact absurd (show (none : Option Nat) = some f from hg) (by simp)
  | 2, hg => exact absurd (show (none : Option Nat) = some f from hg) (by simp)
  | 3, hg => exact absurd (show (none : Option Nat) = some f from hg) (by simp)
  | 4, hg => exact absurd (show (none : Option Nat) = some f from hg) (by simp)
  | 5, hg => exact absurd (show (none : Option Nat) = some f from hg) (by simp)
  | 6, hg => exact absurd (show (none : Option Nat) = some f from hg) (by simp)
  | 7, hg =>
    obtain rfl : f = 336 := (Option.some.inj (show some 336 = some f from hg)).symm
    rw [prog_336] at hA; cases hA
  | 8, hg => exact absurd (show (none : Option Nat) = some f from hg) (by simp)
  | 9, hg =>
    obtain rfl : f = 316 := (Option.some.inj (show some 316 = some f from hg)).symm
    rw [prog_316] at hA; cases hA
  | 10, hg =>
    obtain rfl : f = 317 := (Option.some.inj (show some 317 = some f from hg)).symm
    rw [prog_317] at hA; cases hA
  | 11, hg =>
    obtain rfl : f = 318 := (Option.some.inj (show some 318 = some f from hg)).symm
    rw [prog_318] at hA; cases hA
  | 12, hg =>
    obtain rfl : f = 319 := (Option.some.inj (show some 319 = some f from hg)).symm
    rw [prog_319] at hA; cases hA
  | 13, hg => exact absurd (show (none : Option Nat) = some f from hg) (by simp)
  | 14, hg =>
    obtain rfl : f = 321 := (Option.some.inj (show some 321 = some f from hg)).symm
    rw [prog_321] at hA; cases hA
  | 15, hg => exact absurd (show (none : Option Nat) = some f from hg) (by simp)
  | 16, hg =>
    obtain rfl : f = 324 := (Option.some.inj (show some 324 = some f from hg)).symm
    rw [prog_324] at hA; cases hA
  | 17, hg => exact absurd (show (none : Option Nat) = some f from hg) (by simp)
  | 18, hg =>
    obtain rfl : f = 326 := (Option.some.inj (show some 326 = some f from hg)).symm
    rw [prog_326] at hA; cases hA
  | 19, hg =>
    obtain rfl : f = 330 := (Option.some.inj (show some 330 = some f from hg)).symm
    rw [prog_330] at hA; cases hA
  | 20, hg =>
    obtain rfl : f = 331 := (Option.some.inj (show some 331 = some f from hg)).symm
    rw [prog_331] at hA; cases hA
  | 21, hg =>
    obtain rfl : f = 92 := (Option.some.inj (show some 92 = some f from hg)).symm
    rw [prog_92] at hA; cases hA
  | 22, hg =>
    obtain rfl : f = 332 := (Option.some.inj (show some 332 = some f from hg)).symm
    rw [prog_332] at hA; cases hA
  | 23, hg =>
    obtain rfl : f = 335 := (Option.some.inj (show some 335 = some f from hg)).symm
    rw [prog_335] at hA; cases hA
  | 24, hg =>
    obtain rfl : f = 333 := (Option.some.inj (show some 333 = some f from hg)).symm
    rw [prog_333] at hA; cases hA
  | 25, hg =>
    obtain rfl : f = 334 := (Option.some.inj (show some 334 = some f from hg)).symm
    rw [prog_334] at hA; cases hA
  | 26, hg =>
    obtain rfl : f = 337 := (Option.some.inj (show some 337 = some f from hg)).symm
    rw [prog_337] at hA; cases hA
  | 27, hg =>
    obtain rfl : f = 47 := (Option.some.inj (show some 47 = some f from hg)).symm
    rw [prog_47] at hA; cases hA
  | 28, hg =>
    obtain rfl : f = 339 := (Option.some.inj (show some 339 = some f from hg)).symm
    rw [prog_339] at hA; cases hA
  | 29, hg =>
    obtain rfl : f = 48 := (Option.some.inj (show some 48 = some f from hg)).symm
    rw [prog_48] at hA; cases hA
  | 30, hg => exact absurd (show (none : Option Nat) = some f from hg) (by simp)
  | 31, hg => exact absurd (show (none : Option Nat) = some f from hg) (by simp)
  | 32, hg =>
    obtain rfl : f = 341 := (Option.some.inj (show some 341 = some f from hg)).symm
    rw [prog_341] at hA; cases hA
  | 33, hg => exact absurd (show (none : Option Nat) = some f from hg) (by simp)
  | 34, hg =>
    obtain rfl : f = 89 := (Option.some.inj (show some 89 = some f from hg)).symm
    rw [prog_89] at hA; cases hA
  | 35, hg =>
    obtain rfl : f = 343 := (Option.some.inj (show some 343 = some f from hg)).symm
    rw [prog_343] at hA; cases hA
  | 36, hg => exact absurd (show (none : Option Nat) = some f from hg) (by simp)
  | 37, hg => exact absurd (show (none : Option Nat) = some f from hg) (by simp)
  | 38, hg =>
    obtain rfl : f = 50 := (Option.some.inj (show some 50 = some f from hg)).symm
    rw [prog_50] at hA; cases hA
  | 39, hg =>
    obtain rfl : f = 60 := (Option.some.inj (show some 60 = some f from hg)).symm
    rw [prog_60] at hA; cases hA
  | 40, hg =>
    obtain rfl : f = 61 := (Option.some.inj (show some 61 = some f from hg)).symm
    rw [prog_61] at hA; cases hA
  | 41, hg => exact absurd (show (none : Option Nat) = some f from hg) (by simp)
  | 42, hg => exact absurd (show (none : Option Nat) = some f from hg) (by simp)
  | 43, hg => exact absurd (show (none : Option Nat) = some f from hg) (by simp)
  | 44, hg =>
    obtain rfl : f = 345 := (Option.some.inj (show some 345 = some f from hg)).symm
    rw [prog_345] at hA; cases hA
  | 45, hg => exact absurd (show (none : Option Nat) = some f from hg) (by simp)
  | 46, hg =>
    obtain rfl : f = 96 := (Option.some.inj (show some 96 = some f from hg)).symm
    rw [prog_96] at hA; cases hA
  | 47, hg =>
    obtain rfl : f = 69 := (Option.some.inj (show some 69 = some f from hg)).symm
    rw [prog_69] at hA; cases hA
  | 48, hg =>
    obtain rfl : f = 97 := (Option.some.inj (show some 97 = some f from hg)).symm
    rw [prog_97] at hA; cases hA
  | 49, hg =>
    obtain rfl : f = 55 := (Option.some.inj (show some 55 = some f from hg)).symm
    rw [prog_55] at hA; cases hA
  | 50, hg =>
    obtain rfl : f = 346 := (Option.some.inj (show some 346 = some f from hg)).symm
    rw [prog_346] at hA; cases hA
  | 51, hg => exact absurd (show (none : Option Nat) = some f from hg) (by simp)
  | 52, hg => exact absurd (show (none : Option Nat) = some f from hg) (by simp)
  | 53, hg => exact absurd (show (none : Option Nat) = some f from hg) (by simp)
  | 54, hg => exact absurd (show (none : Option Nat) = some f from hg) (by simp)
  | 55, hg => exact absurd (show (none : Option Nat) = some f from hg) (by simp)
  | 56, hg =>
    obtain rfl : f = 64 := (Option.some.inj (show some 64 = some f from hg)).symm
    rw [prog_64] at hA; cases hA
  | 57, hg =>
    obtain rfl : f = 65 := (Option.some.inj (show some 65 = some f from hg)).symm
    rw [prog_65] at hA; cases hA
  | 58, hg =>
    obtain rfl : f = 66 := (Option.some.inj (show some 66 = some f from hg)).symm
    rw [prog_66] at hA; cases hA
  | 59, hg =>
    obtain rfl : f = 53 := (Option.some.inj (show some 53 = some f from hg)).symm
    rw [prog_53] at hA; cases hA
  | 60, hg => exact absurd (show (none : Option Nat) = some f from hg) (by simp)
  | 61, hg => exact absurd (show (none : Option Nat) = some f from hg) (by simp)
  | 62, hg => exact absurd (show (none : Option Nat) = some f from hg) (by simp)
  | 63, hg => exact absurd (show (none : Option Nat) = some f from hg) (by simp)
  | 64, hg =>
    obtain rfl : f = 101 := (Option.some.inj (show some 101 = some f from hg)).symm
    rw [prog_101] at hA; cases hA
  | 65, hg =>
    obtain rfl : f = 77 := (Option.some.inj (show some 77 = some f from hg)).symm
    rw [prog_77] at hA; cases hA
  | 66, hg =>
    obtain rfl : f = 102 := (Option.some.inj (show some 102 = some f from hg)).symm
    rw [prog_102] at hA; cases hA
  | 67, hg =>
    obtain rfl : f = 32 := (Option.some.inj (show some 32 = some f from hg)).symm
    rw [prog_32] at hA; cases hA
  | 68, hg =>
    obtain rfl : f = 70 := (Option.some.inj (show some 70 = some f from hg)).symm
    rw [prog_70] at hA; cases hA
  | 69, hg =>
    obtain rfl : f = 71 := (Option.some.inj (show some 71 = some f from hg)).symm
    rw [prog_71] at hA; cases hA
  | 70, hg =>
    obtain rfl : f = 72 := (Option.some.inj (show some 72 = some f from hg)).symm
    rw [prog_72] at hA; cases hA
  | 71, hg => exact absurd (show (none : Option Nat) = some f from hg) (by simp)
  | 72, hg => exact absurd (show (none : Option Nat) = some f from hg) (by simp)
  | 73, hg =>
    obtain rfl : f = 76 := (Option.some.inj (show some 76 = some f from hg)).symm
    rw [prog_76] at hA; cases hA
  | 74, hg => exact absurd (show (none : Option Nat) = some f from hg) (by simp)
  | 75, hg =>
    obtain rfl : f = 103 := (Option.some.inj (show some 103 = some f from hg)).symm
    rw [prog_103] at hA; cases hA
  | 76, hg =>
    obtain rfl : f = 83 := (Option.some.inj (show some 83 = some f from hg)).symm
    rw [prog_83] at hA; cases hA
  | 77, hg => exact absurd (show (none : Option Nat) = some f from hg) (by simp)
  | 78, hg => exact absurd (show (none : Option Nat) = some f from hg) (by simp)
  | 79, hg => exact absurd (show (none : Option Nat) = some f from hg) (by simp)
  | 80, hg => exact absurd (show (none : Option Nat) = some f from hg) (by simp)
  | 81, hg => exact absurd (show (none : Option Nat) = some f from hg) (by simp)
  | 82, hg =>
    obtain rfl : f = 78 := (Option.some.inj (show some 78 = some f from hg)).symm
    rw [prog_78] at hA; cases hA
  | 83, hg =>
    obtain rfl : f = 79 := (Option.some.inj (show some 79 = some f from hg)).symm
    rw [prog_79] at hA; cases hA
  | 84, hg =>
    obtain rfl : f = 82 := (Option.some.inj (show some 82 = some f from hg)).symm
    rw [prog_82] at hA; cases hA
  | 85, hg => exact absurd (show (none : Option Nat) = some f from hg) (by simp)
  | 86, hg =>
    obtain rfl : f = 104 := (Option.some.inj (show some 104 = some f from hg)).symm
    rw [prog_104] at hA; cases hA
  | 87, hg =>
    obtain rfl : f = 108 := (Option.some.inj (show some 108 = some f from hg)).symm
    rw [prog_108] at hA; cases hA
  | 88, hg => exact absurd (show (none : Option Nat) = some f from hg) (by simp)
  | 89, hg => exact absurd (show (none : Option Nat) = some f from hg) (by simp)
  | 90, hg => exact absurd (show (none : Option Nat) = some f from hg) (by simp)
  | 91, hg => exact absurd (show (none : Option Nat) = some f from hg) (by simp)
  | 92, hg => exact absurd (show (none : Option Nat) = some f from hg) (by simp)
  | 93, hg =>
    obtain rfl : f = 105 := (Option.some.inj (show some 105 = some f from hg)).symm
    rw [prog_105] at hA; cases hA
  | 94, hg =>
    obtain rfl : f = 106 := (Option.some.inj (show some 106 = some f from hg)).symm
    rw [show prog 106 = none from rfl] at hA; cases hA
  | 95, hg =>
    obtain rfl : f = 107 := (Option.some.inj (show some 107 = some f from hg)).symm
    rw [show prog 107 = none from rfl] at hA; cases hA
  | 96, hg => exact absurd (show (none : Option Nat) = some f from hg) (by simp)
  | 97, hg => exact absurd (show (none : Option Nat) = some f from hg) (by simp)
  | 98, hg =>
    obtain rfl : f = 109 := (Option.some.inj (show some 109 = some f from hg)).symm
    rw [show prog 109 = none from rfl] at hA; cases hA
  | n + 99, hg => exact absurd (show (none : Option Nat) = some f from hg) (by simp)
theorem linked : Linked Tryd.prog gm prog := ⟨code_ok, prim_ok, primS_ok, by kernel_rfl⟩
end Go.Ab.YtanlheneakdngaaDoor
