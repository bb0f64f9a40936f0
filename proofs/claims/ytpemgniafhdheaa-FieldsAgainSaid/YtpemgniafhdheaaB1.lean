/-
  The abstract program belongs to this seat's program.
-/
import Derived.Test.YtpemgniafhdheaaA3
import Derived.Test.YtpemgniafhdheaaA6
import Derived.KernelRfl
import Derived.Test.YtpemgniafhdheaaProg
import Derived.Test.YtpemgniafhdheaaShelf
namespace Go.Ab.Ytpemgniafhdheaa
open Go.Proofs Go.Shelf
set_option linter.unusedVariables false
def gfn : FuncId → Option Nat := fun f => match f with
  | 3 => some 149
  | 4 => some 152
  | 5 => some 153
  | 6 => some 154
  | 7 => some 156
  | 8 => some 143
  | 9 => some 144
  | 10 => some 145
  | 11 => some 146
  | 12 => some 147
  | 13 => some 148
  | 14 => some 150
  | 15 => some 151
  | 16 => some 8
  | 17 => some 155
  | 18 => some 157
  | 19 => some 158
  | 20 => some 159
  | 21 => some 160
  | 22 => some 161
  | 23 => some 162
  | 24 => some 163
  | 25 => some 164
  | 26 => some 165
  | 27 => some 166
  | 28 => some 22
  | 29 => some 167
  | 30 => some 168
  | 31 => some 169
  | 32 => some 78
  | 33 => some 170
  | 34 => some 114
  | 35 => some 171
  | 36 => some 32
  | 37 => some 128
  | 38 => some 172
  | 40 => some 173
  | 46 => some 135
  | 50 => some 82
  | _ => none
def gm : GMap := { fn := gfn, tB := 0, tU := 5, inv := fun κ => ∃ m, κ.C (Try.laysM185_ren.g 1) 0 = some (.int .i64 m), mono := fun _ _ h ⟨m, hm⟩ => ⟨m, h _ _ _ hm⟩, glob := fun _ => none, globOK := fun _ _ _ _ h => by cases h }
theorem chk3 : chkFn Try.prog gm Try.f3 F_posthornlaw06_FieldsWrites = true := by kernel_rfl
theorem chk4 : chkFn Try.prog gm Try.f4 F_posthornlaw06_FieldsBack = true := by kernel_rfl
theorem chk5 : chkFn Try.prog gm Try.f5 F_posthornlaw06_FieldsAgain = true := by kernel_rfl
theorem chk6 : chkFn Try.prog gm Try.f6 F_posthornlaw06_FieldsFolds = true := by kernel_rfl
theorem chk7 : chkFn Try.prog gm Try.f7 F_posthornlaw06_FieldsNames = true := by kernel_rfl
theorem chk8 : chkFn Try.prog gm Try.f8 F_posthornlaw06_Great = true := by kernel_rfl
theorem chk9 : chkFn Try.prog gm Try.f9 F_posthornlaw06_alive = true := by kernel_rfl
theorem chk10 : chkFn Try.prog gm Try.f10 F_fields_Write = true := by kernel_rfl
theorem chk11 : chkFn Try.prog gm Try.f11 F_posthornref06_Write = true := by kernel_rfl
theorem chk12 : chkFn Try.prog gm Try.f12 F_fields_Get = true := by kernel_rfl
theorem chk13 : chkFn Try.prog gm Try.f13 F_posthornref06_Get = true := by kernel_rfl
theorem chk14 : chkFn Try.prog gm Try.f14 F_fields_Parse = true := by kernel_rfl
theorem chk15 : chkFn Try.prog gm Try.f15 F_posthornref06_SameAll = true := by kernel_rfl
theorem chk16 : chkFn Try.prog gm Try.f16 F_posthornref05_Lines = true := by kernel_rfl
theorem chk17 : chkFn Try.prog gm Try.f17 F_fields_Same = true := by kernel_rfl
theorem chk18 : chkFn Try.prog gm Try.f18 F_fields_isName = true := by kernel_rfl
theorem chk19 : chkFn Try.prog gm Try.f19 F_fields_isValue = true := by kernel_rfl
theorem chk20 : chkFn Try.prog gm Try.f20 F_fields_fold = true := by kernel_rfl
theorem chk21 : chkFn Try.prog gm Try.f21 F_posthornref06_Name = true := by kernel_rfl
theorem chk22 : chkFn Try.prog gm Try.f22 F_posthornref06_Value = true := by kernel_rfl
theorem chk23 : chkFn Try.prog gm Try.f23 F_posthornref06_place = true := by kernel_rfl
theorem chk24 : chkFn Try.prog gm Try.f24 F_posthornref06_Same = true := by kernel_rfl
theorem chk25 : chkFn Try.prog gm Try.f25 F_fields_lines = true := by kernel_rfl
theorem chk26 : chkFn Try.prog gm Try.f26 F_P_fields_reader_shut = true := by kernel_rfl
theorem chk27 : chkFn Try.prog gm Try.f27 F_P_fields_reader_line = true := by kernel_rfl
theorem chk28 : chkFn Try.prog gm Try.f28 F_posthornref03_Pair = true := by kernel_rfl
theorem chk29 : chkFn Try.prog gm Try.f29 F_fields_lower = true := by kernel_rfl
theorem chk30 : chkFn Try.prog gm Try.f30 F_fields_trim = true := by kernel_rfl
theorem chk31 : chkFn Try.prog gm Try.f31 F_strings_LastIndexByte = true := by kernel_rfl
theorem chk33 : chkFn Try.prog gm Try.f33 F_posthornref06_Trim = true := by kernel_rfl
theorem chk34 : chkFn Try.prog gm Try.f34 F_posthornref04_Lower = true := by kernel_rfl
theorem chk35 : chkFn Try.prog gm Try.f35 F_fields_lines_c1 = true := by kernel_rfl
theorem chk37 : chkFn Try.prog gm Try.f37 F_strings_Cut = true := by kernel_rfl
theorem chk38 : chkFn Try.prog gm Try.f38 F_internal_bytealg_LastIndexByteString = true := by kernel_rfl
theorem chk40 : chkFn Try.prog gm Try.f40 F_posthornref06_blank = true := by kernel_rfl
theorem chk46 : chkFn Try.prog gm Try.f46 F_internal_stringslite_Cut = true := by kernel_rfl
set_option maxRecDepth 100000 in
theorem code_ok : ∀ (f' : FuncId) (f : Nat) (fn : ACFn), gm f' = some f → prog f = some (.code fn) → ∃ pf, Try.prog.funcs[f']? = some pf ∧ chkFn Try.prog gm pf fn = true := by
  intro f' f fn hg hA
  match f', hg with
  | 0, hg => exact absurd (show (none : Option Nat) = some f from hg) (by simp)
  | 1, hg => exact absurd (show (none : Option Nat) = some f from hg) (by simp)
  | 2, hg => exact absurd (show (none : Option Nat) = some f from hg) (by simp)
  | 3, hg =>
    obtain rfl : f = 149 := (Option.some.inj (show some 149 = some f from hg)).symm
    obtain rfl : fn = F_posthornlaw06_FieldsWrites := (AFn.code.inj (Option.some.inj (prog_149.symm.trans hA))).symm
    exact ⟨_, Try.func3, chk3⟩
  | 4, hg =>
    obtain rfl : f = 152 := (Option.some.inj (show some 152 = some f from hg)).symm
    obtain rfl : fn = F_posthornlaw06_FieldsBack := (AFn.code.inj (Option.some.inj (prog_152.symm.trans hA))).symm
    exact ⟨_, Try.func4, chk4⟩
  | 5, hg =>
    obtain rfl : f = 153 := (Option.some.inj (show some 153 = some f from hg)).symm
    obtain rfl : fn = F_posthornlaw06_FieldsAgain := (AFn.code.inj (Option.some.inj (prog_153.symm.trans hA))).symm
    exact ⟨_, Try.func5, chk5⟩
  | 6, hg =>
    obtain rfl : f = 154 := (Option.some.inj (show some 154 = some f from hg)).symm
    obtain rfl : fn = F_posthornlaw06_FieldsFolds := (AFn.code.inj (Option.some.inj (prog_154.symm.trans hA))).symm
    exact ⟨_, Try.func6, chk6⟩
  | 7, hg =>
    obtain rfl : f = 156 := (Option.some.inj (show some 156 = some f from hg)).symm
    obtain rfl : fn = F_posthornlaw06_FieldsNames := (AFn.code.inj (Option.some.inj (prog_156.symm.trans hA))).symm
    exact ⟨_, Try.func7, chk7⟩
  | 8, hg =>
    obtain rfl : f = 143 := (Option.some.inj (show some 143 = some f from hg)).symm
    obtain rfl : fn = F_posthornlaw06_Great := (AFn.code.inj (Option.some.inj (prog_143.symm.trans hA))).symm
    exact ⟨_, Try.func8, chk8⟩
  | 9, hg =>
    obtain rfl : f = 144 := (Option.some.inj (show some 144 = some f from hg)).symm
    obtain rfl : fn = F_posthornlaw06_alive := (AFn.code.inj (Option.some.inj (prog_144.symm.trans hA))).symm
    exact ⟨_, Try.func9, chk9⟩
  | 10, hg =>
    obtain rfl : f = 145 := (Option.some.inj (show some 145 = some f from hg)).symm
    obtain rfl : fn = F_fields_Write := (AFn.code.inj (Option.some.inj (prog_145.symm.trans hA))).symm
    exact ⟨_, Try.func10, chk10⟩
  | 11, hg =>
    obtain rfl : f = 146 := (Option.some.inj (show some 146 = some f from hg)).symm
    obtain rfl : fn = F_posthornref06_Write := (AFn.code.inj (Option.some.inj (prog_146.symm.trans hA))).symm
    exact ⟨_, Try.func11, chk11⟩
  | 12, hg =>
    obtain rfl : f = 147 := (Option.some.inj (show some 147 = some f from hg)).symm
    obtain rfl : fn = F_fields_Get := (AFn.code.inj (Option.some.inj (prog_147.symm.trans hA))).symm
    exact ⟨_, Try.func12, chk12⟩
  | 13, hg =>
    obtain rfl : f = 148 := (Option.some.inj (show some 148 = some f from hg)).symm
    obtain rfl : fn = F_posthornref06_Get := (AFn.code.inj (Option.some.inj (prog_148.symm.trans hA))).symm
    exact ⟨_, Try.func13, chk13⟩
  | 14, hg =>
    obtain rfl : f = 150 := (Option.some.inj (show some 150 = some f from hg)).symm
    obtain rfl : fn = F_fields_Parse := (AFn.code.inj (Option.some.inj (prog_150.symm.trans hA))).symm
    exact ⟨_, Try.func14, chk14⟩
  | 15, hg =>
    obtain rfl : f = 151 := (Option.some.inj (show some 151 = some f from hg)).symm
    obtain rfl : fn = F_posthornref06_SameAll := (AFn.code.inj (Option.some.inj (prog_151.symm.trans hA))).symm
    exact ⟨_, Try.func15, chk15⟩
  | 16, hg =>
    obtain rfl : f = 8 := (Option.some.inj (show some 8 = some f from hg)).symm
    obtain rfl : fn = F_posthornref05_Lines := (AFn.code.inj (Option.some.inj (prog_8.symm.trans hA))).symm
    exact ⟨_, Try.func16, chk16⟩
  | 17, hg =>
    obtain rfl : f = 155 := (Option.some.inj (show some 155 = some f from hg)).symm
    obtain rfl : fn = F_fields_Same := (AFn.code.inj (Option.some.inj (prog_155.symm.trans hA))).symm
    exact ⟨_, Try.func17, chk17⟩
  | 18, hg =>
    obtain rfl : f = 157 := (Option.some.inj (show some 157 = some f from hg)).symm
    obtain rfl : fn = F_fields_isName := (AFn.code.inj (Option.some.inj (prog_157.symm.trans hA))).symm
    exact ⟨_, Try.func18, chk18⟩
  | 19, hg =>
    obtain rfl : f = 158 := (Option.some.inj (show some 158 = some f from hg)).symm
    obtain rfl : fn = F_fields_isValue := (AFn.code.inj (Option.some.inj (prog_158.symm.trans hA))).symm
    exact ⟨_, Try.func19, chk19⟩
  | 20, hg =>
    obtain rfl : f = 159 := (Option.some.inj (show some 159 = some f from hg)).symm
    obtain rfl : fn = F_fields_fold := (AFn.code.inj (Option.some.inj (prog_159.symm.trans hA))).symm
    exact ⟨_, Try.func20, chk20⟩
  | 21, hg =>
    obtain rfl : f = 160 := (Option.some.inj (show some 160 = some f from hg)).symm
    obtain rfl : fn = F_posthornref06_Name := (AFn.code.inj (Option.some.inj (prog_160.symm.trans hA))).symm
    exact ⟨_, Try.func21, chk21⟩
  | 22, hg =>
    obtain rfl : f = 161 := (Option.some.inj (show some 161 = some f from hg)).symm
    obtain rfl : fn = F_posthornref06_Value := (AFn.code.inj (Option.some.inj (prog_161.symm.trans hA))).symm
    exact ⟨_, Try.func22, chk22⟩
  | 23, hg =>
    obtain rfl : f = 162 := (Option.some.inj (show some 162 = some f from hg)).symm
    obtain rfl : fn = F_posthornref06_place := (AFn.code.inj (Option.some.inj (prog_162.symm.trans hA))).symm
    exact ⟨_, Try.func23, chk23⟩
  | 24, hg =>
    obtain rfl : f = 163 := (Option.some.inj (show some 163 = some f from hg)).symm
    obtain rfl : fn = F_posthornref06_Same := (AFn.code.inj (Option.some.inj (prog_163.symm.trans hA))).symm
    exact ⟨_, Try.func24, chk24⟩
  | 25, hg =>
    obtain rfl : f = 164 := (Option.some.inj (show some 164 = some f from hg)).symm
    obtain rfl : fn = F_fields_lines := (AFn.code.inj (Option.some.inj (prog_164.symm.trans hA))).symm
    exact ⟨_, Try.func25, chk25⟩
  | 26, hg =>
    obtain rfl : f = 165 := (Option.some.inj (show some 165 = some f from hg)).symm
    obtain rfl : fn = F_P_fields_reader_shut := (AFn.code.inj (Option.some.inj (prog_165.symm.trans hA))).symm
    exact ⟨_, Try.func26, chk26⟩
  | 27, hg =>
    obtain rfl : f = 166 := (Option.some.inj (show some 166 = some f from hg)).symm
    obtain rfl : fn = F_P_fields_reader_line := (AFn.code.inj (Option.some.inj (prog_166.symm.trans hA))).symm
    exact ⟨_, Try.func27, chk27⟩
  | 28, hg =>
    obtain rfl : f = 22 := (Option.some.inj (show some 22 = some f from hg)).symm
    obtain rfl : fn = F_posthornref03_Pair := (AFn.code.inj (Option.some.inj (prog_22.symm.trans hA))).symm
    exact ⟨_, Try.func28, chk28⟩
  | 29, hg =>
    obtain rfl : f = 167 := (Option.some.inj (show some 167 = some f from hg)).symm
    obtain rfl : fn = F_fields_lower := (AFn.code.inj (Option.some.inj (prog_167.symm.trans hA))).symm
    exact ⟨_, Try.func29, chk29⟩
  | 30, hg =>
    obtain rfl : f = 168 := (Option.some.inj (show some 168 = some f from hg)).symm
    obtain rfl : fn = F_fields_trim := (AFn.code.inj (Option.some.inj (prog_168.symm.trans hA))).symm
    exact ⟨_, Try.func30, chk30⟩
  | 31, hg =>
    obtain rfl : f = 169 := (Option.some.inj (show some 169 = some f from hg)).symm
    obtain rfl : fn = F_strings_LastIndexByte := (AFn.code.inj (Option.some.inj (prog_169.symm.trans hA))).symm
    exact ⟨_, Try.func31, chk31⟩
  | 32, hg =>
    obtain rfl : f = 78 := (Option.some.inj (show some 78 = some f from hg)).symm
    rw [prog_78] at hA; cases hA
  | 33, hg =>
    obtain rfl : f = 170 := (Option.some.inj (show some 170 = some f from hg)).symm
    obtain rfl : fn = F_posthornref06_Trim := (AFn.code.inj (Option.some.inj (prog_170.symm.trans hA))).symm
    exact ⟨_, Try.func33, chk33⟩
  | 34, hg =>
    obtain rfl : f = 114 := (Option.some.inj (show some 114 = some f from hg)).symm
    obtain rfl : fn = F_posthornref04_Lower := (AFn.code.inj (Option.some.inj (prog_114.symm.trans hA))).symm
    exact ⟨_, Try.func34, chk34⟩
  | 35, hg =>
    obtain rfl : f = 171 := (Option.some.inj (show some 171 = some f from hg)).symm
    obtain rfl : fn = F_fields_lines_c1 := (AFn.code.inj (Option.some.inj (prog_171.symm.trans hA))).symm
    exact ⟨_, Try.func35, chk35⟩
  | 36, hg =>
    obtain rfl : f = 32 := (Option.some.inj (show some 32 = some f from hg)).symm
    rw [prog_32] at hA; cases hA
  | 37, hg =>
    obtain rfl : f = 128 := (Option.some.inj (show some 128 = some f from hg)).symm
    obtain rfl : fn = F_strings_Cut := (AFn.code.inj (Option.some.inj (prog_128.symm.trans hA))).symm
    exact ⟨_, Try.func37, chk37⟩
  | 38, hg =>
    obtain rfl : f = 172 := (Option.some.inj (show some 172 = some f from hg)).symm
    obtain rfl : fn = F_internal_bytealg_LastIndexByteString := (AFn.code.inj (Option.some.inj (prog_172.symm.trans hA))).symm
    exact ⟨_, Try.func38, chk38⟩
  | 39, hg => exact absurd (show (none : Option Nat) = some f from hg) (by simp)
  | 40, hg =>
    obtain rfl : f = 173 := (Option.some.inj (show some 173 = some f from hg)).symm
    obtain rfl : fn = F_posthornref06_blank := (AFn.code.inj (Option.some.inj (prog_173.symm.trans hA))).symm
    exact ⟨_, Try.func40, chk40⟩
  | 41, hg => exact absurd (show (none : Option Nat) = some f from hg) (by simp)
  | 42, hg => exact absurd (show (none : Option Nat) = some f from hg) (by simp)
  | 43, hg => exact absurd (show (none : Option Nat) = some f from hg) (by simp)
  | 44, hg => exact absurd (show (none : Option Nat) = some f from hg) (by simp)
  | 45, hg => exact absurd (show (none : Option Nat) = some f from hg) (by simp)
  | 46, hg =>
    obtain rfl : f = 135 := (Option.some.inj (show some 135 = some f from hg)).symm
    obtain rfl : fn = F_internal_stringslite_Cut := (AFn.code.inj (Option.some.inj (prog_135.symm.trans hA))).symm
    exact ⟨_, Try.func46, chk46⟩
  | 47, hg => exact absurd (show (none : Option Nat) = some f from hg) (by simp)
  | 48, hg => exact absurd (show (none : Option Nat) = some f from hg) (by simp)
  | 49, hg => exact absurd (show (none : Option Nat) = some f from hg) (by simp)
  | 50, hg =>
    obtain rfl : f = 82 := (Option.some.inj (show some 82 = some f from hg)).symm
    rw [prog_82] at hA; cases hA
  | n + 51, hg => exact absurd (show (none : Option Nat) = some f from hg) (by simp)
set_option maxRecDepth 100000 in
theorem prim_ok : ∀ (f' : FuncId) (f : Nat) (p : List PV → Option PV), gm f' = some f → prog f = some (.prim p) → PrimOK Try.prog gm f' p := by
  intro f' f p hg hA
  match f', hg with
  | 0, hg => exact absurd (show (none : Option Nat) = some f from hg) (by simp)
  | 1, hg => exact absurd (show (none : Option Nat) = some f from hg) (by simp)
  | 2, hg => exact absurd (show (none : Option Nat) = some f from hg) (by simp)
  | 3, hg =>
    obtain rfl : f = 149 := (Option.some.inj (show some 149 = some f from hg)).symm
    rw [prog_149] at hA; cases hA
  | 4, hg =>
    obtain rfl : f = 152 := (Option.some.inj (show some 152 = some f from hg)).symm
    rw [prog_152] at hA; cases hA
  | 5, hg =>
    obtain rfl : f = 153 := (Option.some.inj (show some 153 = some f from hg)).symm
    rw [prog_153] at hA; cases hA
  | 6, hg =>
    obtain rfl : f = 154 := (Option.some.inj (show some 154 = some f from hg)).symm
    rw [prog_154] at hA; cases hA
  | 7, hg =>
    obtain rfl : f = 156 := (Option.some.inj (show some 156 = some f from hg)).symm
    rw [prog_156] at hA; cases hA
  | 8, hg =>
    obtain rfl : f = 143 := (Option.some.inj (show some 143 = some f from hg)).symm
    rw [prog_143] at hA; cases hA
  | 9, hg =>
    obtain rfl : f = 144 := (Option.some.inj (show some 144 = some f from hg)).symm
    rw [prog_144] at hA; cases hA
  | 10, hg =>
    obtain rfl : f = 145 := (Option.some.inj (show some 145 = some f from hg)).symm
    rw [prog_145] at hA; cases hA
  | 11, hg =>
    obtain rfl : f = 146 := (Option.some.inj (show some 146 = some f from hg)).symm
    rw [prog_146] at hA; cases hA
  | 12, hg =>
    obtain rfl : f = 147 := (Option.some.inj (show some 147 = some f from hg)).symm
    rw [prog_147] at hA; cases hA
  | 13, hg =>
    obtain rfl : f = 148 := (Option.some.inj (show some 148 = some f from hg)).symm
    rw [prog_148] at hA; cases hA
  | 14, hg =>
    obtain rfl : f = 150 := (Option.some.inj (show some 150 = some f from hg)).symm
    rw [prog_150] at hA; cases hA
  | 15, hg =>
    obtain rfl : f = 151 := (Option.some.inj (show some 151 = some f from hg)).symm
    rw [prog_151] at hA; cases hA
  | 16, hg =>
    obtain rfl : f = 8 := (Option.some.inj (show some 8 = some f from hg)).symm
    rw [prog_8] at hA; cases hA
  | 17, hg =>
    obtain rfl : f = 155 := (Option.some.inj (show some 155 = some f from hg)).symm
    rw [prog_155] at hA; cases hA
  | 18, hg =>
    obtain rfl : f = 157 := (Option.some.inj (show some 157 = some f from hg)).symm
    rw [prog_157] at hA; cases hA
  | 19, hg =>
    obtain rfl : f = 158 := (Option.some.inj (show some 158 = some f from hg)).symm
    rw [prog_158] at hA; cases hA
  | 20, hg =>
    obtain rfl : f = 159 := (Option.some.inj (show some 159 = some f from hg)).symm
    rw [prog_159] at hA; cases hA
  | 21, hg =>
    obtain rfl : f = 160 := (Option.some.inj (show some 160 = some f from hg)).symm
    rw [prog_160] at hA; cases hA
  | 22, hg =>
    obtain rfl : f = 161 := (Option.some.inj (show some 161 = some f from hg)).symm
    rw [prog_161] at hA; cases hA
  | 23, hg =>
    obtain rfl : f = 162 := (Option.some.inj (show some 162 = some f from hg)).symm
    rw [prog_162] at hA; cases hA
  | 24, hg =>
    obtain rfl : f = 163 := (Option.some.inj (show some 163 = some f from hg)).symm
    rw [prog_163] at hA; cases hA
  | 25, hg =>
    obtain rfl : f = 164 := (Option.some.inj (show some 164 = some f from hg)).symm
    rw [prog_164] at hA; cases hA
  | 26, hg =>
    obtain rfl : f = 165 := (Option.some.inj (show some 165 = some f from hg)).symm
    rw [prog_165] at hA; cases hA
  | 27, hg =>
    obtain rfl : f = 166 := (Option.some.inj (show some 166 = some f from hg)).symm
    rw [prog_166] at hA; cases hA
  | 28, hg =>
    obtain rfl : f = 22 := (Option.some.inj (show some 22 = some f from hg)).symm
    rw [prog_22] at hA; cases hA
  | 29, hg =>
    obtain rfl : f = 167 := (Option.some.inj (show some 167 = some f from hg)).symm
    rw [prog_167] at hA; cases hA
  | 30, hg =>
    obtain rfl : f = 168 := (Option.some.inj (show some 168 = some f from hg)).symm
    rw [prog_168] at hA; cases hA
  | 31, hg =>
    obtain rfl : f = 169 := (Option.some.inj (show some 169 = some f from hg)).symm
    rw [prog_169] at hA; cases hA
  | 32, hg =>
    obtain rfl : f = 78 := (Option.some.inj (show some 78 = some f from hg)).symm
    obtain rfl : p = pStrIndexByte := (AFn.prim.inj (Option.some.inj (prog_78.symm.trans hA))).symm
    exact primStrIndexByte (g := gm) Try.lays137 Try.func32 (by kernel_rfl) (by decide)
  | 33, hg =>
    obtain rfl : f = 170 := (Option.some.inj (show some 170 = some f from hg)).symm
    rw [prog_170] at hA; cases hA
  | 34, hg =>
    obtain rfl : f = 114 := (Option.some.inj (show some 114 = some f from hg)).symm
    rw [prog_114] at hA; cases hA
  | 35, hg =>
    obtain rfl : f = 171 := (Option.some.inj (show some 171 = some f from hg)).symm
    rw [prog_171] at hA; cases hA
  | 36, hg =>
    obtain rfl : f = 32 := (Option.some.inj (show some 32 = some f from hg)).symm
    obtain rfl : p = pBytesIndex := (AFn.prim.inj (Option.some.inj (prog_32.symm.trans hA))).symm
    exact primIndex (g := gm) (ρ := Try.laysM185_ren) { Try.laysM185 with } (fun κ h => h) Try.func36 (by kernel_rfl) (by decide)
  | 37, hg =>
    obtain rfl : f = 128 := (Option.some.inj (show some 128 = some f from hg)).symm
    rw [prog_128] at hA; cases hA
  | 38, hg =>
    obtain rfl : f = 172 := (Option.some.inj (show some 172 = some f from hg)).symm
    rw [prog_172] at hA; cases hA
  | 39, hg => exact absurd (show (none : Option Nat) = some f from hg) (by simp)
  | 40, hg =>
    obtain rfl : f = 173 := (Option.some.inj (show some 173 = some f from hg)).symm
    rw [prog_173] at hA; cases hA
  | 41, hg => exact absurd (show (none : Option Nat) = some f from hg) (by simp)
  | 42, hg => exact absurd (show (none : Option Nat) = some f from hg) (by simp)
  | 43, hg => exact absurd (show (none : Option Nat) = some f from hg) (by simp)
  | 44, hg => exact absurd (show (none : Option Nat) = some f from hg) (by simp)
  | 45, hg => exact absurd (show (none : Option Nat) = some f from hg) (by simp)
  | 46, hg =>
    obtain rfl : f = 135 := (Option.some.inj (show some 135 = some f from hg)).symm
    rw [prog_135] at hA; cases hA
  | 47, hg => exact absurd (show (none : Option Nat) = some f from hg) (by simp)
  | 48, hg => exact absurd (show (none : Option Nat) = some f from hg) (by simp)
  | 49, hg => exact absurd (show (none : Option Nat) = some f from hg) (by simp)
  | 50, hg =>
    obtain rfl : f = 82 := (Option.some.inj (show some 82 = some f from hg)).symm
    obtain rfl : p = pStrIndex := (AFn.prim.inj (Option.some.inj (prog_82.symm.trans hA))).symm
    exact primStrIndex (g := gm) (ρ := Try.laysM219_ren) { Try.laysM219 with } (fun κ h => h) Try.func50 (by kernel_rfl) (by decide)
  | n + 51, hg => exact absurd (show (none : Option Nat) = some f from hg) (by simp)
set_option maxRecDepth 100000 in
theorem primS_ok : ∀ (f' : FuncId) (f : Nat) (p : List PV → List (List PV) → Option (PV × Upd)), gm f' = some f → prog f = some (.primS p) → PrimSOK Try.prog gm f' p := by
  intro f' f p hg hA
  match f', hg with
  | 0, hg => exact absurd (show (none : Option Nat) = some f from hg) (by simp)
  | 1, hg => exact absurd (show (none : Option Nat) = some f from hg) (by simp)
  | 2, hg => exact absurd (show (none : Option Nat) = some f from hg) (by simp)
  | 3, hg =>
    obtain rfl : f = 149 := (Option.some.inj (show some 149 = some f from hg)).symm
    rw [prog_149] at hA; cases hA
  | 4, hg =>
    obtain rfl : f = 152 := (Option.some.inj (show some 152 = some f from hg)).symm
    rw [prog_152] at hA; cases hA
  | 5, hg =>
    obtain rfl : f = 153 := (Option.some.inj (show some 153 = some f from hg)).symm
    rw [prog_153] at hA; cases hA
  | 6, hg =>
    obtain rfl : f = 154 := (Option.some.inj (show some 154 = some f from hg)).symm
    rw [prog_154] at hA; cases hA
  | 7, hg =>
    obtain rfl : f = 156 := (Option.some.inj (show some 156 = some f from hg)).symm
    rw [prog_156] at hA; cases hA
  | 8, hg =>
    obtain rfl : f = 143 := (Option.some.inj (show some 143 = some f from hg)).symm
    rw [prog_143] at hA; cases hA
  | 9, hg =>
    obtain rfl : f = 144 := (Option.some.inj (show some 144 = some f from hg)).symm
    rw [prog_144] at hA; cases hA
  | 10, hg =>
    obtain rfl : f = 145 := (Option.some.inj (show some 145 = some f from hg)).symm
    rw [prog_145] at hA; cases hA
  | 11, hg =>
    obtain rfl : f = 146 := (Option.some.inj (show some 146 = some f from hg)).symm
    rw [prog_146] at hA; cases hA
  | 12, hg =>
    obtain rfl : f = 147 := (Option.some.inj (show some 147 = some f from hg)).symm
    rw [prog_147] at hA; cases hA
  | 13, hg =>
    obtain rfl : f = 148 := (Option.some.inj (show some 148 = some f from hg)).symm
    rw [prog_148] at hA; cases hA
  | 14, hg =>
    obtain rfl : f = 150 := (Option.some.inj (show some 150 = some f from hg)).symm
    rw [prog_150] at hA; cases hA
  | 15, hg =>
    obtain rfl : f = 151 := (Option.some.inj (show some 151 = some f from hg)).symm
    rw [prog_151] at hA; cases hA
  | 16, hg =>
    obtain rfl : f = 8 := (Option.some.inj (show some 8 = some f from hg)).symm
    rw [prog_8] at hA; cases hA
  | 17, hg =>
    obtain rfl : f = 155 := (Option.some.inj (show some 155 = some f from hg)).symm
    rw [prog_155] at hA; cases hA
  | 18, hg =>
    obtain rfl : f = 157 := (Option.some.inj (show some 157 = some f from hg)).symm
    rw [prog_157] at hA; cases hA
  | 19, hg =>
    obtain rfl : f = 158 := (Option.some.inj (show some 158 = some f from hg)).symm
    rw [prog_158] at hA; cases hA
  | 20, hg =>
    obtain rfl : f = 159 := (Option.some.inj (show some 159 = some f from hg)).symm
    rw [prog_159] at hA; cases hA
  | 21, hg =>
    obtain rfl : f = 160 := (Option.some.inj (show some 160 = some f from hg)).symm
    rw [prog_160] at hA; cases hA
  | 22, hg =>
    obtain rfl : f = 161 := (Option.some.inj (show some 161 = some f from hg)).symm
    rw [prog_161] at hA; cases hA
  | 23, hg =>
    obtain rfl : f = 162 := (Option.some.inj (show some 162 = some f from hg)).symm
    rw [prog_162] at hA; cases hA
  | 24, hg =>
    obtain rfl : f = 163 := (Option.some.inj (show some 163 = some f from hg)).symm
    rw [prog_163] at hA; cases hA
  | 25, hg =>
    obtain rfl : f = 164 := (Option.some.inj (show some 164 = some f from hg)).symm
    rw [prog_164] at hA; cases hA
  | 26, hg =>
    obtain rfl : f = 165 := (Option.some.inj (show some 165 = some f from hg)).symm
    rw [prog_165] at hA; cases hA
  | 27, hg =>
    obtain rfl : f = 166 := (Option.some.inj (show some 166 = some f from hg)).symm
    rw [prog_166] at hA; cases hA
  | 28, hg =>
    obtain rfl : f = 22 := (Option.some.inj (show some 22 = some f from hg)).symm
    rw [prog_22] at hA; cases hA
  | 29, hg =>
    obtain rfl : f = 167 := (Option.some.inj (show some 167 = some f from hg)).symm
    rw [prog_167] at hA; cases hA
  | 30, hg =>
    obtain rfl : f = 168 := (Option.some.inj (show some 168 = some f from hg)).symm
    rw [prog_168] at hA; cases hA
  | 31, hg =>
    obtain rfl : f = 169 := (Option.some.inj (show some 169 = some f from hg)).symm
    rw [prog_169] at hA; cases hA
  | 32, hg =>
    obtain rfl : f = 78 := (Option.some.inj (show some 78 = some f from hg)).symm
    rw [prog_78] at hA; cases hA
  | 33, hg =>
    obtain rfl : f = 170 := (Option.some.inj (show some 170 = some f from hg)).symm
    rw [prog_170] at hA; cases hA
  | 34, hg =>
    obtain rfl : f = 114 := (Option.some.inj (show some 114 = some f from hg)).symm
    rw [prog_114] at hA; cases hA
  | 35, hg =>
    obtain rfl : f = 171 := (Option.some.inj (show some 171 = some f from hg)).symm
    rw [prog_171] at hA; cases hA
  | 36, hg =>
    obtain rfl : f = 32 := (Option.some.inj (show some 32 = some f from hg)).symm
    rw [prog_32] at hA; cases hA
  | 37, hg =>
    obtain rfl : f = 128 := (Option.some.inj (show some 128 = some f from hg)).symm
    rw [prog_128] at hA; cases hA
  | 38, hg =>
    obtain rfl : f = 172 := (Option.some.inj (show some 172 = some f from hg)).symm
    rw [prog_172] at hA; cases hA
  | 39, hg => exact absurd (show (none : Option Nat) = some f from hg) (by simp)
  | 40, hg =>
    obtain rfl : f = 173 := (Option.some.inj (show some 173 = some f from hg)).symm
    rw [prog_173] at hA; cases hA
  | 41, hg => exact absurd (show (none : Option Nat) = some f from hg) (by simp)
  | 42, hg => exact absurd (show (none : Option Nat) = some f from hg) (by simp)
  | 43, hg => exact absurd (show (none : Option Nat) = some f from hg) (by simp)
  | 44, hg => exact absurd (show (none : Option Nat) = some f from hg) (by simp)
  | 45, hg => exact absurd (show (none : Option Nat) = some f from hg) (by simp)
  | 46, hg =>
    obtain rfl : f = 135 := (Option.some.inj (show some 135 = some f from hg)).symm
    rw [prog_135] at hA; cases hA
  | 47, hg => exact absurd (show (none : Option Nat) = some f from hg) (by simp)
  | 48, hg => exact absurd (show (none : Option Nat) = some f from hg) (by simp)
  | 49, hg => exact absurd (show (none : Option Nat) = some f from hg) (by simp)
  | 50, hg =>
    obtain rfl : f = 82 := (Option.some.inj (show some 82 = some f from hg)).symm
    rw [prog_82] at hA; cases hA
  | n + 51, hg => exact absurd (show (none : Option Nat) = some f from hg) (by simp)
theorem linked : Linked Try.prog gm prog := ⟨code_ok, prim_ok, primS_ok, by kernel_rfl⟩
end Go.Ab.Ytpemgniafhdheaa
