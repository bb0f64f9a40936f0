/- The laying of slices.Clone. -/
import Derived.KernelRfl
import Derived.Shelf.SlLaysE0
import Derived.Test.YtihjnlnmgbabjaaGreatDoorProg
import Derived.Test.YtihjnlnmgbabjaaGreatDoorA5
import Derived.Test.YtihjnlnmgbabjaaGreatDoorA3
import Derived.Test.YtihjnlnmgbabjaaGreatDoorShelf
set_option linter.unusedVariables false
set_option linter.unusedSimpArgs false
namespace Go.Proofs
open Go.Shelf
def Tryz.laysCL_ren : Go.Shelf.Ren := ⟨fun | 41 => 95 | n => n, fun | 4 => 4 | 22 => 47 | 23 => 62 | n => n, fun | n => n⟩
theorem Tryz.laysCL : SlLaysE0.n41 Tryz.prog Tryz.laysCL_ren := {
  mixed := by kernel_rfl
  f41 := ⟨"slices.Clone[[]posthorn/api.Field,posthorn/api.Field]", by decide, Tryz.func95.trans (congrArg some (by kernel_rfl))⟩
  t4 := Tryz.underlying4
  a4 := Tryz.isAgg4
  z4 := Tryz.sizeOf4
  v4 := Tryz.zeroValue4
  t22 := Tryz.underlying47
  a22 := Tryz.isAgg47
  z22 := Tryz.sizeOf47
  v22 := Tryz.zeroValue47 }
end Go.Proofs
/- The laying of copyCheck. -/
namespace Go.Proofs
open Go.Shelf
def Tryz.laysCC_ren : Go.Shelf.Ren := ⟨fun | 240 => 161 | 276 => 171 | n => n, fun | 4 => 4 | 70 => 146 | 72 => 148 | 37 => 22 | 164 => 176 | n => n, fun | n => n⟩
theorem Tryz.laysCC : CCLay Tryz.prog Tryz.laysCC_ren := {
  mixed := by kernel_rfl
  f240 := Tryz.func161.trans (congrArg some (by kernel_rfl))
  f276 := Tryz.func171.trans (congrArg some (by kernel_rfl))
  t4 := Tryz.underlying4
  a4 := Tryz.isAgg4
  z4 := Tryz.sizeOf4
  v4 := Tryz.zeroValue4
  t70 := Tryz.underlying146
  a70 := Tryz.isAgg146
  z70 := Tryz.sizeOf146
  v70 := Tryz.zeroValue146
  t72 := Tryz.underlying148
  a72 := Tryz.isAgg148
  z72 := Tryz.sizeOf148
  v72 := Tryz.zeroValue148
  t164 := Tryz.underlying176
  a164 := Tryz.isAgg176
  z164 := Tryz.sizeOf176
  v164 := Tryz.zeroValue176 }
theorem Tryz.Builder_X72_CC : Builder.X72 Tryz.prog Tryz.laysCC_ren := {
  sizeBuilder := by kernel_rfl
  liesBuilder := by kernel_rfl }
end Go.Proofs
/-
  The abstract program belongs to this seat's program.
-/
namespace Go.Ab.YtihjnlnmgbabjaaGreatDoor
open Go.Proofs Go.Shelf
set_option maxRecDepth 20000
def gfn : FuncId → Option Nat := fun f => match f with
  | 8 => some 369
  | 9 => some 347
  | 10 => some 348
  | 12 => some 350
  | 14 => some 352
  | 19 => some 358
  | 20 => some 359
  | 21 => some 360
  | 22 => some 362
  | 23 => some 150
  | 24 => some 155
  | 26 => some 365
  | 29 => some 370
  | 30 => some 371
  | 31 => some 372
  | 35 => some 377
  | 36 => some 376
  | 37 => some 381
  | 39 => some 378
  | 41 => some 256
  | 42 => some 128
  | 43 => some 262
  | 44 => some 380
  | 45 => some 382
  | 46 => some 383
  | 47 => some 384
  | 48 => some 386
  | 49 => some 385
  | 50 => some 164
  | 51 => some 165
  | 52 => some 166
  | 53 => some 167
  | 67 => some 392
  | 68 => some 305
  | 69 => some 393
  | 70 => some 115
  | 71 => some 113
  | 74 => some 199
  | 75 => some 274
  | 76 => some 275
  | 77 => some 258
  | 78 => some 276
  | 79 => some 277
  | 80 => some 278
  | 81 => some 135
  | 82 => some 285
  | 83 => some 284
  | 84 => some 286
  | 85 => some 287
  | 86 => some 288
  | 87 => some 289
  | 88 => some 290
  | 89 => some 291
  | 90 => some 292
  | 91 => some 395
  | 92 => some 111
  | 93 => some 145
  | 94 => some 398
  | 95 => some 396
  | 96 => some 397
  | 97 => some 401
  | 98 => some 171
  | 99 => some 32
  | 100 => some 168
  | 101 => some 158
  | 102 => some 157
  | 121 => some 314
  | 122 => some 399
  | 124 => some 306
  | 125 => some 307
  | 126 => some 82
  | 127 => some 310
  | 128 => some 58
  | 129 => some 59
  | 130 => some 57
  | 131 => some 72
  | 132 => some 311
  | 133 => some 133
  | 134 => some 124
  | 135 => some 125
  | 136 => some 126
  | 137 => some 127
  | 138 => some 159
  | 139 => some 400
  | 154 => some 79
  | 155 => some 136
  | 157 => some 315
  | 161 => some 73
  | 163 => some 134
  | 164 => some 78
  | 165 => some 169
  | 175 => some 172
  | _ => none
def gm : GMap := { fn := gfn, tB := 148, tU := 5, inv := fun κ => ∃ m, κ.C (Tryz.laysM185_ren.g 1) 0 = some (.int .i64 m), mono := fun _ _ h ⟨m, hm⟩ => ⟨m, h _ _ _ hm⟩, glob := fun _ => none, globOK := fun _ _ _ _ h => by cases h }
theorem chk8 : chkFn Tryz.prog gm Tryz.f8 F_posthornlaw25_TraceStrips = true := by kernel_rfl
theorem chk9 : chkFn Tryz.prog gm Tryz.f9 F_posthornlaw25_alive = true := by kernel_rfl
theorem chk10 : chkFn Tryz.prog gm Tryz.f10 F_trace_Hops = true := by kernel_rfl
theorem chk12 : chkFn Tryz.prog gm Tryz.f12 F_trace_Round = true := by kernel_rfl
theorem chk14 : chkFn Tryz.prog gm Tryz.f14 F_trace_Back = true := by kernel_rfl
theorem chk19 : chkFn Tryz.prog gm Tryz.f19 F_trace_Write = true := by kernel_rfl
theorem chk20 : chkFn Tryz.prog gm Tryz.f20 F_trace_Read = true := by kernel_rfl
theorem chk21 : chkFn Tryz.prog gm Tryz.f21 F_trace_Right = true := by kernel_rfl
theorem chk22 : chkFn Tryz.prog gm Tryz.f22 F_trace_Stamp = true := by kernel_rfl
theorem chk23 : chkFn Tryz.prog gm Tryz.f23 F_fields_Parse = true := by kernel_rfl
theorem chk24 : chkFn Tryz.prog gm Tryz.f24 F_fields_Same = true := by kernel_rfl
theorem chk26 : chkFn Tryz.prog gm Tryz.f26 F_trace_Strip = true := by kernel_rfl
theorem chk29 : chkFn Tryz.prog gm Tryz.f29 F_posthornlaw25_Mark = true := by kernel_rfl
theorem chk30 : chkFn Tryz.prog gm Tryz.f30 F_trace_split = true := by kernel_rfl
theorem chk31 : chkFn Tryz.prog gm Tryz.f31 F_trace_all = true := by kernel_rfl
theorem chk35 : chkFn Tryz.prog gm Tryz.f35 F_slices_ContainsFunc_s_string_string = true := by kernel_rfl
theorem chk36 : chkFn Tryz.prog gm Tryz.f36 F_trace_Round_c1 = true := by kernel_rfl
theorem chk37 : chkFn Tryz.prog gm Tryz.f37 F_trace_lower = true := by kernel_rfl
theorem chk39 : chkFn Tryz.prog gm Tryz.f39 F_trace_person = true := by kernel_rfl
theorem chk41 : chkFn Tryz.prog gm Tryz.f41 F_date_Print = true := by kernel_rfl
theorem chk42 : chkFn Tryz.prog gm Tryz.f42 F_strings_Cut = true := by kernel_rfl
theorem chk43 : chkFn Tryz.prog gm Tryz.f43 F_date_Parse = true := by kernel_rfl
theorem chk44 : chkFn Tryz.prog gm Tryz.f44 F_trace_words = true := by kernel_rfl
theorem chk45 : chkFn Tryz.prog gm Tryz.f45 F_trace_isDomain = true := by kernel_rfl
theorem chk46 : chkFn Tryz.prog gm Tryz.f46 F_trace_isID = true := by kernel_rfl
theorem chk47 : chkFn Tryz.prog gm Tryz.f47 F_trace_isPerson = true := by kernel_rfl
theorem chk48 : chkFn Tryz.prog gm Tryz.f48 F_trace_join = true := by kernel_rfl
theorem chk49 : chkFn Tryz.prog gm Tryz.f49 F_trace_without = true := by kernel_rfl
theorem chk50 : chkFn Tryz.prog gm Tryz.f50 F_fields_lines = true := by kernel_rfl
theorem chk51 : chkFn Tryz.prog gm Tryz.f51 F_P_fields_reader_shut = true := by kernel_rfl
theorem chk52 : chkFn Tryz.prog gm Tryz.f52 F_P_fields_reader_line = true := by kernel_rfl
theorem chk53 : chkFn Tryz.prog gm Tryz.f53 F_fields_lower = true := by kernel_rfl
theorem chk67 : chkFn Tryz.prog gm Tryz.f67 F_slices_IndexFunc_s_string_string = true := by kernel_rfl
theorem chk68 : chkFn Tryz.prog gm Tryz.f68 F_strings_CutPrefix = true := by kernel_rfl
theorem chk69 : chkFn Tryz.prog gm Tryz.f69 F_strings_CutSuffix = true := by kernel_rfl
theorem chk70 : chkFn Tryz.prog gm Tryz.f70 F_addr_Plain = true := by kernel_rfl
theorem chk71 : chkFn Tryz.prog gm Tryz.f71 F_addr_Normal = true := by kernel_rfl
theorem chk74 : chkFn Tryz.prog gm Tryz.f74 F_when_Right = true := by kernel_rfl
theorem chk75 : chkFn Tryz.prog gm Tryz.f75 F_date_isShift = true := by kernel_rfl
theorem chk76 : chkFn Tryz.prog gm Tryz.f76 F_when_Civil = true := by kernel_rfl
theorem chk77 : chkFn Tryz.prog gm Tryz.f77 F_date_Weekday = true := by kernel_rfl
theorem chk78 : chkFn Tryz.prog gm Tryz.f78 F_date_two = true := by kernel_rfl
theorem chk79 : chkFn Tryz.prog gm Tryz.f79 F_date_dayName = true := by kernel_rfl
theorem chk80 : chkFn Tryz.prog gm Tryz.f80 F_date_monthName = true := by kernel_rfl
theorem chk81 : chkFn Tryz.prog gm Tryz.f81 F_internal_stringslite_Cut = true := by kernel_rfl
theorem chk82 : chkFn Tryz.prog gm Tryz.f82 F_date_words = true := by kernel_rfl
theorem chk83 : chkFn Tryz.prog gm Tryz.f83 F_date_bare = true := by kernel_rfl
theorem chk84 : chkFn Tryz.prog gm Tryz.f84 F_date_weekday = true := by kernel_rfl
theorem chk85 : chkFn Tryz.prog gm Tryz.f85 F_date_digits = true := by kernel_rfl
theorem chk86 : chkFn Tryz.prog gm Tryz.f86 F_date_name = true := by kernel_rfl
theorem chk87 : chkFn Tryz.prog gm Tryz.f87 F_date_year = true := by kernel_rfl
theorem chk88 : chkFn Tryz.prog gm Tryz.f88 F_date_clock = true := by kernel_rfl
theorem chk89 : chkFn Tryz.prog gm Tryz.f89 F_date_zone = true := by kernel_rfl
theorem chk90 : chkFn Tryz.prog gm Tryz.f90 F_when_Days = true := by kernel_rfl
theorem chk91 : chkFn Tryz.prog gm Tryz.f91 F_trace_words_c1 = true := by kernel_rfl
theorem chk92 : chkFn Tryz.prog gm Tryz.f92 F_addr_Right = true := by kernel_rfl
theorem chk93 : chkFn Tryz.prog gm Tryz.f93 F_fields_Write = true := by kernel_rfl
theorem chk94 : chkFn Tryz.prog gm Tryz.f94 F_slices_DeleteFunc_s_api_Field_api_Field = true := by kernel_rfl
theorem chk96 : chkFn Tryz.prog gm Tryz.f96 F_trace_without_c1 = true := by kernel_rfl
theorem chk97 : chkFn Tryz.prog gm Tryz.f97 F_trace_without_c1_c1 = true := by kernel_rfl
theorem chk98 : chkFn Tryz.prog gm Tryz.f98 F_fields_lines_c1 = true := by kernel_rfl
theorem chk100 : chkFn Tryz.prog gm Tryz.f100 F_fields_trim = true := by kernel_rfl
theorem chk101 : chkFn Tryz.prog gm Tryz.f101 F_fields_isValue = true := by kernel_rfl
theorem chk102 : chkFn Tryz.prog gm Tryz.f102 F_fields_isName = true := by kernel_rfl
theorem chk121 : chkFn Tryz.prog gm Tryz.f121 F_internal_stringslite_CutPrefix = true := by kernel_rfl
theorem chk122 : chkFn Tryz.prog gm Tryz.f122 F_internal_stringslite_CutSuffix = true := by kernel_rfl
theorem chk124 : chkFn Tryz.prog gm Tryz.f124 F_when_before = true := by kernel_rfl
theorem chk125 : chkFn Tryz.prog gm Tryz.f125 F_when_month = true := by kernel_rfl
theorem chk127 : chkFn Tryz.prog gm Tryz.f127 F_date_words_c1 = true := by kernel_rfl
theorem chk128 : chkFn Tryz.prog gm Tryz.f128 F_P_strings_Builder_WriteString = true := by kernel_rfl
theorem chk130 : chkFn Tryz.prog gm Tryz.f130 F_P_strings_Builder_WriteByte = true := by kernel_rfl
theorem chk131 : chkFn Tryz.prog gm Tryz.f131 F_strings_HasPrefix = true := by kernel_rfl
theorem chk132 : chkFn Tryz.prog gm Tryz.f132 F_date_lower = true := by kernel_rfl
theorem chk134 : chkFn Tryz.prog gm Tryz.f134 F_addr_parts = true := by kernel_rfl
theorem chk135 : chkFn Tryz.prog gm Tryz.f135 F_addr_isAtom = true := by kernel_rfl
theorem chk136 : chkFn Tryz.prog gm Tryz.f136 F_addr_isLabel = true := by kernel_rfl
theorem chk137 : chkFn Tryz.prog gm Tryz.f137 F_addr_isName = true := by kernel_rfl
theorem chk138 : chkFn Tryz.prog gm Tryz.f138 F_fields_fold = true := by kernel_rfl
theorem chk139 : chkFn Tryz.prog gm Tryz.f139 F_slices_IndexFunc_s_api_Field_api_Field = true := by kernel_rfl
theorem chk154 : chkFn Tryz.prog gm Tryz.f154 F_internal_stringslite_HasPrefix = true := by kernel_rfl
theorem chk155 : chkFn Tryz.prog gm Tryz.f155 F_internal_stringslite_HasSuffix = true := by kernel_rfl
theorem chk157 : chkFn Tryz.prog gm Tryz.f157 F_when_leap = true := by kernel_rfl
theorem chk163 : chkFn Tryz.prog gm Tryz.f163 F_addr_alnum = true := by kernel_rfl
theorem chk165 : chkFn Tryz.prog gm Tryz.f165 F_strings_LastIndexByte = true := by kernel_rfl
theorem chk175 : chkFn Tryz.prog gm Tryz.f175 F_internal_bytealg_LastIndexByteString = true := by kernel_rfl
set_option maxRecDepth 100000 in
theorem code_ok : ∀ (f' : FuncId) (f : Nat) (fn : ACFn), gm f' = some f → prog f = some (.code fn) → ∃ pf, Tryz.prog.funcs[f']? = some pf ∧ chkFn Tryz.prog gm pf fn = true := by
  intro f' f fn hg hA
  match f', hg with
  | 0, hg => exact absurd (show (none : Option Nat) = some f from hg) (by simp)
  | 1, hg => exact absurd (show (none : Option Nat) = some f from hg) (by simp)
  | 2, hg => exact absurd (show (none : Option Nat) = some f from hg) (by simp)
  | 3, hg => exact absurd (show (none : Option Nat) = some f from hg) (by simp)
  | 4, hg => exact absurd (show (none : Option Nat) = some f from hg) (by simp)
  | 5, hg => exact absurd (show (none : Option Nat) = some f from hg) (by simp)
  | 6, hg => exact absurd (show (none : Option Nat) = some f from hg) (by simp)
  | 7, hg => exact absurd (show (none : Option Nat) = some f from hg) (by simp)
  | 8, hg =>
    obtain rfl : f = 369 := (Option.some.inj (show some 369 = some f from hg)).symm
    obtain rfl : fn = F_posthornlaw25_TraceStrips := (AFn.code.inj (Option.some.inj (prog_369.symm.trans hA))).symm
    exact ⟨_, Tryz.func8, chk8⟩
  | 9, hg =>
    obtain rfl : f = 347 := (Option.some.inj (show some 347 = some f from hg)).symm
    obtain rfl : fn = F_posthornlaw25_alive := (AFn.code.inj (Option.some.inj (prog_347.symm.trans hA))).symm
    exact ⟨_, Tryz.func9, chk9⟩
  | 10, hg =>
    obtain rfl : f = 348 := (Option.some.inj (show some 348 = some f from hg)).symm
    obtain rfl : fn = F_trace_Hops := (AFn.code.inj (Option.some.inj (prog_348.symm.trans hA))).symm
    exact ⟨_, Tryz.func10, chk10⟩
  | 11, hg => exact absurd (show (none : Option Nat) = some f from hg) (by simp)
  | 12, hg =>
    obtain rfl : f = 350 := (Option.some.inj (show some 350 = some f from hg)).symm
    obtain rfl : fn = F_trace_Round := (AFn.code.inj (Option.some.inj (prog_350.symm.trans hA))).symm
    exact ⟨_, Tryz.func12, chk12⟩
  | 13, hg => exact absurd (show (none : Option Nat) = some f from hg) (by simp)
  | 14, hg =>
    obtain rfl : f = 352 := (Option.some.inj (show some 352 = some f from hg)).symm
    obtain rfl : fn = F_trace_Back := (AFn.code.inj (Option.some.inj (prog_352.symm.trans hA))).symm
    exact ⟨_, Tryz.func14, chk14⟩
  | 15, hg => exact absurd (show (none : Option Nat) = some f from hg) (by simp)
  | 16, hg => exact absurd (show (none : Option Nat) = some f from hg) (by simp)
  | 17, hg => exact absurd (show (none : Option Nat) = some f from hg) (by simp)
  | 18, hg => exact absurd (show (none : Option Nat) = some f from hg) (by simp)
  | 19, hg =>
    obtain rfl : f = 358 := (Option.some.inj (show some 358 = some f from hg)).symm
    obtain rfl : fn = F_trace_Write := (AFn.code.inj (Option.some.inj (prog_358.symm.trans hA))).symm
    exact ⟨_, Tryz.func19, chk19⟩
  | 20, hg =>
    obtain rfl : f = 359 := (Option.some.inj (show some 359 = some f from hg)).symm
    obtain rfl : fn = F_trace_Read := (AFn.code.inj (Option.some.inj (prog_359.symm.trans hA))).symm
    exact ⟨_, Tryz.func20, chk20⟩
  | 21, hg =>
    obtain rfl : f = 360 := (Option.some.inj (show some 360 = some f from hg)).symm
    obtain rfl : fn = F_trace_Right := (AFn.code.inj (Option.some.inj (prog_360.symm.trans hA))).symm
    exact ⟨_, Tryz.func21, chk21⟩
  | 22, hg =>
    obtain rfl : f = 362 := (Option.some.inj (show some 362 = some f from hg)).symm
    obtain rfl : fn = F_trace_Stamp := (AFn.code.inj (Option.some.inj (prog_362.symm.trans hA))).symm
    exact ⟨_, Tryz.func22, chk22⟩
  | 23, hg =>
    obtain rfl : f = 150 := (Option.some.inj (show some 150 = some f from hg)).symm
    obtain rfl : fn = F_fields_Parse := (AFn.code.inj (Option.some.inj (prog_150.symm.trans hA))).symm
    exact ⟨_, Tryz.func23, chk23⟩
  | 24, hg =>
    obtain rfl : f = 155 := (Option.some.inj (show some 155 = some f from hg)).symm
    obtain rfl : fn = F_fields_Same := (AFn.code.inj (Option.some.inj (prog_155.symm.trans hA))).symm
    exact ⟨_, Tryz.func24, chk24⟩
  | 25, hg => exact absurd (show (none : Option Nat) = some f from hg) (by simp)
  | 26, hg =>
    obtain rfl : f = 365 := (Option.some.inj (show some 365 = some f from hg)).symm
    obtain rfl : fn = F_trace_Strip := (AFn.code.inj (Option.some.inj (prog_365.symm.trans hA))).symm
    exact ⟨_, Tryz.func26, chk26⟩
  | 27, hg => exact absurd (show (none : Option Nat) = some f from hg) (by simp)
  | 28, hg => exact absurd (show (none : Option Nat) = some f from hg) (by simp)
  | 29, hg =>
    obtain rfl : f = 370 := (Option.some.inj (show some 370 = some f from hg)).symm
    obtain rfl : fn = F_posthornlaw25_Mark := (AFn.code.inj (Option.some.inj (prog_370.symm.trans hA))).symm
    exact ⟨_, Tryz.func29, chk29⟩
  | 30, hg =>
    obtain rfl : f = 371 := (Option.some.inj (show some 371 = some f from hg)).symm
    obtain rfl : fn = F_trace_split := (AFn.code.inj (Option.some.inj (prog_371.symm.trans hA))).symm
    exact ⟨_, Tryz.func30, chk30⟩
  | 31, hg =>
    obtain rfl : f = 372 := (Option.some.inj (show some 372 = some f from hg)).symm
    obtain rfl : fn = F_trace_all := (AFn.code.inj (Option.some.inj (prog_372.symm.trans hA))).symm
    exact ⟨_, Tryz.func31, chk31⟩
  | 32, hg => exact absurd (show (none : Option Nat) = some f from hg) (by simp)
  | 33, hg => exact absurd (show (none : Option Nat) = some f from hg) (by simp)
  | 34, hg => exact absurd (show (none : Option Nat) = some f from hg) (by simp)
  | 35, hg =>
    obtain rfl : f = 377 := (Option.some.inj (show some 377 = some f from hg)).symm
    obtain rfl : fn = F_slices_ContainsFunc_s_string_string := (AFn.code.inj (Option.some.inj (prog_377.symm.trans hA))).symm
    exact ⟨_, Tryz.func35, chk35⟩
  | 36, hg =>
    obtain rfl : f = 376 := (Option.some.inj (show some 376 = some f from hg)).symm
    obtain rfl : fn = F_trace_Round_c1 := (AFn.code.inj (Option.some.inj (prog_376.symm.trans hA))).symm
    exact ⟨_, Tryz.func36, chk36⟩
  | 37, hg =>
    obtain rfl : f = 381 := (Option.some.inj (show some 381 = some f from hg)).symm
    obtain rfl : fn = F_trace_lower := (AFn.code.inj (Option.some.inj (prog_381.symm.trans hA))).symm
    exact ⟨_, Tryz.func37, chk37⟩
  | 38, hg => exact absurd (show (none : Option Nat) = some f from hg) (by simp)
  | 39, hg =>
    obtain rfl : f = 378 := (Option.some.inj (show some 378 = some f from hg)).symm
    obtain rfl : fn = F_trace_person := (AFn.code.inj (Option.some.inj (prog_378.symm.trans hA))).symm
    exact ⟨_, Tryz.func39, chk39⟩
  | 40, hg => exact absurd (show (none : Option Nat) = some f from hg) (by simp)
  | 41, hg =>
    obtain rfl : f = 256 := (Option.some.inj (show some 256 = some f from hg)).symm
    obtain rfl : fn = F_date_Print := (AFn.code.inj (Option.some.inj (prog_256.symm.trans hA))).symm
    exact ⟨_, Tryz.func41, chk41⟩
  | 42, hg =>
    obtain rfl : f = 128 := (Option.some.inj (show some 128 = some f from hg)).symm
    obtain rfl : fn = F_strings_Cut := (AFn.code.inj (Option.some.inj (prog_128.symm.trans hA))).symm
    exact ⟨_, Tryz.func42, chk42⟩
  | 43, hg =>
    obtain rfl : f = 262 := (Option.some.inj (show some 262 = some f from hg)).symm
    obtain rfl : fn = F_date_Parse := (AFn.code.inj (Option.some.inj (prog_262.symm.trans hA))).symm
    exact ⟨_, Tryz.func43, chk43⟩
  | 44, hg =>
    obtain rfl : f = 380 := (Option.some.inj (show some 380 = some f from hg)).symm
    obtain rfl : fn = F_trace_words := (AFn.code.inj (Option.some.inj (prog_380.symm.trans hA))).symm
    exact ⟨_, Tryz.func44, chk44⟩
  | 45, hg =>
    obtain rfl : f = 382 := (Option.some.inj (show some 382 = some f from hg)).symm
    obtain rfl : fn = F_trace_isDomain := (AFn.code.inj (Option.some.inj (prog_382.symm.trans hA))).symm
    exact ⟨_, Tryz.func45, chk45⟩
  | 46, hg =>
    obtain rfl : f = 383 := (Option.some.inj (show some 383 = some f from hg)).symm
    obtain rfl : fn = F_trace_isID := (AFn.code.inj (Option.some.inj (prog_383.symm.trans hA))).symm
    exact ⟨_, Tryz.func46, chk46⟩
  | 47, hg =>
    obtain rfl : f = 384 := (Option.some.inj (show some 384 = some f from hg)).symm
    obtain rfl : fn = F_trace_isPerson := (AFn.code.inj (Option.some.inj (prog_384.symm.trans hA))).symm
    exact ⟨_, Tryz.func47, chk47⟩
  | 48, hg =>
    obtain rfl : f = 386 := (Option.some.inj (show some 386 = some f from hg)).symm
    obtain rfl : fn = F_trace_join := (AFn.code.inj (Option.some.inj (prog_386.symm.trans hA))).symm
    exact ⟨_, Tryz.func48, chk48⟩
  | 49, hg =>
    obtain rfl : f = 385 := (Option.some.inj (show some 385 = some f from hg)).symm
    obtain rfl : fn = F_trace_without := (AFn.code.inj (Option.some.inj (prog_385.symm.trans hA))).symm
    exact ⟨_, Tryz.func49, chk49⟩
  | 50, hg =>
    obtain rfl : f = 164 := (Option.some.inj (show some 164 = some f from hg)).symm
    obtain rfl : fn = F_fields_lines := (AFn.code.inj (Option.some.inj (prog_164.symm.trans hA))).symm
    exact ⟨_, Tryz.func50, chk50⟩
  | 51, hg =>
    obtain rfl : f = 165 := (Option.some.inj (show some 165 = some f from hg)).symm
    obtain rfl : fn = F_P_fields_reader_shut := (AFn.code.inj (Option.some.inj (prog_165.symm.trans hA))).symm
    exact ⟨_, Tryz.func51, chk51⟩
  | 52, hg =>
    obtain rfl : f = 166 := (Option.some.inj (show some 166 = some f from hg)).symm
    obtain rfl : fn = F_P_fields_reader_line := (AFn.code.inj (Option.some.inj (prog_166.symm.trans hA))).symm
    exact ⟨_, Tryz.func52, chk52⟩
  | 53, hg =>
    obtain rfl : f = 167 := (Option.some.inj (show some 167 = some f from hg)).symm
    obtain rfl : fn = F_fields_lower := (AFn.code.inj (Option.some.inj (prog_167.symm.trans hA))).symm
    exact ⟨_, Tryz.func53, chk53⟩
  | 54, hg => exact absurd (show (none : Option Nat) = some f from hg) (by simp)
  | 55, hg => exact absurd (show (none : Option Nat) = some f from hg) (by simp)
  | 56, hg => exact absurd (show (none : Option Nat) = some f from hg) (by simp)
  | 57, hg => exact absurd (show (none : Option Nat) = some f from hg) (by simp)
  | 58, hg => exact absurd (show (none : Option Nat) = some f from hg) (by simp)
  | 59, hg => exact absurd (show (none : Option Nat) = some f from hg) (by simp)
  | 60, hg => exact absurd (show (none : Option Nat) = some f from hg) (by simp)
  | 61, hg => exact absurd (show (none : Option Nat) = some f from hg) (by simp)
  | 62, hg => exact absurd (show (none : Option Nat) = some f from hg) (by simp)
  | 63, hg => exact absurd (show (none : Option Nat) = some f from hg) (by simp)
  | 64, hg => exact absurd (show (none : Option Nat) = some f from hg) (by simp)
  | 65, hg => exact absurd (show (none : Option Nat) = some f from hg) (by simp)
  | 66, hg => exact absurd (show (none : Option Nat) = some f from hg) (by simp)
  | 67, hg =>
    obtain rfl : f = 392 := (Option.some.inj (show some 392 = some f from hg)).symm
    obtain rfl : fn = F_slices_IndexFunc_s_string_string := (AFn.code.inj (Option.some.inj (prog_392.symm.trans hA))).symm
    exact ⟨_, Tryz.func67, chk67⟩
  | 68, hg =>
    obtain rfl : f = 305 := (Option.some.inj (show some 305 = some f from hg)).symm
    obtain rfl : fn = F_strings_CutPrefix := (AFn.code.inj (Option.some.inj (prog_305.symm.trans hA))).symm
    exact ⟨_, Tryz.func68, chk68⟩
  | 69, hg =>
    obtain rfl : f = 393 := (Option.some.inj (show some 393 = some f from hg)).symm
    obtain rfl : fn = F_strings_CutSuffix := (AFn.code.inj (Option.some.inj (prog_393.symm.trans hA))).symm
    exact ⟨_, Tryz.func69, chk69⟩
  | 70, hg =>
    obtain rfl : f = 115 := (Option.some.inj (show some 115 = some f from hg)).symm
    obtain rfl : fn = F_addr_Plain := (AFn.code.inj (Option.some.inj (prog_115.symm.trans hA))).symm
    exact ⟨_, Tryz.func70, chk70⟩
  | 71, hg =>
    obtain rfl : f = 113 := (Option.some.inj (show some 113 = some f from hg)).symm
    obtain rfl : fn = F_addr_Normal := (AFn.code.inj (Option.some.inj (prog_113.symm.trans hA))).symm
    exact ⟨_, Tryz.func71, chk71⟩
  | 72, hg => exact absurd (show (none : Option Nat) = some f from hg) (by simp)
  | 73, hg => exact absurd (show (none : Option Nat) = some f from hg) (by simp)
  | 74, hg =>
    obtain rfl : f = 199 := (Option.some.inj (show some 199 = some f from hg)).symm
    obtain rfl : fn = F_when_Right := (AFn.code.inj (Option.some.inj (prog_199.symm.trans hA))).symm
    exact ⟨_, Tryz.func74, chk74⟩
  | 75, hg =>
    obtain rfl : f = 274 := (Option.some.inj (show some 274 = some f from hg)).symm
    obtain rfl : fn = F_date_isShift := (AFn.code.inj (Option.some.inj (prog_274.symm.trans hA))).symm
    exact ⟨_, Tryz.func75, chk75⟩
  | 76, hg =>
    obtain rfl : f = 275 := (Option.some.inj (show some 275 = some f from hg)).symm
    obtain rfl : fn = F_when_Civil := (AFn.code.inj (Option.some.inj (prog_275.symm.trans hA))).symm
    exact ⟨_, Tryz.func76, chk76⟩
  | 77, hg =>
    obtain rfl : f = 258 := (Option.some.inj (show some 258 = some f from hg)).symm
    obtain rfl : fn = F_date_Weekday := (AFn.code.inj (Option.some.inj (prog_258.symm.trans hA))).symm
    exact ⟨_, Tryz.func77, chk77⟩
  | 78, hg =>
    obtain rfl : f = 276 := (Option.some.inj (show some 276 = some f from hg)).symm
    obtain rfl : fn = F_date_two := (AFn.code.inj (Option.some.inj (prog_276.symm.trans hA))).symm
    exact ⟨_, Tryz.func78, chk78⟩
  | 79, hg =>
    obtain rfl : f = 277 := (Option.some.inj (show some 277 = some f from hg)).symm
    obtain rfl : fn = F_date_dayName := (AFn.code.inj (Option.some.inj (prog_277.symm.trans hA))).symm
    exact ⟨_, Tryz.func79, chk79⟩
  | 80, hg =>
    obtain rfl : f = 278 := (Option.some.inj (show some 278 = some f from hg)).symm
    obtain rfl : fn = F_date_monthName := (AFn.code.inj (Option.some.inj (prog_278.symm.trans hA))).symm
    exact ⟨_, Tryz.func80, chk80⟩
  | 81, hg =>
    obtain rfl : f = 135 := (Option.some.inj (show some 135 = some f from hg)).symm
    obtain rfl : fn = F_internal_stringslite_Cut := (AFn.code.inj (Option.some.inj (prog_135.symm.trans hA))).symm
    exact ⟨_, Tryz.func81, chk81⟩
  | 82, hg =>
    obtain rfl : f = 285 := (Option.some.inj (show some 285 = some f from hg)).symm
    obtain rfl : fn = F_date_words := (AFn.code.inj (Option.some.inj (prog_285.symm.trans hA))).symm
    exact ⟨_, Tryz.func82, chk82⟩
  | 83, hg =>
    obtain rfl : f = 284 := (Option.some.inj (show some 284 = some f from hg)).symm
    obtain rfl : fn = F_date_bare := (AFn.code.inj (Option.some.inj (prog_284.symm.trans hA))).symm
    exact ⟨_, Tryz.func83, chk83⟩
  | 84, hg =>
    obtain rfl : f = 286 := (Option.some.inj (show some 286 = some f from hg)).symm
    obtain rfl : fn = F_date_weekday := (AFn.code.inj (Option.some.inj (prog_286.symm.trans hA))).symm
    exact ⟨_, Tryz.func84, chk84⟩
  | 85, hg =>
    obtain rfl : f = 287 := (Option.some.inj (show some 287 = some f from hg)).symm
    obtain rfl : fn = F_date_digits := (AFn.code.inj (Option.some.inj (prog_287.symm.trans hA))).symm
    exact ⟨_, Tryz.func85, chk85⟩
  | 86, hg =>
    obtain rfl : f = 288 := (Option.some.inj (show some 288 = some f from hg)).symm
    obtain rfl : fn = F_date_name := (AFn.code.inj (Option.some.inj (prog_288.symm.trans hA))).symm
    exact ⟨_, Tryz.func86, chk86⟩
  | 87, hg =>
    obtain rfl : f = 289 := (Option.some.inj (show some 289 = some f from hg)).symm
    obtain rfl : fn = F_date_year := (AFn.code.inj (Option.some.inj (prog_289.symm.trans hA))).symm
    exact ⟨_, Tryz.func87, chk87⟩
  | 88, hg =>
    obtain rfl : f = 290 := (Option.some.inj (show some 290 = some f from hg)).symm
    obtain rfl : fn = F_date_clock := (AFn.code.inj (Option.some.inj (prog_290.symm.trans hA))).symm
    exact ⟨_, Tryz.func88, chk88⟩
  | 89, hg =>
    obtain rfl : f = 291 := (Option.some.inj (show some 291 = some f from hg)).symm
    obtain rfl : fn = F_date_zone := (AFn.code.inj (Option.some.inj (prog_291.symm.trans hA))).symm
    exact ⟨_, Tryz.func89, chk89⟩
  | 90, hg =>
    obtain rfl : f = 292 := (Option.some.inj (show some 292 = some f from hg)).symm
    obtain rfl : fn = F_when_Days := (AFn.code.inj (Option.some.inj (prog_292.symm.trans hA))).symm
    exact ⟨_, Tryz.func90, chk90⟩
  | 91, hg =>
    obtain rfl : f = 395 := (Option.some.inj (show some 395 = some f from hg)).symm
    obtain rfl : fn = F_trace_words_c1 := (AFn.code.inj (Option.some.inj (prog_395.symm.trans hA))).symm
    exact ⟨_, Tryz.func91, chk91⟩
  | 92, hg =>
    obtain rfl : f = 111 := (Option.some.inj (show some 111 = some f from hg)).symm
    obtain rfl : fn = F_addr_Right := (AFn.code.inj (Option.some.inj (prog_111.symm.trans hA))).symm
    exact ⟨_, Tryz.func92, chk92⟩
  | 93, hg =>
    obtain rfl : f = 145 := (Option.some.inj (show some 145 = some f from hg)).symm
    obtain rfl : fn = F_fields_Write := (AFn.code.inj (Option.some.inj (prog_145.symm.trans hA))).symm
    exact ⟨_, Tryz.func93, chk93⟩
  | 94, hg =>
    obtain rfl : f = 398 := (Option.some.inj (show some 398 = some f from hg)).symm
    obtain rfl : fn = F_slices_DeleteFunc_s_api_Field_api_Field := (AFn.code.inj (Option.some.inj (prog_398.symm.trans hA))).symm
    exact ⟨_, Tryz.func94, chk94⟩
  | 95, hg =>
    obtain rfl : f = 396 := (Option.some.inj (show some 396 = some f from hg)).symm
    rw [prog_396] at hA; cases hA
  | 96, hg =>
    obtain rfl : f = 397 := (Option.some.inj (show some 397 = some f from hg)).symm
    obtain rfl : fn = F_trace_without_c1 := (AFn.code.inj (Option.some.inj (prog_397.symm.trans hA))).symm
    exact ⟨_, Tryz.func96, chk96⟩
  | 97, hg =>
    obtain rfl : f = 401 := (Option.some.inj (show some 401 = some f from hg)).symm
    obtain rfl : fn = F_trace_without_c1_c1 := (AFn.code.inj (Option.some.inj (prog_401.symm.trans hA))).symm
    exact ⟨_, Tryz.func97, chk97⟩
  | 98, hg =>
    obtain rfl : f = 171 := (Option.some.inj (show some 171 = some f from hg)).symm
    obtain rfl : fn = F_fields_lines_c1 := (AFn.code.inj (Option.some.inj (prog_171.symm.trans hA))).symm
    exact ⟨_, Tryz.func98, chk98⟩
  | 99, hg =>
    obtain rfl : f = 32 := (Option.some.inj (show some 32 = some f from hg)).symm
    rw [prog_32] at hA; cases hA
  | 100, hg =>
    obtain rfl : f = 168 := (Option.some.inj (show some 168 = some f from hg)).symm
    obtain rfl : fn = F_fields_trim := (AFn.code.inj (Option.some.inj (prog_168.symm.trans hA))).symm
    exact ⟨_, Tryz.func100, chk100⟩
  | 101, hg =>
    obtain rfl : f = 158 := (Option.some.inj (show some 158 = some f from hg)).symm
    obtain rfl : fn = F_fields_isValue := (AFn.code.inj (Option.some.inj (prog_158.symm.trans hA))).symm
    exact ⟨_, Tryz.func101, chk101⟩
  | 102, hg =>
    obtain rfl : f = 157 := (Option.some.inj (show some 157 = some f from hg)).symm
    obtain rfl : fn = F_fields_isName := (AFn.code.inj (Option.some.inj (prog_157.symm.trans hA))).symm
    exact ⟨_, Tryz.func102, chk102⟩
  | 103, hg => exact absurd (show (none : Option Nat) = some f from hg) (by simp)
  | 104, hg => exact absurd (show (none : Option Nat) = some f from hg) (by simp)
  | 105, hg => exact absurd (show (none : Option Nat) = some f from hg) (by simp)
  | 106, hg => exact absurd (show (none : Option Nat) = some f from hg) (by simp)
  | 107, hg => exact absurd (show (none : Option Nat) = some f from hg) (by simp)
  | 108, hg => exact absurd (show (none : Option Nat) = some f from hg) (by simp)
  | 109, hg => exact absurd (show (none : Option Nat) = some f from hg) (by simp)
  | 110, hg => exact absurd (show (none : Option Nat) = some f from hg) (by simp)
  | 111, hg => exact absurd (show (none : Option Nat) = some f from hg) (by simp)
  | 112, hg => exact absurd (show (none : Option Nat) = some f from hg) (by simp)
  | 113, hg => exact absurd (show (none : Option Nat) = some f from hg) (by simp)
  | 114, hg => exact absurd (show (none : Option Nat) = some f from hg) (by simp)
  | 115, hg => exact absurd (show (none : Option Nat) = some f from hg) (by simp)
  | 116, hg => exact absurd (show (none : Option Nat) = some f from hg) (by simp)
  | 117, hg => exact absurd (show (none : Option Nat) = some f from hg) (by simp)
  | 118, hg => exact absurd (show (none : Option Nat) = some f from hg) (by simp)
  | 119, hg => exact absurd (show (none : Option Nat) = some f from hg) (by simp)
  | 120, hg => exact absurd (show (none : Option Nat) = some f from hg) (by simp)
  | 121, hg =>
    obtain rfl : f = 314 := (Option.some.inj (show some 314 = some f from hg)).symm
    obtain rfl : fn = F_internal_stringslite_CutPrefix := (AFn.code.inj (Option.some.inj (prog_314.symm.trans hA))).symm
    exact ⟨_, Tryz.func121, chk121⟩
  | 122, hg =>
    obtain rfl : f = 399 := (Option.some.inj (show some 399 = some f from hg)).symm
    obtain rfl : fn = F_internal_stringslite_CutSuffix := (AFn.code.inj (Option.some.inj (prog_399.symm.trans hA))).symm
    exact ⟨_, Tryz.func122, chk122⟩
  | 123, hg => exact absurd (show (none : Option Nat) = some f from hg) (by simp)
  | 124, hg =>
    obtain rfl : f = 306 := (Option.some.inj (show some 306 = some f from hg)).symm
    obtain rfl : fn = F_when_before := (AFn.code.inj (Option.some.inj (prog_306.symm.trans hA))).symm
    exact ⟨_, Tryz.func124, chk124⟩
  | 125, hg =>
    obtain rfl : f = 307 := (Option.some.inj (show some 307 = some f from hg)).symm
    obtain rfl : fn = F_when_month := (AFn.code.inj (Option.some.inj (prog_307.symm.trans hA))).symm
    exact ⟨_, Tryz.func125, chk125⟩
  | 126, hg =>
    obtain rfl : f = 82 := (Option.some.inj (show some 82 = some f from hg)).symm
    rw [prog_82] at hA; cases hA
  | 127, hg =>
    obtain rfl : f = 310 := (Option.some.inj (show some 310 = some f from hg)).symm
    obtain rfl : fn = F_date_words_c1 := (AFn.code.inj (Option.some.inj (prog_310.symm.trans hA))).symm
    exact ⟨_, Tryz.func127, chk127⟩
  | 128, hg =>
    obtain rfl : f = 58 := (Option.some.inj (show some 58 = some f from hg)).symm
    obtain rfl : fn = F_P_strings_Builder_WriteString := (AFn.code.inj (Option.some.inj (prog_58.symm.trans hA))).symm
    exact ⟨_, Tryz.func128, chk128⟩
  | 129, hg =>
    obtain rfl : f = 59 := (Option.some.inj (show some 59 = some f from hg)).symm
    rw [prog_59] at hA; cases hA
  | 130, hg =>
    obtain rfl : f = 57 := (Option.some.inj (show some 57 = some f from hg)).symm
    obtain rfl : fn = F_P_strings_Builder_WriteByte := (AFn.code.inj (Option.some.inj (prog_57.symm.trans hA))).symm
    exact ⟨_, Tryz.func130, chk130⟩
  | 131, hg =>
    obtain rfl : f = 72 := (Option.some.inj (show some 72 = some f from hg)).symm
    obtain rfl : fn = F_strings_HasPrefix := (AFn.code.inj (Option.some.inj (prog_72.symm.trans hA))).symm
    exact ⟨_, Tryz.func131, chk131⟩
  | 132, hg =>
    obtain rfl : f = 311 := (Option.some.inj (show some 311 = some f from hg)).symm
    obtain rfl : fn = F_date_lower := (AFn.code.inj (Option.some.inj (prog_311.symm.trans hA))).symm
    exact ⟨_, Tryz.func132, chk132⟩
  | 133, hg =>
    obtain rfl : f = 133 := (Option.some.inj (show some 133 = some f from hg)).symm
    rw [prog_133] at hA; cases hA
  | 134, hg =>
    obtain rfl : f = 124 := (Option.some.inj (show some 124 = some f from hg)).symm
    obtain rfl : fn = F_addr_parts := (AFn.code.inj (Option.some.inj (prog_124.symm.trans hA))).symm
    exact ⟨_, Tryz.func134, chk134⟩
  | 135, hg =>
    obtain rfl : f = 125 := (Option.some.inj (show some 125 = some f from hg)).symm
    obtain rfl : fn = F_addr_isAtom := (AFn.code.inj (Option.some.inj (prog_125.symm.trans hA))).symm
    exact ⟨_, Tryz.func135, chk135⟩
  | 136, hg =>
    obtain rfl : f = 126 := (Option.some.inj (show some 126 = some f from hg)).symm
    obtain rfl : fn = F_addr_isLabel := (AFn.code.inj (Option.some.inj (prog_126.symm.trans hA))).symm
    exact ⟨_, Tryz.func136, chk136⟩
  | 137, hg =>
    obtain rfl : f = 127 := (Option.some.inj (show some 127 = some f from hg)).symm
    obtain rfl : fn = F_addr_isName := (AFn.code.inj (Option.some.inj (prog_127.symm.trans hA))).symm
    exact ⟨_, Tryz.func137, chk137⟩
  | 138, hg =>
    obtain rfl : f = 159 := (Option.some.inj (show some 159 = some f from hg)).symm
    obtain rfl : fn = F_fields_fold := (AFn.code.inj (Option.some.inj (prog_159.symm.trans hA))).symm
    exact ⟨_, Tryz.func138, chk138⟩
  | 139, hg =>
    obtain rfl : f = 400 := (Option.some.inj (show some 400 = some f from hg)).symm
    obtain rfl : fn = F_slices_IndexFunc_s_api_Field_api_Field := (AFn.code.inj (Option.some.inj (prog_400.symm.trans hA))).symm
    exact ⟨_, Tryz.func139, chk139⟩
  | 140, hg => exact absurd (show (none : Option Nat) = some f from hg) (by simp)
  | 141, hg => exact absurd (show (none : Option Nat) = some f from hg) (by simp)
  | 142, hg => exact absurd (show (none : Option Nat) = some f from hg) (by simp)
  | 143, hg => exact absurd (show (none : Option Nat) = some f from hg) (by simp)
  | 144, hg => exact absurd (show (none : Option Nat) = some f from hg) (by simp)
  | 145, hg => exact absurd (show (none : Option Nat) = some f from hg) (by simp)
  | 146, hg => exact absurd (show (none : Option Nat) = some f from hg) (by simp)
  | 147, hg => exact absurd (show (none : Option Nat) = some f from hg) (by simp)
  | 148, hg => exact absurd (show (none : Option Nat) = some f from hg) (by simp)
  | 149, hg => exact absurd (show (none : Option Nat) = some f from hg) (by simp)
  | 150, hg => exact absurd (show (none : Option Nat) = some f from hg) (by simp)
  | 151, hg => exact absurd (show (none : Option Nat) = some f from hg) (by simp)
  | 152, hg => exact absurd (show (none : Option Nat) = some f from hg) (by simp)
  | 153, hg => exact absurd (show (none : Option Nat) = some f from hg) (by simp)
  | 154, hg =>
    obtain rfl : f = 79 := (Option.some.inj (show some 79 = some f from hg)).symm
    obtain rfl : fn = F_internal_stringslite_HasPrefix := (AFn.code.inj (Option.some.inj (prog_79.symm.trans hA))).symm
    exact ⟨_, Tryz.func154, chk154⟩
  | 155, hg =>
    obtain rfl : f = 136 := (Option.some.inj (show some 136 = some f from hg)).symm
    obtain rfl : fn = F_internal_stringslite_HasSuffix := (AFn.code.inj (Option.some.inj (prog_136.symm.trans hA))).symm
    exact ⟨_, Tryz.func155, chk155⟩
  | 156, hg => exact absurd (show (none : Option Nat) = some f from hg) (by simp)
  | 157, hg =>
    obtain rfl : f = 315 := (Option.some.inj (show some 315 = some f from hg)).symm
    obtain rfl : fn = F_when_leap := (AFn.code.inj (Option.some.inj (prog_315.symm.trans hA))).symm
    exact ⟨_, Tryz.func157, chk157⟩
  | 158, hg => exact absurd (show (none : Option Nat) = some f from hg) (by simp)
  | 159, hg => exact absurd (show (none : Option Nat) = some f from hg) (by simp)
  | 160, hg => exact absurd (show (none : Option Nat) = some f from hg) (by simp)
  | 161, hg =>
    obtain rfl : f = 73 := (Option.some.inj (show some 73 = some f from hg)).symm
    rw [prog_73] at hA; cases hA
  | 162, hg => exact absurd (show (none : Option Nat) = some f from hg) (by simp)
  | 163, hg =>
    obtain rfl : f = 134 := (Option.some.inj (show some 134 = some f from hg)).symm
    obtain rfl : fn = F_addr_alnum := (AFn.code.inj (Option.some.inj (prog_134.symm.trans hA))).symm
    exact ⟨_, Tryz.func163, chk163⟩
  | 164, hg =>
    obtain rfl : f = 78 := (Option.some.inj (show some 78 = some f from hg)).symm
    rw [prog_78] at hA; cases hA
  | 165, hg =>
    obtain rfl : f = 169 := (Option.some.inj (show some 169 = some f from hg)).symm
    obtain rfl : fn = F_strings_LastIndexByte := (AFn.code.inj (Option.some.inj (prog_169.symm.trans hA))).symm
    exact ⟨_, Tryz.func165, chk165⟩
  | 166, hg => exact absurd (show (none : Option Nat) = some f from hg) (by simp)
  | 167, hg => exact absurd (show (none : Option Nat) = some f from hg) (by simp)
  | 168, hg => exact absurd (show (none : Option Nat) = some f from hg) (by simp)
  | 169, hg => exact absurd (show (none : Option Nat) = some f from hg) (by simp)
  | 170, hg => exact absurd (show (none : Option Nat) = some f from hg) (by simp)
  | 171, hg => exact absurd (show (none : Option Nat) = some f from hg) (by simp)
  | 172, hg => exact absurd (show (none : Option Nat) = some f from hg) (by simp)
  | 173, hg => exact absurd (show (none : Option Nat) = some f from hg) (by simp)
  | 174, hg => exact absurd (show (none : Option Nat) = some f from hg) (by simp)
  | 175, hg =>
    obtain rfl : f = 172 := (Option.some.inj (show some 172 = some f from hg)).symm
    obtain rfl : fn = F_internal_bytealg_LastIndexByteString := (AFn.code.inj (Option.some.inj (prog_172.symm.trans hA))).symm
    exact ⟨_, Tryz.func175, chk175⟩
  | n + 176, hg => exact absurd (show (none : Option Nat) = some f from hg) (by simp)
set_option maxRecDepth 100000 in
theorem prim_ok : ∀ (f' : FuncId) (f : Nat) (p : List PV → Option PV), gm f' = some f → prog f = some (.prim p) → PrimOK Tryz.prog gm f' p := by
  intro f' f p hg hA
  match f', hg with
  | 0, hg => exact absurd (show (none : Option Nat) = some f from hg) (by simp)
  | 1, hg => exact absurd (show (none : Option Nat) = some f from hg) (by simp)
  | 2, hg => exact absurd (show (none : Option Nat) = some f from hg) (by simp)
  | 3, hg => exact absurd (show (none : Option Nat) = some f from hg) (by simp)
  | 4, hg => exact absurd (show (none : Option Nat) = some f from hg) (by simp)
  | 5, hg => exact absurd (show (none : Option Nat) = some f from hg) (by simp)
  | 6, hg => exact absurd (show (none : Option Nat) = some f from hg) (by simp)
  | 7, hg => exact absurd (show (none : Option Nat) = some f from hg) (by simp)
  | 8, hg =>
    obtain rfl : f = 369 := (Option.some.inj (show some 369 = some f from hg)).symm
    rw [prog_369] at hA; cases hA
  | 9, hg =>
    obtain rfl : f = 347 := (Option.some.inj (show some 347 = some f from hg)).symm
    rw [prog_347] at hA; cases hA
  | 10, hg =>
    obtain rfl : f = 348 := (Option.some.inj (show some 348 = some f from hg)).symm
    rw [prog_348] at hA; cases hA
  | 11, hg => exact absurd (show (none : Option Nat) = some f from hg) (by simp)
  | 12, hg =>
    obtain rfl : f = 350 := (Option.some.inj (show some 350 = some f from hg)).symm
    rw [prog_350] at hA; cases hA
  | 13, hg => exact absurd (show (none : Option Nat) = some f from hg) (by simp)
  | 14, hg =>
    obtain rfl : f = 352 := (Option.some.inj (show some 352 = some f from hg)).symm
    rw [prog_352] at hA; cases hA
  | 15, hg => exact absurd (show (none : Option Nat) = some f from hg) (by simp)
  | 16, hg => exact absurd (show (none : Option Nat) = some f from hg) (by simp)
  | 17, hg => exact absurd (show (none : Option Nat) = some f from hg) (by simp)
  | 18, hg => exact absurd (show (none : Option Nat) = some f from hg) (by simp)
  | 19, hg =>
    obtain rfl : f = 358 := (Option.some.inj (show some 358 = some f from hg)).symm
    rw [prog_358] at hA; cases hA
  | 20, hg =>
    obtain rfl : f = 359 := (Option.some.inj (show some 359 = some f from hg)).symm
    rw [prog_359] at hA; cases hA
  | 21, hg =>
    obtain rfl : f = 360 := (Option.some.inj (show some 360 = some f from hg)).symm
    rw [prog_360] at hA; cases hA
  | 22, hg =>
    obtain rfl : f = 362 := (Option.some.inj (show some 362 = some f from hg)).symm
    rw [prog_362] at hA; cases hA
  | 23, hg =>
    obtain rfl : f = 150 := (Option.some.inj (show some 150 = some f from hg)).symm
    rw [prog_150] at hA; cases hA
  | 24, hg =>
    obtain rfl : f = 155 := (Option.some.inj (show some 155 = some f from hg)).symm
    rw [prog_155] at hA; cases hA
  | 25, hg => exact absurd (show (none : Option Nat) = some f from hg) (by simp)
  | 26, hg =>
    obtain rfl : f = 365 := (Option.some.inj (show some 365 = some f from hg)).symm
    rw [prog_365] at hA; cases hA
  | 27, hg => exact absurd (show (none : Option Nat) = some f from hg) (by simp)
  | 28, hg => exact absurd (show (none : Option Nat) = some f from hg) (by simp)
  | 29, hg =>
    obtain rfl : f = 370 := (Option.some.inj (show some 370 = some f from hg)).symm
    rw [prog_370] at hA; cases hA
  | 30, hg =>
    obtain rfl : f = 371 := (Option.some.inj (show some 371 = some f from hg)).symm
    rw [prog_371] at hA; cases hA
  | 31, hg =>
    obtain rfl : f = 372 := (Option.some.inj (show some 372 = some f from hg)).symm
    rw [prog_372] at hA; cases hA
  | 32, hg => exact absurd (show (none : Option Nat) = some f from hg) (by simp)
  | 33, hg => exact absurd (show (none : Option Nat) = some f from hg) (by simp)
  | 34, hg => exact absurd (show (none : Option Nat) = some f from hg) (by simp)
  | 35, hg =>
    obtain rfl : f = 377 := (Option.some.inj (show some 377 = some f from hg)).symm
    rw [prog_377] at hA; cases hA
  | 36, hg =>
    obtain rfl : f = 376 := (Option.some.inj (show some 376 = some f from hg)).symm
    rw [prog_376] at hA; cases hA
  | 37, hg =>
    obtain rfl : f = 381 := (Option.some.inj (show some 381 = some f from hg)).symm
    rw [prog_381] at hA; cases hA
  | 38, hg => exact absurd (show (none : Option Nat) = some f from hg) (by simp)
  | 39, hg =>
    obtain rfl : f = 378 := (Option.some.inj (show some 378 = some f from hg)).symm
    rw [prog_378] at hA; cases hA
  | 40, hg => exact absurd (show (none : Option Nat) = some f from hg) (by simp)
  | 41, hg =>
    obtain rfl : f = 256 := (Option.some.inj (show some 256 = some f from hg)).symm
    rw [prog_256] at hA; cases hA
  | 42, hg =>
    obtain rfl : f = 128 := (Option.some.inj (show some 128 = some f from hg)).symm
    rw [prog_128] at hA; cases hA
  | 43, hg =>
    obtain rfl : f = 262 := (Option.some.inj (show some 262 = some f from hg)).symm
    rw [prog_262] at hA; cases hA
  | 44, hg =>
    obtain rfl : f = 380 := (Option.some.inj (show some 380 = some f from hg)).symm
    rw [prog_380] at hA; cases hA
  | 45, hg =>
    obtain rfl : f = 382 := (Option.some.inj (show some 382 = some f from hg)).symm
    rw [prog_382] at hA; cases hA
  | 46, hg =>
    obtain rfl : f = 383 := (Option.some.inj (show some 383 = some f from hg)).symm
    rw [prog_383] at hA; cases hA
  | 47, hg =>
    obtain rfl : f = 384 := (Option.some.inj (show some 384 = some f from hg)).symm
    rw [prog_384] at hA; cases hA
  | 48, hg =>
    obtain rfl : f = 386 := (Option.some.inj (show some 386 = some f from hg)).symm
    rw [prog_386] at hA; cases hA
  | 49, hg =>
    obtain rfl : f = 385 := (Option.some.inj (show some 385 = some f from hg)).symm
    rw [prog_385] at hA; cases hA
  | 50, hg =>
    obtain rfl : f = 164 := (Option.some.inj (show some 164 = some f from hg)).symm
    rw [prog_164] at hA; cases hA
  | 51, hg =>
    obtain rfl : f = 165 := (Option.some.inj (show some 165 = some f from hg)).symm
    rw [prog_165] at hA; cases hA
  | 52, hg =>
    obtain rfl : f = 166 := (Option.some.inj (show some 166 = some f from hg)).symm
    rw [prog_166] at hA; cases hA
  | 53, hg =>
    obtain rfl : f = 167 := (Option.some.inj (show some 167 = some f from hg)).symm
    rw [prog_167] at hA; cases hA
  | 54, hg => exact absurd (show (none : Option Nat) = some f from hg) (by simp)
  | 55, hg => exact absurd (show (none : Option Nat) = some f from hg) (by simp)
  | 56, hg => exact absurd (show (none : Option Nat) = some f from hg) (by simp)
  | 57, hg => exact absurd (show (none : Option Nat) = some f from hg) (by simp)
  | 58, hg => exact absurd (show (none : Option Nat) = some f from hg) (by simp)
  | 59, hg => exact absurd (show (none : Option Nat) = some f from hg) (by simp)
  | 60, hg => exact absurd (show (none : Option Nat) = some f from hg) (by simp)
  | 61, hg => exact absurd (show (none : Option Nat) = some f from hg) (by simp)
  | 62, hg => exact absurd (show (none : Option Nat) = some f from hg) (by simp)
  | 63, hg => exact absurd (show (none : Option Nat) = some f from hg) (by simp)
  | 64, hg => exact absurd (show (none : Option Nat) = some f from hg) (by simp)
  | 65, hg => exact absurd (show (none : Option Nat) = some f from hg) (by simp)
  | 66, hg => exact absurd (show (none : Option Nat) = some f from hg) (by simp)
  | 67, hg =>
    obtain rfl : f = 392 := (Option.some.inj (show some 392 = some f from hg)).symm
    rw [prog_392] at hA; cases hA
  | 68, hg =>
    obtain rfl : f = 305 := (Option.some.inj (show some 305 = some f from hg)).symm
    rw [prog_305] at hA; cases hA
  | 69, hg =>
    obtain rfl : f = 393 := (Option.some.inj (show some 393 = some f from hg)).symm
    rw [prog_393] at hA; cases hA
  | 70, hg =>
    obtain rfl : f = 115 := (Option.some.inj (show some 115 = some f from hg)).symm
    rw [prog_115] at hA; cases hA
  | 71, hg =>
    obtain rfl : f = 113 := (Option.some.inj (show some 113 = some f from hg)).symm
    rw [prog_113] at hA; cases hA
  | 72, hg => exact absurd (show (none : Option Nat) = some f from hg) (by simp)
  | 73, hg => exact absurd (show (none : Option Nat) = some f from hg) (by simp)
  | 74, hg =>
    obtain rfl : f = 199 := (Option.some.inj (show some 199 = some f from hg)).symm
    rw [prog_199] at hA; cases hA
  | 75, hg =>
    obtain rfl : f = 274 := (Option.some.inj (show some 274 = some f from hg)).symm
    rw [prog_274] at hA; cases hA
  | 76, hg =>
    obtain rfl : f = 275 := (Option.some.inj (show some 275 = some f from hg)).symm
    rw [prog_275] at hA; cases hA
  | 77, hg =>
    obtain rfl : f = 258 := (Option.some.inj (show some 258 = some f from hg)).symm
    rw [prog_258] at hA; cases hA
  | 78, hg =>
    obtain rfl : f = 276 := (Option.some.inj (show some 276 = some f from hg)).symm
    rw [prog_276] at hA; cases hA
  | 79, hg =>
    obtain rfl : f = 277 := (Option.some.inj (show some 277 = some f from hg)).symm
    rw [prog_277] at hA; cases hA
  | 80, hg =>
    obtain rfl : f = 278 := (Option.some.inj (show some 278 = some f from hg)).symm
    rw [prog_278] at hA; cases hA
  | 81, hg =>
    obtain rfl : f = 135 := (Option.some.inj (show some 135 = some f from hg)).symm
    rw [prog_135] at hA; cases hA
  | 82, hg =>
    obtain rfl : f = 285 := (Option.some.inj (show some 285 = some f from hg)).symm
    rw [prog_285] at hA; cases hA
  | 83, hg =>
    obtain rfl : f = 284 := (Option.some.inj (show some 284 = some f from hg)).symm
    rw [prog_284] at hA; cases hA
  | 84, hg =>
    obtain rfl : f = 286 := (Option.some.inj (show some 286 = some f from hg)).symm
    rw [prog_286] at hA; cases hA
  | 85, hg =>
    obtain rfl : f = 287 := (Option.some.inj (show some 287 = some f from hg)).symm
    rw [prog_287] at hA; cases hA
  | 86, hg =>
    obtain rfl : f = 288 := (Option.some.inj (show some 288 = some f from hg)).symm
    rw [prog_288] at hA; cases hA
  | 87, hg =>
    obtain rfl : f = 289 := (Option.some.inj (show some 289 = some f from hg)).symm
    rw [prog_289] at hA; cases hA
  | 88, hg =>
    obtain rfl : f = 290 := (Option.some.inj (show some 290 = some f from hg)).symm
    rw [prog_290] at hA; cases hA
  | 89, hg =>
    obtain rfl : f = 291 := (Option.some.inj (show some 291 = some f from hg)).symm
    rw [prog_291] at hA; cases hA
  | 90, hg =>
    obtain rfl : f = 292 := (Option.some.inj (show some 292 = some f from hg)).symm
    rw [prog_292] at hA; cases hA
  | 91, hg =>
    obtain rfl : f = 395 := (Option.some.inj (show some 395 = some f from hg)).symm
    rw [prog_395] at hA; cases hA
  | 92, hg =>
    obtain rfl : f = 111 := (Option.some.inj (show some 111 = some f from hg)).symm
    rw [prog_111] at hA; cases hA
  | 93, hg =>
    obtain rfl : f = 145 := (Option.some.inj (show some 145 = some f from hg)).symm
    rw [prog_145] at hA; cases hA
  | 94, hg =>
    obtain rfl : f = 398 := (Option.some.inj (show some 398 = some f from hg)).symm
    rw [prog_398] at hA; cases hA
  | 95, hg =>
    obtain rfl : f = 396 := (Option.some.inj (show some 396 = some f from hg)).symm
    rw [prog_396] at hA; cases hA
  | 96, hg =>
    obtain rfl : f = 397 := (Option.some.inj (show some 397 = some f from hg)).symm
    rw [prog_397] at hA; cases hA
  | 97, hg =>
    obtain rfl : f = 401 := (Option.some.inj (show some 401 = some f from hg)).symm
    rw [prog_401] at hA; cases hA
  | 98, hg =>
    obtain rfl : f = 171 := (Option.some.inj (show some 171 = some f from hg)).symm
    rw [prog_171] at hA; cases hA
  | 99, hg =>
    obtain rfl : f = 32 := (Option.some.inj (show some 32 = some f from hg)).symm
    obtain rfl : p = pBytesIndex := (AFn.prim.inj (Option.some.inj (prog_32.symm.trans hA))).symm
    exact primIndex (g := gm) (ρ := Tryz.laysM185_ren) { Tryz.laysM185 with } (fun κ h => h) Tryz.func99 (by kernel_rfl) (by decide)
  | 100, hg =>
    obtain rfl : f = 168 := (Option.some.inj (show some 168 = some f from hg)).symm
    rw [prog_168] at hA; cases hA
  | 101, hg =>
    obtain rfl : f = 158 := (Option.some.inj (show some 158 = some f from hg)).symm
    rw [prog_158] at hA; cases hA
  | 102, hg =>
    obtain rfl : f = 157 := (Option.some.inj (show some 157 = some f from hg)).symm
    rw [prog_157] at hA; cases hA
  | 103, hg => exact absurd (show (none : Option Nat) = some f from hg) (by simp)
  | 104, hg => exact absurd (show (none : Option Nat) = some f from hg) (by simp)
  | 105, hg => exact absurd (show (none : Option Nat) = some f from hg) (by simp)
  | 106, hg => exact absurd (show (none : Option Nat) = some f from hg) (by simp)
  | 107, hg => exact absurd (show (none : Option Nat) = some f from hg) (by simp)
  | 108, hg => exact absurd (show (none : Option Nat) = some f from hg) (by simp)
  | 109, hg => exact absurd (show (none : Option Nat) = some f from hg) (by simp)
  | 110, hg => exact absurd (show (none : Option Nat) = some f from hg) (by simp)
  | 111, hg => exact absurd (show (none : Option Nat) = some f from hg) (by simp)
  | 112, hg => exact absurd (show (none : Option Nat) = some f from hg) (by simp)
  | 113, hg => exact absurd (show (none : Option Nat) = some f from hg) (by simp)
  | 114, hg => exact absurd (show (none : Option Nat) = some f from hg) (by simp)
  | 115, hg => exact absurd (show (none : Option Nat) = some f from hg) (by simp)
  | 116, hg => exact absurd (show (none : Option Nat) = some f from hg) (by simp)
  | 117, hg => exact absurd (show (none : Option Nat) = some f from hg) (by simp)
  | 118, hg => exact absurd (show (none : Option Nat) = some f from hg) (by simp)
  | 119, hg => exact absurd (show (none : Option Nat) = some f from hg) (by simp)
  | 120, hg => exact absurd (show (none : Option Nat) = some f from hg) (by simp)
  | 121, hg =>
    obtain rfl : f = 314 := (Option.some.inj (show some 314 = some f from hg)).symm
    rw [prog_314] at hA; cases hA
  | 122, hg =>
    obtain rfl : f = 399 := (Option.some.inj (show some 399 = some f from hg)).symm
    rw [prog_399] at hA; cases hA
  | 123, hg => exact absurd (show (none : Option Nat) = some f from hg) (by simp)
  | 124, hg =>
    obtain rfl : f = 306 := (Option.some.inj (show some 306 = some f from hg)).symm
    rw [prog_306] at hA; cases hA
  | 125, hg =>
    obtain rfl : f = 307 := (Option.some.inj (show some 307 = some f from hg)).symm
    rw [prog_307] at hA; cases hA
  | 126, hg =>
    obtain rfl : f = 82 := (Option.some.inj (show some 82 = some f from hg)).symm
    obtain rfl : p = pStrIndex := (AFn.prim.inj (Option.some.inj (prog_82.symm.trans hA))).symm
    exact primStrIndex (g := gm) (ρ := Tryz.laysM219_ren) { Tryz.laysM219 with } (fun κ h => h) Tryz.func126 (by kernel_rfl) (by decide)
  | 127, hg =>
    obtain rfl : f = 310 := (Option.some.inj (show some 310 = some f from hg)).symm
    rw [prog_310] at hA; cases hA
  | 128, hg =>
    obtain rfl : f = 58 := (Option.some.inj (show some 58 = some f from hg)).symm
    rw [prog_58] at hA; cases hA
  | 129, hg =>
    obtain rfl : f = 59 := (Option.some.inj (show some 59 = some f from hg)).symm
    rw [prog_59] at hA; cases hA
  | 130, hg =>
    obtain rfl : f = 57 := (Option.some.inj (show some 57 = some f from hg)).symm
    rw [prog_57] at hA; cases hA
  | 131, hg =>
    obtain rfl : f = 72 := (Option.some.inj (show some 72 = some f from hg)).symm
    rw [prog_72] at hA; cases hA
  | 132, hg =>
    obtain rfl : f = 311 := (Option.some.inj (show some 311 = some f from hg)).symm
    rw [prog_311] at hA; cases hA
  | 133, hg =>
    obtain rfl : f = 133 := (Option.some.inj (show some 133 = some f from hg)).symm
    obtain rfl : p = pStrSplit := (AFn.prim.inj (Option.some.inj (prog_133.symm.trans hA))).symm
    exact primStrSplit (g := gm) { Tryz.laysM146 with } Tryz.laysM146.i9 (fun κ h => h) Tryz.func133 (by kernel_rfl) (by decide)
  | 134, hg =>
    obtain rfl : f = 124 := (Option.some.inj (show some 124 = some f from hg)).symm
    rw [prog_124] at hA; cases hA
  | 135, hg =>
    obtain rfl : f = 125 := (Option.some.inj (show some 125 = some f from hg)).symm
    rw [prog_125] at hA; cases hA
  | 136, hg =>
    obtain rfl : f = 126 := (Option.some.inj (show some 126 = some f from hg)).symm
    rw [prog_126] at hA; cases hA
  | 137, hg =>
    obtain rfl : f = 127 := (Option.some.inj (show some 127 = some f from hg)).symm
    rw [prog_127] at hA; cases hA
  | 138, hg =>
    obtain rfl : f = 159 := (Option.some.inj (show some 159 = some f from hg)).symm
    rw [prog_159] at hA; cases hA
  | 139, hg =>
    obtain rfl : f = 400 := (Option.some.inj (show some 400 = some f from hg)).symm
    rw [prog_400] at hA; cases hA
  | 140, hg => exact absurd (show (none : Option Nat) = some f from hg) (by simp)
  | 141, hg => exact absurd (show (none : Option Nat) = some f from hg) (by simp)
  | 142, hg => exact absurd (show (none : Option Nat) = some f from hg) (by simp)
  | 143, hg => exact absurd (show (none : Option Nat) = some f from hg) (by simp)
  | 144, hg => exact absurd (show (none : Option Nat) = some f from hg) (by simp)
  | 145, hg => exact absurd (show (none : Option Nat) = some f from hg) (by simp)
  | 146, hg => exact absurd (show (none : Option Nat) = some f from hg) (by simp)
  | 147, hg => exact absurd (show (none : Option Nat) = some f from hg) (by simp)
  | 148, hg => exact absurd (show (none : Option Nat) = some f from hg) (by simp)
  | 149, hg => exact absurd (show (none : Option Nat) = some f from hg) (by simp)
  | 150, hg => exact absurd (show (none : Option Nat) = some f from hg) (by simp)
  | 151, hg => exact absurd (show (none : Option Nat) = some f from hg) (by simp)
  | 152, hg => exact absurd (show (none : Option Nat) = some f from hg) (by simp)
  | 153, hg => exact absurd (show (none : Option Nat) = some f from hg) (by simp)
  | 154, hg =>
    obtain rfl : f = 79 := (Option.some.inj (show some 79 = some f from hg)).symm
    rw [prog_79] at hA; cases hA
  | 155, hg =>
    obtain rfl : f = 136 := (Option.some.inj (show some 136 = some f from hg)).symm
    rw [prog_136] at hA; cases hA
  | 156, hg => exact absurd (show (none : Option Nat) = some f from hg) (by simp)
  | 157, hg =>
    obtain rfl : f = 315 := (Option.some.inj (show some 315 = some f from hg)).symm
    rw [prog_315] at hA; cases hA
  | 158, hg => exact absurd (show (none : Option Nat) = some f from hg) (by simp)
  | 159, hg => exact absurd (show (none : Option Nat) = some f from hg) (by simp)
  | 160, hg => exact absurd (show (none : Option Nat) = some f from hg) (by simp)
  | 161, hg =>
    obtain rfl : f = 73 := (Option.some.inj (show some 73 = some f from hg)).symm
    rw [prog_73] at hA; cases hA
  | 162, hg => exact absurd (show (none : Option Nat) = some f from hg) (by simp)
  | 163, hg =>
    obtain rfl : f = 134 := (Option.some.inj (show some 134 = some f from hg)).symm
    rw [prog_134] at hA; cases hA
  | 164, hg =>
    obtain rfl : f = 78 := (Option.some.inj (show some 78 = some f from hg)).symm
    obtain rfl : p = pStrIndexByte := (AFn.prim.inj (Option.some.inj (prog_78.symm.trans hA))).symm
    exact primStrIndexByte (g := gm) Tryz.lays137 Tryz.func164 (by kernel_rfl) (by decide)
  | 165, hg =>
    obtain rfl : f = 169 := (Option.some.inj (show some 169 = some f from hg)).symm
    rw [prog_169] at hA; cases hA
  | 166, hg => exact absurd (show (none : Option Nat) = some f from hg) (by simp)
  | 167, hg => exact absurd (show (none : Option Nat) = some f from hg) (by simp)
  | 168, hg => exact absurd (show (none : Option Nat) = some f from hg) (by simp)
  | 169, hg => exact absurd (show (none : Option Nat) = some f from hg) (by simp)
  | 170, hg => exact absurd (show (none : Option Nat) = some f from hg) (by simp)
  | 171, hg => exact absurd (show (none : Option Nat) = some f from hg) (by simp)
  | 172, hg => exact absurd (show (none : Option Nat) = some f from hg) (by simp)
  | 173, hg => exact absurd (show (none : Option Nat) = some f from hg) (by simp)
  | 174, hg => exact absurd (show (none : Option Nat) = some f from hg) (by simp)
  | 175, hg =>
    obtain rfl : f = 172 := (Option.some.inj (show some 172 = some f from hg)).symm
    rw [prog_172] at hA; cases hA
  | n + 176, hg => exact absurd (show (none : Option Nat) = some f from hg) (by simp)
set_option maxRecDepth 100000 in
theorem primS_ok : ∀ (f' : FuncId) (f : Nat) (p : List PV → List (List PV) → Option (PV × Upd)), gm f' = some f → prog f = some (.primS p) → PrimSOK Tryz.prog gm f' p := by
  intro f' f p hg hA
  match f', hg with
  | 0, hg => exact absurd (show (none : Option Nat) = some f from hg) (by simp)
  | 1, hg => exact absurd (show (none : Option Nat) = some f from hg) (by simp)
  | 2, hg => exact absurd (show (none : Option Nat) = some f from hg) (by simp)
  | 3, hg => exact absurd (show (none : Option Nat) = some f from hg) (by simp)
  | 4, hg => exact absurd (show (none : Option Nat) = some f from hg) (by simp)
  | 5, hg => exact absurd (show (none : Option Nat) = some f from hg) (by simp)
  | 6, hg => exact absurd (show (none : Option Nat) = some f from hg) (by simp)
  | 7, hg => exact absurd (show (none : Option Nat) = some f from hg) (by simp)
  | 8, hg =>
    obtain rfl : f = 369 := (Option.some.inj (show some 369 = some f from hg)).symm
    rw [prog_369] at hA; cases hA
  | 9, hg =>
    obtain rfl : f = 347 := (Option.some.inj (show some 347 = some f from hg)).symm
    rw [prog_347] at hA; cases hA
  | 10, hg =>
    obtain rfl : f = 348 := (Option.some.inj (show some 348 = some f from hg)).symm
    rw [prog_348] at hA; cases hA
  | 11, hg => exact absurd (show (none : Option Nat) = some f from hg) (by simp)
  | 12, hg =>
    obtain rfl : f = 350 := (Option.some.inj (show some 350 = some f from hg)).symm
    rw [prog_350] at hA; cases hA
  | 13, hg => exact absurd (show (none : Option Nat) = some f from hg) (by simp)
  | 14, hg =>
    obtain rfl : f = 352 := (Option.some.inj (show some 352 = some f from hg)).symm
    rw [prog_352] at hA; cases hA
  | 15, hg => exact absurd (show (none : Option Nat) = some f from hg) (by simp)
  | 16, hg => exact absurd (show (none : Option Nat) = some f from hg) (by simp)
  | 17, hg => exact absurd (show (none : Option Nat) = some f from hg) (by simp)
  | 18, hg => exact absurd (show (none : Option Nat) = some f from hg) (by simp)
  | 19, hg =>
    obtain rfl : f = 358 := (Option.some.inj (show some 358 = some f from hg)).symm
    rw [prog_358] at hA; cases hA
  | 20, hg =>
    obtain rfl : f = 359 := (Option.some.inj (show some 359 = some f from hg)).symm
    rw [prog_359] at hA; cases hA
  | 21, hg =>
    obtain rfl : f = 360 := (Option.some.inj (show some 360 = some f from hg)).symm
    rw [prog_360] at hA; cases hA
  | 22, hg =>
    obtain rfl : f = 362 := (Option.some.inj (show some 362 = some f from hg)).symm
    rw [prog_362] at hA; cases hA
  | 23, hg =>
    obtain rfl : f = 150 := (Option.some.inj (show some 150 = some f from hg)).symm
    rw [prog_150] at hA; cases hA
  | 24, hg =>
    obtain rfl : f = 155 := (Option.some.inj (show some 155 = some f from hg)).symm
    rw [prog_155] at hA; cases hA
  | 25, hg => exact absurd (show (none : Option Nat) = some f from hg) (by simp)
  | 26, hg =>
    obtain rfl : f = 365 := (Option.some.inj (show some 365 = some f from hg)).symm
    rw [prog_365] at hA; cases hA
  | 27, hg => exact absurd (show (none : Option Nat) = some f from hg) (by simp)
  | 28, hg => exact absurd (show (none : Option Nat) = some f from hg) (by simp)
  | 29, hg =>
    obtain rfl : f = 370 := (Option.some.inj (show some 370 = some f from hg)).symm
    rw [prog_370] at hA; cases hA
  | 30, hg =>
    obtain rfl : f = 371 := (Option.some.inj (show some 371 = some f from hg)).symm
    rw [prog_371] at hA; cases hA
  | 31, hg =>
    obtain rfl : f = 372 := (Option.some.inj (show some 372 = some f from hg)).symm
    rw [prog_372] at hA; cases hA
  | 32, hg => exact absurd (show (none : Option Nat) = some f from hg) (by simp)
  | 33, hg => exact absurd (show (none : Option Nat) = some f from hg) (by simp)
  | 34, hg => exact absurd (show (none : Option Nat) = some f from hg) (by simp)
  | 35, hg =>
    obtain rfl : f = 377 := (Option.some.inj (show some 377 = some f from hg)).symm
    rw [prog_377] at hA; cases hA
  | 36, hg =>
    obtain rfl : f = 376 := (Option.some.inj (show some 376 = some f from hg)).symm
    rw [prog_376] at hA; cases hA
  | 37, hg =>
    obtain rfl : f = 381 := (Option.some.inj (show some 381 = some f from hg)).symm
    rw [prog_381] at hA; cases hA
  | 38, hg => exact absurd (show (none : Option Nat) = some f from hg) (by simp)
  | 39, hg =>
    obtain rfl : f = 378 := (Option.some.inj (show some 378 = some f from hg)).symm
    rw [prog_378] at hA; cases hA
  | 40, hg => exact absurd (show (none : Option Nat) = some f from hg) (by simp)
  | 41, hg =>
    obtain rfl : f = 256 := (Option.some.inj (show some 256 = some f from hg)).symm
    rw [prog_256] at hA; cases hA
  | 42, hg =>
    obtain rfl : f = 128 := (Option.some.inj (show some 128 = some f from hg)).symm
    rw [prog_128] at hA; cases hA
  | 43, hg =>
    obtain rfl : f = 262 := (Option.some.inj (show some 262 = some f from hg)).symm
    rw [prog_262] at hA; cases hA
  | 44, hg =>
    obtain rfl : f = 380 := (Option.some.inj (show some 380 = some f from hg)).symm
    rw [prog_380] at hA; cases hA
  | 45, hg =>
    obtain rfl : f = 382 := (Option.some.inj (show some 382 = some f from hg)).symm
    rw [prog_382] at hA; cases hA
  | 46, hg =>
    obtain rfl : f = 383 := (Option.some.inj (show some 383 = some f from hg)).symm
    rw [prog_383] at hA; cases hA
  | 47, hg =>
    obtain rfl : f = 384 := (Option.some.inj (show some 384 = some f from hg)).symm
    rw [prog_384] at hA; cases hA
  | 48, hg =>
    obtain rfl : f = 386 := (Option.some.inj (show some 386 = some f from hg)).symm
    rw [prog_386] at hA; cases hA
  | 49, hg =>
    obtain rfl : f = 385 := (Option.some.inj (show some 385 = some f from hg)).symm
    rw [prog_385] at hA; cases hA
  | 50, hg =>
    obtain rfl : f = 164 := (Option.some.inj (show some 164 = some f from hg)).symm
    rw [prog_164] at hA; cases hA
  | 51, hg =>
    obtain rfl : f = 165 := (Option.some.inj (show some 165 = some f from hg)).symm
    rw [prog_165] at hA; cases hA
  | 52, hg =>
    obtain rfl : f = 166 := (Option.some.inj (show some 166 = some f from hg)).symm
    rw [prog_166] at hA; cases hA
  | 53, hg =>
    obtain rfl : f = 167 := (Option.some.inj (show some 167 = some f from hg)).symm
    rw [prog_167] at hA; cases hA
  | 54, hg => exact absurd (show (none : Option Nat) = some f from hg) (by simp)
  | 55, hg => exact absurd (show (none : Option Nat) = some f from hg) (by simp)
  | 56, hg => exact absurd (show (none : Option Nat) = some f from hg) (by simp)
  | 57, hg => exact absurd (show (none : Option Nat) = some f from hg) (by simp)
  | 58, hg => exact absurd (show (none : Option Nat) = some f from hg) (by simp)
  | 59, hg => exact absurd (show (none : Option Nat) = some f from hg) (by simp)
  | 60, hg => exact absurd (show (none : Option Nat) = some f from hg) (by simp)
  | 61, hg => exact absurd (show (none : Option Nat) = some f from hg) (by simp)
  | 62, hg => exact absurd (show (none : Option Nat) = some f from hg) (by simp)
  | 63, hg => exact absurd (show (none : Option Nat) = some f from hg) (by simp)
  | 64, hg => exact absurd (show (none : Option Nat) = some f from hg) (by simp)
  | 65, hg => exact absurd (show (none : Option Nat) = some f from hg) (by simp)
  | 66, hg => exact absurd (show (none : Option Nat) = some f from hg) (by simp)
  | 67, hg =>
    obtain rfl : f = 392 := (Option.some.inj (show some 392 = some f from hg)).symm
    rw [prog_392] at hA; cases hA
  | 68, hg =>
    obtain rfl : f = 305 := (Option.some.inj (show some 305 = some f from hg)).symm
    rw [prog_305] at hA; cases hA
  | 69, hg =>
    obtain rfl : f = 393 := (Option.some.inj (show some 393 = some f from hg)).symm
    rw [prog_393] at hA; cases hA
  | 70, hg =>
    obtain rfl : f = 115 := (Option.some.inj (show some 115 = some f from hg)).symm
    rw [prog_115] at hA; cases hA
  | 71, hg =>
    obtain rfl : f = 113 := (Option.some.inj (show some 113 = some f from hg)).symm
    rw [prog_113] at hA; cases hA
  | 72, hg => exact absurd (show (none : Option Nat) = some f from hg) (by simp)
  | 73, hg => exact absurd (show (none : Option Nat) = some f from hg) (by simp)
  | 74, hg =>
    obtain rfl : f = 199 := (Option.some.inj (show some 199 = some f from hg)).symm
    rw [prog_199] at hA; cases hA
  | 75, hg =>
    obtain rfl : f = 274 := (Option.some.inj (show some 274 = some f from hg)).symm
    rw [prog_274] at hA; cases hA
  | 76, hg =>
    obtain rfl : f = 275 := (Option.some.inj (show some 275 = some f from hg)).symm
    rw [prog_275] at hA; cases hA
  | 77, hg =>
    obtain rfl : f = 258 := (Option.some.inj (show some 258 = some f from hg)).symm
    rw [prog_258] at hA; cases hA
  | 78, hg =>
    obtain rfl : f = 276 := (Option.some.inj (show some 276 = some f from hg)).symm
    rw [prog_276] at hA; cases hA
  | 79, hg =>
    obtain rfl : f = 277 := (Option.some.inj (show some 277 = some f from hg)).symm
    rw [prog_277] at hA; cases hA
  | 80, hg =>
    obtain rfl : f = 278 := (Option.some.inj (show some 278 = some f from hg)).symm
    rw [prog_278] at hA; cases hA
  | 81, hg =>
    obtain rfl : f = 135 := (Option.some.inj (show some 135 = some f from hg)).symm
    rw [prog_135] at hA; cases hA
  | 82, hg =>
    obtain rfl : f = 285 := (Option.some.inj (show some 285 = some f from hg)).symm
    rw [prog_285] at hA; cases hA
  | 83, hg =>
    obtain rfl : f = 284 := (Option.some.inj (show some 284 = some f from hg)).symm
    rw [prog_284] at hA; cases hA
  | 84, hg =>
    obtain rfl : f = 286 := (Option.some.inj (show some 286 = some f from hg)).symm
    rw [prog_286] at hA; cases hA
  | 85, hg =>
    obtain rfl : f = 287 := (Option.some.inj (show some 287 = some f from hg)).symm
    rw [prog_287] at hA; cases hA
  | 86, hg =>
    obtain rfl : f = 288 := (Option.some.inj (show some 288 = some f from hg)).symm
    rw [prog_288] at hA; cases hA
  | 87, hg =>
    obtain rfl : f = 289 := (Option.some.inj (show some 289 = some f from hg)).symm
    rw [prog_289] at hA; cases hA
  | 88, hg =>
    obtain rfl : f = 290 := (Option.some.inj (show some 290 = some f from hg)).symm
    rw [prog_290] at hA; cases hA
  | 89, hg =>
    obtain rfl : f = 291 := (Option.some.inj (show some 291 = some f from hg)).symm
    rw [prog_291] at hA; cases hA
  | 90, hg =>
    obtain rfl : f = 292 := (Option.some.inj (show some 292 = some f from hg)).symm
    rw [prog_292] at hA; cases hA
  | 91, hg =>
    obtain rfl : f = 395 := (Option.some.inj (show some 395 = some f from hg)).symm
    rw [prog_395] at hA; cases hA
  | 92, hg =>
    obtain rfl : f = 111 := (Option.some.inj (show some 111 = some f from hg)).symm
    rw [prog_111] at hA; cases hA
  | 93, hg =>
    obtain rfl : f = 145 := (Option.some.inj (show some 145 = some f from hg)).symm
    rw [prog_145] at hA; cases hA
  | 94, hg =>
    obtain rfl : f = 398 := (Option.some.inj (show some 398 = some f from hg)).symm
    rw [prog_398] at hA; cases hA
  | 95, hg =>
    obtain rfl : f = 396 := (Option.some.inj (show some 396 = some f from hg)).symm
    obtain rfl : p = pClone2 := (AFn.primS.inj (Option.some.inj (prog_396.symm.trans hA))).symm
    exact primClone (g := gm) (ρ := Tryz.laysCL_ren) (by_ := 32) Tryz.laysCL (by kernel_rfl) (by decide) (by decide) Tryz.func95 (by kernel_rfl) (by decide)
  | 96, hg =>
    obtain rfl : f = 397 := (Option.some.inj (show some 397 = some f from hg)).symm
    rw [prog_397] at hA; cases hA
  | 97, hg =>
    obtain rfl : f = 401 := (Option.some.inj (show some 401 = some f from hg)).symm
    rw [prog_401] at hA; cases hA
  | 98, hg =>
    obtain rfl : f = 171 := (Option.some.inj (show some 171 = some f from hg)).symm
    rw [prog_171] at hA; cases hA
  | 99, hg =>
    obtain rfl : f = 32 := (Option.some.inj (show some 32 = some f from hg)).symm
    rw [prog_32] at hA; cases hA
  | 100, hg =>
    obtain rfl : f = 168 := (Option.some.inj (show some 168 = some f from hg)).symm
    rw [prog_168] at hA; cases hA
  | 101, hg =>
    obtain rfl : f = 158 := (Option.some.inj (show some 158 = some f from hg)).symm
    rw [prog_158] at hA; cases hA
  | 102, hg =>
    obtain rfl : f = 157 := (Option.some.inj (show some 157 = some f from hg)).symm
    rw [prog_157] at hA; cases hA
  | 103, hg => exact absurd (show (none : Option Nat) = some f from hg) (by simp)
  | 104, hg => exact absurd (show (none : Option Nat) = some f from hg) (by simp)
  | 105, hg => exact absurd (show (none : Option Nat) = some f from hg) (by simp)
  | 106, hg => exact absurd (show (none : Option Nat) = some f from hg) (by simp)
  | 107, hg => exact absurd (show (none : Option Nat) = some f from hg) (by simp)
  | 108, hg => exact absurd (show (none : Option Nat) = some f from hg) (by simp)
  | 109, hg => exact absurd (show (none : Option Nat) = some f from hg) (by simp)
  | 110, hg => exact absurd (show (none : Option Nat) = some f from hg) (by simp)
  | 111, hg => exact absurd (show (none : Option Nat) = some f from hg) (by simp)
  | 112, hg => exact absurd (show (none : Option Nat) = some f from hg) (by simp)
  | 113, hg => exact absurd (show (none : Option Nat) = some f from hg) (by simp)
  | 114, hg => exact absurd (show (none : Option Nat) = some f from hg) (by simp)
  | 115, hg => exact absurd (show (none : Option Nat) = some f from hg) (by simp)
  | 116, hg => exact absurd (show (none : Option Nat) = some f from hg) (by simp)
  | 117, hg => exact absurd (show (none : Option Nat) = some f from hg) (by simp)
  | 118, hg => exact absurd (show (none : Option Nat) = some f from hg) (by simp)
  | 119, hg => exact absurd (show (none : Option Nat) = some f from hg) (by simp)
  | 120, hg => exact absurd (show (none : Option Nat) = some f from hg) (by simp)
  | 121, hg =>
    obtain rfl : f = 314 := (Option.some.inj (show some 314 = some f from hg)).symm
    rw [prog_314] at hA; cases hA
  | 122, hg =>
    obtain rfl : f = 399 := (Option.some.inj (show some 399 = some f from hg)).symm
    rw [prog_399] at hA; cases hA
  | 123, hg => exact absurd (show (none : Option Nat) = some f from hg) (by simp)
  | 124, hg =>
    obtain rfl : f = 306 := (Option.some.inj (show some 306 = some f from hg)).symm
    rw [prog_306] at hA; cases hA
  | 125, hg =>
    obtain rfl : f = 307 := (Option.some.inj (show some 307 = some f from hg)).symm
    rw [prog_307] at hA; cases hA
  | 126, hg =>
    obtain rfl : f = 82 := (Option.some.inj (show some 82 = some f from hg)).symm
    rw [prog_82] at hA; cases hA
  | 127, hg =>
    obtain rfl : f = 310 := (Option.some.inj (show some 310 = some f from hg)).symm
    rw [prog_310] at hA; cases hA
  | 128, hg =>
    obtain rfl : f = 58 := (Option.some.inj (show some 58 = some f from hg)).symm
    rw [prog_58] at hA; cases hA
  | 129, hg =>
    obtain rfl : f = 59 := (Option.some.inj (show some 59 = some f from hg)).symm
    obtain rfl : p = pBuilderString := (AFn.primS.inj (Option.some.inj (prog_59.symm.trans hA))).symm
    exact primBuilderString (g := gm) Tryz.lays169 Tryz.Builder_Extra_169 rfl Tryz.func129 (by kernel_rfl) (by decide)
  | 130, hg =>
    obtain rfl : f = 57 := (Option.some.inj (show some 57 = some f from hg)).symm
    rw [prog_57] at hA; cases hA
  | 131, hg =>
    obtain rfl : f = 72 := (Option.some.inj (show some 72 = some f from hg)).symm
    rw [prog_72] at hA; cases hA
  | 132, hg =>
    obtain rfl : f = 311 := (Option.some.inj (show some 311 = some f from hg)).symm
    rw [prog_311] at hA; cases hA
  | 133, hg =>
    obtain rfl : f = 133 := (Option.some.inj (show some 133 = some f from hg)).symm
    rw [prog_133] at hA; cases hA
  | 134, hg =>
    obtain rfl : f = 124 := (Option.some.inj (show some 124 = some f from hg)).symm
    rw [prog_124] at hA; cases hA
  | 135, hg =>
    obtain rfl : f = 125 := (Option.some.inj (show some 125 = some f from hg)).symm
    rw [prog_125] at hA; cases hA
  | 136, hg =>
    obtain rfl : f = 126 := (Option.some.inj (show some 126 = some f from hg)).symm
    rw [prog_126] at hA; cases hA
  | 137, hg =>
    obtain rfl : f = 127 := (Option.some.inj (show some 127 = some f from hg)).symm
    rw [prog_127] at hA; cases hA
  | 138, hg =>
    obtain rfl : f = 159 := (Option.some.inj (show some 159 = some f from hg)).symm
    rw [prog_159] at hA; cases hA
  | 139, hg =>
    obtain rfl : f = 400 := (Option.some.inj (show some 400 = some f from hg)).symm
    rw [prog_400] at hA; cases hA
  | 140, hg => exact absurd (show (none : Option Nat) = some f from hg) (by simp)
  | 141, hg => exact absurd (show (none : Option Nat) = some f from hg) (by simp)
  | 142, hg => exact absurd (show (none : Option Nat) = some f from hg) (by simp)
  | 143, hg => exact absurd (show (none : Option Nat) = some f from hg) (by simp)
  | 144, hg => exact absurd (show (none : Option Nat) = some f from hg) (by simp)
  | 145, hg => exact absurd (show (none : Option Nat) = some f from hg) (by simp)
  | 146, hg => exact absurd (show (none : Option Nat) = some f from hg) (by simp)
  | 147, hg => exact absurd (show (none : Option Nat) = some f from hg) (by simp)
  | 148, hg => exact absurd (show (none : Option Nat) = some f from hg) (by simp)
  | 149, hg => exact absurd (show (none : Option Nat) = some f from hg) (by simp)
  | 150, hg => exact absurd (show (none : Option Nat) = some f from hg) (by simp)
  | 151, hg => exact absurd (show (none : Option Nat) = some f from hg) (by simp)
  | 152, hg => exact absurd (show (none : Option Nat) = some f from hg) (by simp)
  | 153, hg => exact absurd (show (none : Option Nat) = some f from hg) (by simp)
  | 154, hg =>
    obtain rfl : f = 79 := (Option.some.inj (show some 79 = some f from hg)).symm
    rw [prog_79] at hA; cases hA
  | 155, hg =>
    obtain rfl : f = 136 := (Option.some.inj (show some 136 = some f from hg)).symm
    rw [prog_136] at hA; cases hA
  | 156, hg => exact absurd (show (none : Option Nat) = some f from hg) (by simp)
  | 157, hg =>
    obtain rfl : f = 315 := (Option.some.inj (show some 315 = some f from hg)).symm
    rw [prog_315] at hA; cases hA
  | 158, hg => exact absurd (show (none : Option Nat) = some f from hg) (by simp)
  | 159, hg => exact absurd (show (none : Option Nat) = some f from hg) (by simp)
  | 160, hg => exact absurd (show (none : Option Nat) = some f from hg) (by simp)
  | 161, hg =>
    obtain rfl : f = 73 := (Option.some.inj (show some 73 = some f from hg)).symm
    obtain rfl : p = pCopyCheck := (AFn.primS.inj (Option.some.inj (prog_73.symm.trans hA))).symm
    exact primCopyCheck (g := gm) Tryz.laysCC Tryz.Builder_X72_CC rfl Tryz.func161 (by kernel_rfl) (by decide)
  | 162, hg => exact absurd (show (none : Option Nat) = some f from hg) (by simp)
  | 163, hg =>
    obtain rfl : f = 134 := (Option.some.inj (show some 134 = some f from hg)).symm
    rw [prog_134] at hA; cases hA
  | 164, hg =>
    obtain rfl : f = 78 := (Option.some.inj (show some 78 = some f from hg)).symm
    rw [prog_78] at hA; cases hA
  | 165, hg =>
    obtain rfl : f = 169 := (Option.some.inj (show some 169 = some f from hg)).symm
    rw [prog_169] at hA; cases hA
  | 166, hg => exact absurd (show (none : Option Nat) = some f from hg) (by simp)
  | 167, hg => exact absurd (show (none : Option Nat) = some f from hg) (by simp)
  | 168, hg => exact absurd (show (none : Option Nat) = some f from hg) (by simp)
  | 169, hg => exact absurd (show (none : Option Nat) = some f from hg) (by simp)
  | 170, hg => exact absurd (show (none : Option Nat) = some f from hg) (by simp)
  | 171, hg => exact absurd (show (none : Option Nat) = some f from hg) (by simp)
  | 172, hg => exact absurd (show (none : Option Nat) = some f from hg) (by simp)
  | 173, hg => exact absurd (show (none : Option Nat) = some f from hg) (by simp)
  | 174, hg => exact absurd (show (none : Option Nat) = some f from hg) (by simp)
  | 175, hg =>
    obtain rfl : f = 172 := (Option.some.inj (show some 172 = some f from hg)).symm
    rw [prog_172] at hA; cases hA
  | n + 176, hg => exact absurd (show (none : Option Nat) = some f from hg) (by simp)
theorem linked : Linked Tryz.prog gm prog := ⟨code_ok, prim_ok, primS_ok, by kernel_rfl⟩
end Go.Ab.YtihjnlnmgbabjaaGreatDoor
